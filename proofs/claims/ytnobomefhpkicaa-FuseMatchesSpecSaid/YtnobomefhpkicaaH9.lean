/- The law FuseMatchesSpec, walked: at every handed call it returns true. -/
import Derived.Test.YtnobomefhpkicaaH8
import Derived.Test.YtnobomefhpkicaaF8
import Derived.Test.YtnobomefhpkicaaP4
namespace Go.Proofs.Ytnobomefhpkicaa.P
open Go.RowKit Go.Proofs.YtnobomefhpkicaaW.PrintWords Go.Proofs.YtnobomefhpkicaaW.PrintLast Go.Proofs.YtnobomefhpkicaaW.PrintMore
set_option linter.unusedVariables false
set_option linter.unusedSimpArgs false

def errR (l : List (List Int)) (a1 a2 : Int) : Int := if inB l a1 a2 = true then 0 else 1
theorem refPulse_no (A : Option Addr) (c : Nat) (l0 : List (List Int)) (a1 a2 : Int) (a3 : Bool) (w : World) (hr : Kd.C (Kd.slice 5 (Kd.int .u8)) w A l0.length l0) (hc : l0.length ≤ c) (hne : ¬ (0 ≤ a1 ∧ a1 < (l0.length : Int) ∧ 0 ≤ a2 ∧ a2 < ((rd_L1 l0 a1).length : Int))) :
    Calls Try.prog 16 #[.agg #[.slice A l0.length c], .int .i64 a1, .int .i64 a2, .bool a3] w fun e w' => e = .returned (.tuple #[.agg #[.slice A l0.length c], .int .i64 1]) ∧ Below w.heap.size w w' := by
  have HR := Lib.hid hr
  have HD := Lib.hid (decide_eq_false hne)
  clear hr hne
  go_enter Try.func16, Try.ntmps16
  go_wp2_with fail
  refine (refExists_any A c l0 a1 a2 _ (Kd.C_alloc (Kd.C_alloc HR.out _) _) hc).mono ?_
  rintro e W1 ⟨rfl, hB1⟩
  rw [HD.out]
  have hbx : W1.cell? ⟨w.heap.size, 0, none⟩ = some (.slice A l0.length c) := (hB1.cell (p := ⟨w.heap.size, 0, none⟩) (by simp; omega)).trans ((Boxed.new w 24 (.slice A l0.length c)).alloc _).cell
  have bN := Boxed.new (w.alloc (.cells #[.slice A l0.length c] 24)) 24 (.slice none 0 0)
  rw [World.size_alloc] at bN
  have hbr : W1.cell? ⟨w.heap.size + 1, 0, none⟩ = some (.slice none 0 0) := (hB1.cell (p := ⟨w.heap.size + 1, 0, none⟩) (by simp)).trans bN.cell
  have hfr : W1.frozen? ⟨w.heap.size + 1, 0, none⟩ = false := (hB1.frozen (p := ⟨w.heap.size + 1, 0, none⟩) (by simp)).trans bN.frozen
  have HB := Lib.hid (((Below.refl w.heap.size w).alloc (Nat.le_refl _) (.cells #[.slice A l0.length c] 24)).alloc (by simp) (.cells #[.slice none 0 0] 24) |>.trans (hB1.mono (by simp; omega)))
  clear hB1 bN
  go_wp2_with fail
  refine bodyPost_ret (v := .tuple #[.agg #[.slice A l0.length c], .int .i64 1]) ?_ rfl ⟨rfl, HB.out.setCell (p := ⟨w.heap.size + 1, 0, none⟩) (by simp) _⟩
  have hc := World.cell?_setCell_same' W1 ⟨w.heap.size + 1, 0, none⟩ (.slice A l0.length c) (by rw [hbr]; rfl)
  simp [results, Try.results16, go_sem, hc]
theorem inB_iff (l : List (List Int)) (a1 a2 : Int) : inB l a1 a2 = true ↔ (0 ≤ a1 ∧ a1 < (l.length : Int) ∧ 0 ≤ a2 ∧ a2 < ((rd_L1 l a1).length : Int)) := by unfold inB; exact decide_eq_true_iff
theorem pulse1_no (l : List (List Int)) (a1 a2 : Int) (cut : Bool) (h : ¬ (0 ≤ a1 ∧ a1 < (l.length : Int) ∧ 0 ≤ a2 ∧ a2 < ((rd_L1 l a1).length : Int))) : pulse1 l a1 a2 cut = l := by
  unfold pulse1; rw [if_neg h]
/-- The reference's Pulse, told as the program's. -/
theorem refPulse_any (A : Option Addr) (c : Nat) (l0 : List (List Int)) (a1 a2 : Int) (a3 : Bool) (w : World) (hr : Kd.C (Kd.slice 5 (Kd.int .u8)) w A l0.length l0) (hc : l0.length ≤ c) (s : Small l0) (hv : validB l0 = true) :
    Calls Try.prog 16 #[.agg #[.slice A l0.length c], .int .i64 a1, .int .i64 a2, .bool a3] w fun e w' => ∃ A' c', e = .returned (.tuple #[.agg #[.slice A' (pulse1 l0 a1 a2 a3).length c'], .int .i64 (errR l0 a1 a2)]) ∧
      (pulse1 l0 a1 a2 a3).length ≤ c' ∧ Kd.C (Kd.slice 5 (Kd.int .u8)) w' A' (pulse1 l0 a1 a2 a3).length (pulse1 l0 a1 a2 a3) ∧ Below w.heap.size w w' := by
  unfold errR
  by_cases hy : 0 ≤ a1 ∧ a1 < (l0.length : Int) ∧ 0 ≤ a2 ∧ a2 < ((rd_L1 l0 a1).length : Int)
  · rw [if_pos ((inB_iff _ _ _).2 hy)]
    obtain ⟨n1, rfl⟩ := Int.eq_ofNat_of_zero_le hy.1
    obtain ⟨n2, rfl⟩ := Int.eq_ofNat_of_zero_le hy.2.2.1
    obtain ⟨ad, A1, c1, e, _⟩ := at_L1 hr n1 (by omega) (by omega)
    subst e
    have h3 : rd (rd_L1 l0 n1) n2 ≤ 3 := by
      unfold validB at hv
      simp only [Bool.and_eq_true, List.all_eq_true] at hv
      have h1 : n1 < l0.length := by omega
      have h2 : n2 < (rd_L1 l0 n1).length := by omega
      have hb := (okBank_iff _).1 (hv.2 (rd_L1 l0 n1) (by rw [rd_L1_mem l0 n1 h1]; exact List.getElem_mem _))
      rw [rd_at _ n2 h2]
      exact hb.2.2 _ (List.getElem_mem _)
    rw [← rpulse_eq l0 n1 n2 a3 (by omega) (by omega) h3]
    refine (refPulse_yes ad c l0 n1 n2 a3 w hr hc (by omega) (by omega) (by have := s.n; omega) (fun l hl => by have := (s.mem l hl).1; omega)).mono ?_
    rintro e w' ⟨v0, rfl, hV, hB⟩
    unfold rpulse
    obtain ⟨A3, c3, rfl⟩ := Kd.V_slice hV
    obtain ⟨_, hc3, hr3⟩ := Kd.V_reads' hV
    exact ⟨A3, c3, rfl, hc3, hr3, hB⟩
  · rw [if_neg (fun h => hy ((inB_iff _ _ _).1 h)), pulse1_no _ _ _ _ hy]
    refine (refPulse_no A c l0 a1 a2 a3 w hr hc hy).mono ?_
    rintro e w' ⟨rfl, hB⟩
    exact ⟨A, c, rfl, hc, Kd.C_below hr hB, hB⟩
theorem fusePulse_any (A : Option Addr) (c : Nat) (l0 : List (List Int)) (a1 a2 : Int) (a3 : Bool) (w : World) (hr : Kd.C (Kd.slice 5 (Kd.int .u8)) w A l0.length l0) (hc : l0.length ≤ c) (s : Small l0) :
    Calls Try.prog 15 #[.agg #[.slice A l0.length c], .int .i64 a1, .int .i64 a2, .bool a3] w fun e w' => ∃ A' c', e = .returned (.tuple #[.agg #[.slice A' (pulse1 l0 a1 a2 a3).length c'], .int .i64 (errR l0 a1 a2)]) ∧
      (pulse1 l0 a1 a2 a3).length ≤ c' ∧ Kd.C (Kd.slice 5 (Kd.int .u8)) w' A' (pulse1 l0 a1 a2 a3).length (pulse1 l0 a1 a2 a3) ∧ Below w.heap.size w w' := by
  have hf : fuse_Pulse.f l0 a1 a2 a3 = some (pulse1 l0 a1 a2 a3, errR l0 a1 a2) := by
    obtain ⟨e, he⟩ := pulse_eq l0 s a1 a2 a3
    have he' := he
    unfold fuse_Pulse.f at he'
    rw [he]
    unfold errR
    by_cases hy : 0 ≤ a1 ∧ a1 < (l0.length : Int) ∧ 0 ≤ a2 ∧ a2 < ((rd_L1 l0 a1).length : Int)
    · rw [if_pos ((inB_iff _ _ _).2 hy)]
      rw [if_pos hy] at he'
      split at he'
      · simp only [Option.some.injEq, Prod.mk.injEq] at he'
        rw [he'.2]
      · cases he'
    · rw [if_neg (fun h => hy ((inB_iff _ _ _).1 h))]
      rw [if_neg hy] at he'
      simp only [Option.some.injEq, Prod.mk.injEq] at he'
      rw [he'.2]
  refine (fuse_Pulse.calls _ A c l0 a1 a2 a3 _ _ w (V_of_C hr hc) hf).mono ?_
  rintro e w' ⟨v0, rfl, hV, hB⟩
  obtain ⟨A3, c3, rfl⟩ := Kd.V_slice hV
  obtain ⟨_, hc3, hr3⟩ := Kd.V_reads' hV
  exact ⟨A3, c3, rfl, hc3, hr3, hB⟩
def matches3.T9 : Bool × List (List Nat × List Nat) := (true, [([], []), ([0], [0]), ([], []), ([2, 1], [2]), ([1, 3], [1, 3]), ([4, 3], [4]), ([5], [5]), ([6, 5, 5], [5, 6]), ([7, 5], [5, 7]), ([5, 8], [5, 8])])
def matches3.B9 : List Nat := [0, 1, 0, 7, 15, 31, 63, 127, 255, 511]
theorem matches3.tab9 : rtab .any (opsOf Try.f3 9) = matches3.T9 := by kernel_rfl
theorem matches3.bits9 : waitsOk matches3.T9.2 matches3.B9 = true := by kernel_rfl
def matches3.T15 : Bool × List (List Nat × List Nat) := (true, [([], []), ([0, 0], [0]), ([1], [1]), ([1], [1]), ([2, 3, 1], [1, 2, 3]), ([1, 4], [1, 4]), ([5, 1], [5]), ([6], [6]), ([6], [6]), ([7, 8, 6], [6, 7, 8]), ([6, 9], [6, 9]), ([10, 6], [10]), ([11], [11]), ([11], [11]), ([12, 13, 11, 11], [11, 12, 13]), ([11, 14], [11, 14]), ([15, 14], [15]), ([16], [16]), ([16], [16]), ([17, 18, 16], [16, 17, 18]), ([16, 19], [16, 19]), ([20, 16], [20]), ([21], [21]), ([21], [21]), ([22, 23, 21, 21], [21, 22, 23]), ([21], [21]), ([21], [21]), ([25, 26, 24, 21], [21, 25, 26]), ([24, 27, 21], [21, 24, 27]), ([21, 28], [21, 28]), ([29, 27], [29]), ([30], [30]), ([30], [30]), ([31, 32, 30, 30], [30, 31, 32]), ([30], [30]), ([30], [30]), ([34, 35, 33, 30], [30, 34, 35]), ([33, 36, 30], [30, 33, 36]), ([30, 37], [30, 37]), ([38, 36], [38]), ([39], [39]), ([39], [39]), ([40, 41, 39, 39], [39, 40, 41]), ([39], [39]), ([39], [39]), ([43, 44, 42, 39], [39, 43, 44]), ([42, 45, 39], [39, 42, 45]), ([39, 46], [39, 46]), ([47, 45], [47]), ([48], [48]), ([49, 48, 48], [48, 49]), ([48], [48]), ([51, 50, 48], [48, 51]), ([50, 52, 48], [48, 50, 52]), ([48, 53], [48, 53]), ([54, 52, 0, 1, 2, 3, 4, 5, 6, 7, 8, 9, 10, 11, 12, 13, 14, 15, 16, 17, 18, 19, 20, 21, 22, 23, 24, 25, 26, 27, 28, 29, 30, 31, 32, 33, 34, 35, 36, 37, 38, 39, 40, 41, 42, 43, 44, 45, 46, 47, 48, 49, 50, 51, 52, 53, 54], [54])])
def matches3.B15 : List Nat := [0, 1, 3, 3, 15, 31, 63, 127, 127, 511, 1023, 2047, 4095, 4095, 16383, 32767, 65535, 131071, 131071, 524287, 1048575, 2097151, 4194303, 4194303, 16777215, 4194303, 4194303, 134217727, 268435455, 536870911, 1073741823, 2147483647, 2147483647, 8589934591, 2147483647, 2147483647, 68719476735, 137438953471, 274877906943, 549755813887, 1099511627775, 1099511627775, 4398046511103, 1099511627775, 1099511627775, 35184372088831, 70368744177663, 140737488355327, 281474976710655, 562949953421311, 1125899906842623, 562949953421311, 4503599627370495, 9007199254740991, 18014398509481983, 36028797018963967]
theorem matches3.tab15 : rtab .any (opsOf Try.f3 15) = matches3.T15 := by kernel_rfl
theorem matches3.bits15 : waitsOk matches3.T15.2 matches3.B15 = true := by kernel_rfl
set_option maxRecDepth 100000 in
set_option maxHeartbeats 8000000 in
theorem matches_any (A : Option Addr) (c : Nat) (l : List (List Int)) (a1 a2 : Int) (fl : Bool) (w : World) (hr : Kd.C (Kd.slice 5 (Kd.int .u8)) w A l.length l) (hc : l.length ≤ c) :
    Calls Try.prog 3 #[.agg #[.slice A l.length c], .int .i64 a1, .int .i64 a2, .bool fl] w fun e w' => e = .returned (.bool true) ∧ Below w.heap.size w w' := by
  have hB0 : Below w.heap.size w (w.alloc (.cells #[.slice A l.length c] 24)) := (Below.refl _ _).alloc (Nat.le_refl _) _
  by_cases h6 : l.length > 6
  · have hd : decide (6 < l.length) = true := decide_eq_true (by omega)
    go_enter Try.func3, Try.ntmps3
    go_wp2_with fail
    refine (sanity_any _).mono ?_
    rintro e W1 ⟨rfl, hB1⟩
    have HB := Lib.hid (hB0.trans (hB1.mono (by simp)))
    clear hB1
    go_wp2_with fail
    go_ret
    exact ⟨rfl, HB.out⟩
  have hd : decide (6 < l.length) = false := decide_eq_false (by omega)
  have HR_f := Lib.hid (Kd.C_below hr hB0)
  have hc_f := (Boxed.new w 24 (.slice A l.length c)).cell
  have hl_f : w.heap.size < (w.alloc (.cells #[.slice A l.length c] 24)).heap.size := by simp
  have HB := Lib.hid hB0
  clear hr hB0
  go_enter Try.func3, Try.ntmps3
  go_wp2_with fail
  obtain ⟨W0, hW0⟩ : ∃ W0, w.alloc (.cells #[.slice A l.length c] 24) = W0 := ⟨_, rfl⟩
  rw [hW0] at hc_f HR_f hl_f HB ⊢
  clear hW0
  go_loop [27] (fun i => ∃ j : Nat, j ≤ l.length ∧ i = .int .i64 j ∧ ∀ x, x ∈ l.take j → x.length ≤ 60) (fun i => l.length - (intOf i).toNat)
  case atStart => exact ⟨0, Nat.zero_le _, rfl, fun x h => by simp at h⟩
  case round =>
  obtain ⟨j, hj, rfl, hx⟩ := hrel
  have HX := Lib.hid hx
  clear hx
  by_cases hlt : j < l.length
  · have hd2 : decide ((j : Int) < (l.length : Int)) = true := by simp; omega
    obtain ⟨ad, A1, c1, e, hx, hlc, hi⟩ := at_L1 HR_f.out j (by omega) (by omega)
    subst e
    rw [Int.toNat_natCast] at hx
    clear hi
    by_cases h60 : (rd_L1 l j).length > 60
    · have hd3 : decide (60 < (rd_L1 l j).length) = true := decide_eq_true h60
      go_wp2_with fail
      refine (sanity_any _).mono ?_
      rintro e W1 ⟨rfl, hB1⟩
      have HB1 := Lib.hid (HB.out.trans (hB1.mono HB.out.size))
      clear hB1
      go_wp2_with fail
      go_ret
      exact ⟨rfl, HB1.out⟩
    · have hd3 : decide (60 < (rd_L1 l j).length) = false := decide_eq_false h60
      have HX2 := Lib.hid (show ∀ x, x ∈ l.take (j + 1) → x.length ≤ 60 from by
        intro x hx
        rw [List.take_succ_eq_append_getElem hlt, List.mem_append, List.mem_singleton] at hx
        rcases hx with hx | hx
        · exact HX.out x hx
        · rw [hx, ← rd_L1_mem l j hlt]; omega)
      go_wp2_with fail
      go_round
      case rel => exact ⟨j + 1, by omega, by go_num, HX2.out⟩
      case measure => simp [intOf]; omega
  have hjl : j = l.length := by omega
  subst hjl
  have hall : ∀ x ∈ l, x.length ≤ 60 := fun x hx => HX.out x (by rw [List.take_length]; exact hx)
  have hfv : fuse_Valid.f l = some (validB l) := by
    unfold fuse_Valid.f validB
    rw [if_pos ⟨by omega, fun c hc => by have := hall c hc; omega⟩, Bool.and_comm]
  obtain ⟨kv, hrv⟩ := (ref_valid l).rounds
  have HFV := Lib.hid hfv
  have HRV := Lib.hid hrv
  clear hfv hrv HX
  go_upto_region 9 with (fail)
  have hBd : Below W0.heap.size W0 W0.drew := (Below.refl _ _).drew
  have hc_d : W0.drew.cell? ⟨w.heap.size, 0, none⟩ = some (.slice A l.length c) := hc_f
  refine start_ (n := 10) (S := fun w' => w'.cell? ⟨w.heap.size, 0, none⟩ = some (.slice A l.length c)) (ds := []) #[false, false, false, false, false, false, false, false, false, false] (by kernel_rfl) rfl rfl hc_d (fun hHeld => ?_)
  refine with_tabW matches3.tab9 matches3.bits9 (fun HT_ HW_ => ?_)
  generalize hwd : W0.drew = W0' at hBd hc_d hHeld ⊢
  clear hc_d
  have hBc : Below W0.heap.size W0 W0' := hBd
  have hcx := (hBc.cell (p := ⟨w.heap.size, 0, none⟩) hl_f).trans hc_f
  clear hc_f
  have hc_f := hcx
  clear hcx
  have HRx := Lib.hid (Kd.C_below HR_f.out hBc)
  clear HR_f
  have HR_f := HRx
  clear HRx
  have hlx : w.heap.size < W0'.heap.size := by have := hBc.size; omega
  clear hl_f
  have hl_f := hlx
  clear hlx
  have HBx := Lib.hid (HB.out.trans (hBc.mono HB.out.size))
  clear HB
  have HB := HBx
  clear HBx hBc
  clear hBd hwd
  refine take_ (i := 0) (N := some 36) (v := ?_) (a' := ?_) #[true, false, false, false, false, false, false, false, false, false] rfl rfl (take_ofW HT_.out HW_.out (by kernel_rfl)) (fun _ _ _ h => h) (Or.inl ⟨by rfl, ?_⟩) hHeld ?_ ?_
  rotate_left
  · rintro w' s0
    go_simp
    first | done | (with_reducible rfl)
  rotate_left
  · simp only [Act.put, List.setIfInBounds_toArray, List.set_cons_zero, List.set_cons_succ, i64_w, i32_w]
    rfl
  refine take_ (i := 2) (N := some 38) (v := ?_) (a' := ?_) #[true, false, true, false, false, false, false, false, false, false] rfl rfl (take_ofW HT_.out HW_.out (by kernel_rfl)) (fun _ _ _ h => h) (Or.inl ⟨by rfl, ?_⟩) hHeld ?_ ?_
  rotate_left
  · rintro w' s0
    go_simp
    first | done | (with_reducible rfl)
  rotate_left
  · simp only [Act.put, List.setIfInBounds_toArray, List.set_cons_zero, List.set_cons_succ, i64_w, i32_w]
    rfl
  refine one_ (i := 1) (N := some 37) #[true, true, true, false, false, false, false, false, false, false] rfl rfl (one_of HT_.out (by kernel_rfl)) (by decide) (fun K hK => ?_)
  refine goes_ Try.func11 (by kernel_rfl) rfl #[.agg #[.slice A l.length c]] (by rfl) rfl rfl (by (try simp only [List.map_toArray, List.map_cons, List.map_nil]); first | done | rfl) ?_
  refine (fuse_Valid.calls A c l (validB l) _ HR_f.out hc HFV.out).mono ?_
  rintro e W1 ⟨rfl, hBn⟩
  have hBc : Below W0'.heap.size W0' W1 := hBn
  have hcx := (hBc.cell (p := ⟨w.heap.size, 0, none⟩) hl_f).trans hc_f
  clear hc_f
  have hc_f := hcx
  clear hcx
  have HRx := Lib.hid (Kd.C_below HR_f.out hBc)
  clear HR_f
  have HR_f := HRx
  clear HRx
  have hlx : w.heap.size < W1.heap.size := by have := hBc.size; omega
  clear hl_f
  have hl_f := hlx
  clear hlx
  have HBx := Lib.hid (HB.out.trans (hBc.mono HB.out.size))
  clear HB
  have HB := HBx
  clear HBx hBc
  clear hBn
  refine ⟨_, rfl, ?_⟩
  refine hK.out _ _ hc_f (fun hHeld => ?_)
  clear hK K
  refine norm_ (a' := ?_) ?_ ?_
  rotate_left
  · show Act.put _ (some 37) _ = _
    simp only [Act.put, List.setIfInBounds_toArray, List.set_cons_zero, List.set_cons_succ, i64_w, i32_w]
    rfl
  refine one_ (i := 3) (N := some 39) #[true, true, true, true, false, false, false, false, false, false] rfl rfl (one_of HT_.out (by kernel_rfl)) (by decide) (fun K hK => ?_)
  refine goes_ Try.func12 (by kernel_rfl) rfl #[.agg #[.slice A l.length c]] (by rfl) rfl rfl (by (try simp only [List.map_toArray, List.map_cons, List.map_nil]); first | done | rfl) ?_
  refine (bootchainref07_Valid.calls kv A c l (validB l) _ HR_f.out hc HRV.out).mono ?_
  rintro e W2 ⟨rfl, hBn⟩
  have hBc : Below W1.heap.size W1 W2 := hBn
  have hcx := (hBc.cell (p := ⟨w.heap.size, 0, none⟩) hl_f).trans hc_f
  clear hc_f
  have hc_f := hcx
  clear hcx
  have HRx := Lib.hid (Kd.C_below HR_f.out hBc)
  clear HR_f
  have HR_f := HRx
  clear HRx
  have hlx : w.heap.size < W2.heap.size := by have := hBc.size; omega
  clear hl_f
  have hl_f := hlx
  clear hlx
  have HBx := Lib.hid (HB.out.trans (hBc.mono HB.out.size))
  clear HB
  have HB := HBx
  clear HBx hBc
  clear hBn
  refine ⟨_, rfl, ?_⟩
  refine hK.out _ _ hc_f (fun hHeld => ?_)
  clear hK K
  refine norm_ (a' := ?_) ?_ ?_
  rotate_left
  · show Act.put _ (some 39) _ = _
    simp only [Act.put, List.setIfInBounds_toArray, List.set_cons_zero, List.set_cons_succ, i64_w, i32_w]
    rfl
  refine pure_ (i := 4) (N := some 40) (v := ?_) (a' := ?_) #[true, true, true, true, true, false, false, false, false, false] rfl rfl (any_of HT_.out (by kernel_rfl)) (fun _ _ _ h => h) (Or.inl ⟨by rfl, ?_⟩) ?_ ?_
  rotate_left
  · intro w'
    go_simp
    first | done | (with_reducible rfl)
  rotate_left
  · simp only [Act.put, List.setIfInBounds_toArray, List.set_cons_zero, List.set_cons_succ, i64_w, i32_w]
    rfl
  refine pure_ (i := 5) (N := some 41) (v := ?_) (a' := ?_) #[true, true, true, true, true, true, false, false, false, false] rfl rfl (any_of HT_.out (by kernel_rfl)) (fun _ _ _ h => h) (Or.inl ⟨by rfl, ?_⟩) ?_ ?_
  rotate_left
  · intro w'
    go_simp
    first | done | (with_reducible rfl)
  rotate_left
  · simp only [Act.put, List.setIfInBounds_toArray, List.set_cons_zero, List.set_cons_succ, i64_w, i32_w]
    rfl
  refine take_ (i := 6) (N := some 42) (v := ?_) (a' := ?_) #[true, true, true, true, true, true, true, false, false, false] rfl rfl (take_ofW HT_.out HW_.out (by kernel_rfl)) (fun _ _ _ h => h) (Or.inl ⟨by rfl, ?_⟩) hHeld ?_ ?_
  rotate_left
  · rintro w' s0
    go_simp
    first | done | (with_reducible rfl)
  rotate_left
  · simp only [Act.put, List.setIfInBounds_toArray, List.set_cons_zero, List.set_cons_succ, i64_w, i32_w]
    rfl
  refine one_ (i := 7) (N := some 43) #[true, true, true, true, true, true, true, true, false, false] rfl rfl (one_of HT_.out (by kernel_rfl)) (by decide) (fun K hK => ?_)
  refine goes_ Try.func12 (by kernel_rfl) rfl #[.agg #[.slice A l.length c]] (by rfl) rfl rfl (by (try simp only [List.map_toArray, List.map_cons, List.map_nil]); first | done | rfl) ?_
  refine (bootchainref07_Valid.calls kv A c l (validB l) _ HR_f.out hc HRV.out).mono ?_
  rintro e W3 ⟨rfl, hBn⟩
  have hBc : Below W2.heap.size W2 W3 := hBn
  have hcx := (hBc.cell (p := ⟨w.heap.size, 0, none⟩) hl_f).trans hc_f
  clear hc_f
  have hc_f := hcx
  clear hcx
  have HRx := Lib.hid (Kd.C_below HR_f.out hBc)
  clear HR_f
  have HR_f := HRx
  clear HRx
  have hlx : w.heap.size < W3.heap.size := by have := hBc.size; omega
  clear hl_f
  have hl_f := hlx
  clear hlx
  have HBx := Lib.hid (HB.out.trans (hBc.mono HB.out.size))
  clear HB
  have HB := HBx
  clear HBx hBc
  clear hBn
  refine ⟨_, rfl, ?_⟩
  refine hK.out _ _ hc_f (fun hHeld => ?_)
  clear hK K
  refine norm_ (a' := ?_) ?_ ?_
  rotate_left
  · show Act.put _ (some 43) _ = _
    simp only [Act.put, List.setIfInBounds_toArray, List.set_cons_zero, List.set_cons_succ, i64_w, i32_w]
    rfl
  refine pure_ (i := 8) (N := some 44) (v := ?_) (a' := ?_) #[true, true, true, true, true, true, true, true, true, false] rfl rfl (any_of HT_.out (by kernel_rfl)) (fun _ _ _ h => h) (Or.inl ⟨by rfl, ?_⟩) ?_ ?_
  rotate_left
  · intro w'
    go_simp
    first | done | (with_reducible rfl)
  rotate_left
  · simp only [Act.put, List.setIfInBounds_toArray, List.set_cons_zero, List.set_cons_succ, i64_w, i32_w]
    rfl
  refine pure_ (i := 9) (N := some 45) (v := ?_) (a' := ?_) #[true, true, true, true, true, true, true, true, true, true] rfl rfl (any_of HT_.out (by kernel_rfl)) (fun _ _ _ h => h) (Or.inl ⟨by rfl, ?_⟩) ?_ ?_
  rotate_left
  · intro w'
    go_simp
    first | done | (with_reducible rfl)
  rotate_left
  · simp only [Act.put, List.setIfInBounds_toArray, List.set_cons_zero, List.set_cons_succ, i64_w, i32_w]
    rfl
  refine done_ (done_of HT_.out (by kernel_rfl)) ?_
  cases hvb : validB l
  · rw [hvb] at HFV HRV
    try rw [hvb]
    go_wp2_with fail
    refine (sanity_any _).mono ?_
    rintro e W4 ⟨rfl, hBn⟩
    have hBc : Below W3.heap.size W3 W4 := hBn
    have hcx := (hBc.cell (p := ⟨w.heap.size, 0, none⟩) hl_f).trans hc_f
    clear hc_f
    have hc_f := hcx
    clear hcx
    have HRx := Lib.hid (Kd.C_below HR_f.out hBc)
    clear HR_f
    have HR_f := HRx
    clear HRx
    have hlx : w.heap.size < W4.heap.size := by have := hBc.size; omega
    clear hl_f
    have hl_f := hlx
    clear hlx
    have HBx := Lib.hid (HB.out.trans (hBc.mono HB.out.size))
    clear HB
    have HB := HBx
    clear HBx hBc
    clear hBn
    go_wp2_with fail
    refine (fuse_Valid.calls A c l false _ HR_f.out hc HFV.out).mono ?_
    rintro e W5 ⟨rfl, hBn⟩
    have hBc : Below W4.heap.size W4 W5 := hBn
    have hcx := (hBc.cell (p := ⟨w.heap.size, 0, none⟩) hl_f).trans hc_f
    clear hc_f
    have hc_f := hcx
    clear hcx
    have HRx := Lib.hid (Kd.C_below HR_f.out hBc)
    clear HR_f
    have HR_f := HRx
    clear HRx
    have hlx : w.heap.size < W5.heap.size := by have := hBc.size; omega
    clear hl_f
    have hl_f := hlx
    clear hlx
    have HBx := Lib.hid (HB.out.trans (hBc.mono HB.out.size))
    clear HB
    have HB := HBx
    clear HBx hBc
    clear hBn
    go_wp2_with fail
    refine (bootchainref07_Valid.calls kv A c l false _ HR_f.out hc HRV.out).mono ?_
    rintro e W6 ⟨rfl, hBn⟩
    have hBc : Below W5.heap.size W5 W6 := hBn
    have hcx := (hBc.cell (p := ⟨w.heap.size, 0, none⟩) hl_f).trans hc_f
    clear hc_f
    have hc_f := hcx
    clear hcx
    have HRx := Lib.hid (Kd.C_below HR_f.out hBc)
    clear HR_f
    have HR_f := HRx
    clear HRx
    have hlx : w.heap.size < W6.heap.size := by have := hBc.size; omega
    clear hl_f
    have hl_f := hlx
    clear hlx
    have HBx := Lib.hid (HB.out.trans (hBc.mono HB.out.size))
    clear HB
    have HB := HBx
    clear HBx hBc
    clear hBn
    go_wp2_with fail
    go_ret
    exact ⟨rfl, HB.out⟩
  · rw [hvb] at HFV HRV
    try rw [hvb]
    have s := small_of l hvb
    obtain ⟨kl, hlr⟩ := (ref_least l s a1).rounds
    obtain ⟨km, hmr⟩ := (ref_most l s a1).rounds
    obtain ⟨kn, hsr⟩ := (ref_sound l s).rounds
    have HLR := Lib.hid hlr
    have HMR := Lib.hid hmr
    have HSR := Lib.hid hsr
    have HSF := Lib.hid (fuse_sound l s)
    have HWF := Lib.hid (width_f l s a1)
    have HLF := Lib.hid (show fuse_Least.f l a1 = some (levelR l a1 false) from level_f l s a1 false)
    have HMF := Lib.hid (show fuse_Most.f l a1 = some (levelR l a1 true) from level_f l s a1 true)
    have HS := Lib.hid s
    clear s hlr hmr hsr
    obtain ⟨r1, hr1⟩ : ∃ r, readR l a1 a2 fl = r := ⟨_, rfl⟩
    obtain ⟨n1, n2⟩ := r1
    have HF1 := Lib.hid ((fuse_read l a1 a2 fl).trans (congrArg some hr1))
    have HF2 := Lib.hid ((ref_read l a1 a2 fl).trans (congrArg some hr1))
    clear hr1
    go_wp2_with fail
    refine (fuse_Read.calls A c l a1 a2 fl n1 n2 _ HR_f.out hc HF1.out).mono ?_
    rintro e W7 ⟨rfl, hBn⟩
    have hBc : Below W3.heap.size W3 W7 := hBn
    have hcx := (hBc.cell (p := ⟨w.heap.size, 0, none⟩) hl_f).trans hc_f
    clear hc_f
    have hc_f := hcx
    clear hcx
    have HRx := Lib.hid (Kd.C_below HR_f.out hBc)
    clear HR_f
    have HR_f := HRx
    clear HRx
    have hlx : w.heap.size < W7.heap.size := by have := hBc.size; omega
    clear hl_f
    have hl_f := hlx
    clear hlx
    have HBx := Lib.hid (HB.out.trans (hBc.mono HB.out.size))
    clear HB
    have HB := HBx
    clear HBx hBc
    clear hBn
    go_wp2_with fail
    refine (bootchainref07_Read.calls A c l a1 a2 fl n1 n2 _ HR_f.out hc HF2.out).mono ?_
    rintro e W8 ⟨rfl, hBn⟩
    have hBc : Below W7.heap.size W7 W8 := hBn
    have hcx := (hBc.cell (p := ⟨w.heap.size, 0, none⟩) hl_f).trans hc_f
    clear hc_f
    have hc_f := hcx
    clear hcx
    have HRx := Lib.hid (Kd.C_below HR_f.out hBc)
    clear HR_f
    have HR_f := HRx
    clear HRx
    have hlx : w.heap.size < W8.heap.size := by have := hBc.size; omega
    clear hl_f
    have hl_f := hlx
    clear hlx
    have HBx := Lib.hid (HB.out.trans (hBc.mono HB.out.size))
    clear HB
    have HB := HBx
    clear HBx hBc
    clear hBn
    obtain ⟨g, hg⟩ : ∃ g, pulse1 l a1 a2 fl = g := ⟨_, rfl⟩
    obtain ⟨er, her⟩ : ∃ er, errR l a1 a2 = er := ⟨_, rfl⟩
    have HG1 := fun W h => fusePulse_any A c l a1 a2 fl W h hc HS.out
    have HG2 := fun W h => refPulse_any A c l a1 a2 fl W h hc HS.out hvb
    rw [hg, her] at HG1 HG2
    have HGA := (hg ▸ pulse_adv l a1 a2 fl : Adv l g)
    have HGS := Lib.hid (HGA.small HS.out)
    clear HGA hg her
    obtain ⟨ks, hsa⟩ := (same_self g HGS.out).rounds
    have HSA := Lib.hid hsa
    clear hsa
    have HG1 := Lib.hid HG1
    have HG2 := Lib.hid HG2
    go_wp2_with fail
    refine (HG1.out _ HR_f.out).mono ?_
    rintro e W9 ⟨A1, c1, rfl, hcg, hrn, hBn⟩
    have HRG := Lib.hid hrn
    clear hrn
    have hBc : Below W8.heap.size W8 W9 := hBn
    have hcx := (hBc.cell (p := ⟨w.heap.size, 0, none⟩) hl_f).trans hc_f
    clear hc_f
    have hc_f := hcx
    clear hcx
    have HRx := Lib.hid (Kd.C_below HR_f.out hBc)
    clear HR_f
    have HR_f := HRx
    clear HRx
    have hlx : w.heap.size < W9.heap.size := by have := hBc.size; omega
    clear hl_f
    have hl_f := hlx
    clear hlx
    have HBx := Lib.hid (HB.out.trans (hBc.mono HB.out.size))
    clear HB
    have HB := HBx
    clear HBx hBc
    clear hBn
    have ha_f : ∀ o, (W9.alloc o).cell? ⟨w.heap.size, 0, none⟩ = some (.slice A l.length c) := fun o => (((Below.refl W9.heap.size W9).alloc (Nat.le_refl _) o).cell (p := ⟨w.heap.size, 0, none⟩) hl_f).trans hc_f
    go_wp2_with fail
    clear ha_f
    refine (HG2.out _ (Kd.C_alloc HR_f.out _)).mono ?_
    rintro e W10 ⟨A2, c2, rfl, hch, hrn, hBn⟩
    have HRH := Lib.hid hrn
    clear hrn
    have hc_g : W10.cell? ⟨W9.heap.size, 0, none⟩ = some (.slice A1 g.length c1) := (hBn.cell (p := ⟨W9.heap.size, 0, none⟩) (by simp)).trans (Boxed.new W9 24 (.slice A1 g.length c1)).cell
    have HR_g := Lib.hid (Kd.C_below (Kd.C_alloc HRG.out _) hBn)
    have hl_g : W9.heap.size < W10.heap.size := by have := hBn.size; simp at this; omega
    clear HRG
    have hBc : Below W9.heap.size W9 W10 := ((Below.refl W9.heap.size W9).alloc (Nat.le_refl _) _).trans (hBn.mono (by simp))
    have hcx := (hBc.cell (p := ⟨w.heap.size, 0, none⟩) hl_f).trans hc_f
    clear hc_f
    have hc_f := hcx
    clear hcx
    have HRx := Lib.hid (Kd.C_below HR_f.out hBc)
    clear HR_f
    have HR_f := HRx
    clear HRx
    have hlx : w.heap.size < W10.heap.size := by have := hBc.size; omega
    clear hl_f
    have hl_f := hlx
    clear hlx
    have HBx := Lib.hid (HB.out.trans (hBc.mono HB.out.size))
    clear HB
    have HB := HBx
    clear HBx hBc
    clear hBn
    have ha_f : ∀ o, (W10.alloc o).cell? ⟨w.heap.size, 0, none⟩ = some (.slice A l.length c) := fun o => (((Below.refl W10.heap.size W10).alloc (Nat.le_refl _) o).cell (p := ⟨w.heap.size, 0, none⟩) hl_f).trans hc_f
    have ha_g : ∀ o, (W10.alloc o).cell? ⟨W9.heap.size, 0, none⟩ = some (.slice A1 g.length c1) := fun o => (((Below.refl W10.heap.size W10).alloc (Nat.le_refl _) o).cell (p := ⟨W9.heap.size, 0, none⟩) hl_g).trans hc_g
    go_upto_region 15 with (fail)
    clear ha_f ha_g
    have hBd : Below W10.heap.size W10 (W10.alloc (.cells #[.slice A2 g.length c2] 24)).drew := ((Below.refl _ _).alloc (Nat.le_refl _) _).drew
    have hc_h : (W10.alloc (.cells #[.slice A2 g.length c2] 24)).drew.cell? ⟨W10.heap.size, 0, none⟩ = some (.slice A2 g.length c2) := (Boxed.new W10 24 (.slice A2 g.length c2)).cell
    have HR_h := Lib.hid (Kd.C_drew (Kd.C_alloc HRH.out (.cells #[.slice A2 g.length c2] 24)))
    have hl_h : W10.heap.size < (W10.alloc (.cells #[.slice A2 g.length c2] 24)).drew.heap.size := by show _ < (W10.alloc _).heap.size; simp
    clear HRH
    have hd_f := (hBd.cell (p := ⟨w.heap.size, 0, none⟩) hl_f).trans hc_f
    have hd_g := (hBd.cell (p := ⟨W9.heap.size, 0, none⟩) hl_g).trans hc_g
    refine start_ (n := 56) (S := fun w' => w'.cell? ⟨w.heap.size, 0, none⟩ = some (.slice A l.length c) ∧ w'.cell? ⟨W9.heap.size, 0, none⟩ = some (.slice A1 g.length c1) ∧ w'.cell? ⟨W10.heap.size, 0, none⟩ = some (.slice A2 g.length c2)) (ds := []) #[false, false, false, false, false, false, false, false, false, false, false, false, false, false, false, false, false, false, false, false, false, false, false, false, false, false, false, false, false, false, false, false, false, false, false, false, false, false, false, false, false, false, false, false, false, false, false, false, false, false, false, false, false, false, false, false] (by kernel_rfl) rfl rfl ⟨hd_f, hd_g, hc_h⟩ (fun hHeld => ?_)
    refine with_tabW matches3.tab15 matches3.bits15 (fun HT_ HW_ => ?_)
    generalize hwd : (W10.alloc (.cells #[.slice A2 g.length c2] 24)).drew = WD at hBd hd_f hd_g hc_h HR_h hl_h hHeld ⊢
    clear hd_f hd_g hwd
    have hBc : Below W10.heap.size W10 WD := hBd
    have hcx := (hBc.cell (p := ⟨w.heap.size, 0, none⟩) hl_f).trans hc_f
    clear hc_f
    have hc_f := hcx
    clear hcx
    have HRx := Lib.hid (Kd.C_below HR_f.out hBc)
    clear HR_f
    have HR_f := HRx
    clear HRx
    have hlx : w.heap.size < WD.heap.size := by have := hBc.size; omega
    clear hl_f
    have hl_f := hlx
    clear hlx
    have hcx := (hBc.cell (p := ⟨W9.heap.size, 0, none⟩) hl_g).trans hc_g
    clear hc_g
    have hc_g := hcx
    clear hcx
    have HRx := Lib.hid (Kd.C_below HR_g.out hBc)
    clear HR_g
    have HR_g := HRx
    clear HRx
    have hlx : W9.heap.size < WD.heap.size := by have := hBc.size; omega
    clear hl_g
    have hl_g := hlx
    clear hlx
    have HBx := Lib.hid (HB.out.trans (hBc.mono HB.out.size))
    clear HB
    have HB := HBx
    clear HBx hBc
    clear hBd
    refine one_ (i := 0) (N := some 89) #[true, false, false, false, false, false, false, false, false, false, false, false, false, false, false, false, false, false, false, false, false, false, false, false, false, false, false, false, false, false, false, false, false, false, false, false, false, false, false, false, false, false, false, false, false, false, false, false, false, false, false, false, false, false, false, false] rfl rfl (one_of HT_.out (by kernel_rfl)) (by decide) (fun K hK => ?_)
    refine goes_ Try.func10 (by kernel_rfl) rfl #[] (by rfl) rfl rfl (by (try simp only [List.map_toArray, List.map_cons, List.map_nil]); first | done | rfl) ?_
    refine (sanity_any _).mono ?_
    rintro e W11 ⟨rfl, hBn⟩
    have hBc : Below WD.heap.size WD W11 := hBn
    have hcx := (hBc.cell (p := ⟨w.heap.size, 0, none⟩) hl_f).trans hc_f
    clear hc_f
    have hc_f := hcx
    clear hcx
    have HRx := Lib.hid (Kd.C_below HR_f.out hBc)
    clear HR_f
    have HR_f := HRx
    clear HRx
    have hlx : w.heap.size < W11.heap.size := by have := hBc.size; omega
    clear hl_f
    have hl_f := hlx
    clear hlx
    have hcx := (hBc.cell (p := ⟨W9.heap.size, 0, none⟩) hl_g).trans hc_g
    clear hc_g
    have hc_g := hcx
    clear hcx
    have HRx := Lib.hid (Kd.C_below HR_g.out hBc)
    clear HR_g
    have HR_g := HRx
    clear HRx
    have hlx : W9.heap.size < W11.heap.size := by have := hBc.size; omega
    clear hl_g
    have hl_g := hlx
    clear hlx
    have hcx := (hBc.cell (p := ⟨W10.heap.size, 0, none⟩) hl_h).trans hc_h
    clear hc_h
    have hc_h := hcx
    clear hcx
    have HRx := Lib.hid (Kd.C_below HR_h.out hBc)
    clear HR_h
    have HR_h := HRx
    clear HRx
    have hlx : W10.heap.size < W11.heap.size := by have := hBc.size; omega
    clear hl_h
    have hl_h := hlx
    clear hlx
    have HBx := Lib.hid (HB.out.trans (hBc.mono HB.out.size))
    clear HB
    have HB := HBx
    clear HBx hBc
    clear hBn
    refine ⟨_, rfl, ?_⟩
    refine hK.out _ _ ⟨hc_f, hc_g, hc_h⟩ (fun hHeld => ?_)
    clear hK K
    refine norm_ (a' := ?_) ?_ ?_
    rotate_left
    · show Act.put _ (some 89) _ = _
      simp only [Act.put, List.setIfInBounds_toArray, List.set_cons_zero, List.set_cons_succ, i64_w, i32_w]
      rfl
    refine pure_ (i := 1) (N := some 90) (v := ?_) (a' := ?_) #[true, true, false, false, false, false, false, false, false, false, false, false, false, false, false, false, false, false, false, false, false, false, false, false, false, false, false, false, false, false, false, false, false, false, false, false, false, false, false, false, false, false, false, false, false, false, false, false, false, false, false, false, false, false, false, false] rfl rfl (any_of HT_.out (by kernel_rfl)) (fun _ _ _ h => h) (Or.inl ⟨by rfl, ?_⟩) ?_ ?_
    rotate_left
    · intro w'
      go_simp
      first | done | (with_reducible rfl)
    rotate_left
    · simp only [Act.put, List.setIfInBounds_toArray, List.set_cons_zero, List.set_cons_succ, i64_w, i32_w]
      rfl
    refine pure_ (i := 2) (N := some 91) (v := ?_) (a' := ?_) #[true, true, true, false, false, false, false, false, false, false, false, false, false, false, false, false, false, false, false, false, false, false, false, false, false, false, false, false, false, false, false, false, false, false, false, false, false, false, false, false, false, false, false, false, false, false, false, false, false, false, false, false, false, false, false, false] rfl rfl (any_of HT_.out (by kernel_rfl)) (fun _ _ _ h => h) (Or.inl ⟨by rfl, ?_⟩) ?_ ?_
    rotate_left
    · intro w'
      go_simp
      first | done | (with_reducible rfl)
    rotate_left
    · simp only [Act.put, List.setIfInBounds_toArray, List.set_cons_zero, List.set_cons_succ, i64_w, i32_w]
      rfl
    refine pure_ (i := 3) (N := some 92) (v := ?_) (a' := ?_) #[true, true, true, true, false, false, false, false, false, false, false, false, false, false, false, false, false, false, false, false, false, false, false, false, false, false, false, false, false, false, false, false, false, false, false, false, false, false, false, false, false, false, false, false, false, false, false, false, false, false, false, false, false, false, false, false] rfl rfl (any_of HT_.out (by kernel_rfl)) (fun _ _ _ h => h) (Or.inl ⟨by rfl, ?_⟩) ?_ ?_
    rotate_left
    · intro w'
      go_simp
      first | done | (with_reducible rfl)
    rotate_left
    · simp only [Act.put, List.setIfInBounds_toArray, List.set_cons_zero, List.set_cons_succ, i64_w, i32_w]
      rfl
    refine pure_ (i := 4) (N := some 93) (v := ?_) (a' := ?_) #[true, true, true, true, true, false, false, false, false, false, false, false, false, false, false, false, false, false, false, false, false, false, false, false, false, false, false, false, false, false, false, false, false, false, false, false, false, false, false, false, false, false, false, false, false, false, false, false, false, false, false, false, false, false, false, false] rfl rfl (any_of HT_.out (by kernel_rfl)) (fun _ _ _ h => h) (Or.inl ⟨by rfl, ?_⟩) ?_ ?_
    rotate_left
    · intro w'
      go_simp
      first | done | (with_reducible rfl)
    rotate_left
    · simp only [Act.put, List.setIfInBounds_toArray, List.set_cons_zero, List.set_cons_succ, i64_w, i32_w]
      rfl
    refine pure_ (i := 5) (N := some 94) (v := ?_) (a' := ?_) #[true, true, true, true, true, true, false, false, false, false, false, false, false, false, false, false, false, false, false, false, false, false, false, false, false, false, false, false, false, false, false, false, false, false, false, false, false, false, false, false, false, false, false, false, false, false, false, false, false, false, false, false, false, false, false, false] rfl rfl (any_of HT_.out (by kernel_rfl)) (fun _ _ _ h => h) (Or.inl ⟨by rfl, ?_⟩) ?_ ?_
    rotate_left
    · intro w'
      go_simp
      first | done | (with_reducible rfl)
    rotate_left
    · simp only [Act.put, List.setIfInBounds_toArray, List.set_cons_zero, List.set_cons_succ, i64_w, i32_w]
      rfl
    refine pure_ (i := 6) (N := some 95) (v := ?_) (a' := ?_) #[true, true, true, true, true, true, true, false, false, false, false, false, false, false, false, false, false, false, false, false, false, false, false, false, false, false, false, false, false, false, false, false, false, false, false, false, false, false, false, false, false, false, false, false, false, false, false, false, false, false, false, false, false, false, false, false] rfl rfl (any_of HT_.out (by kernel_rfl)) (fun _ _ _ h => h) (Or.inl ⟨by rfl, ?_⟩) ?_ ?_
    rotate_left
    · intro w'
      go_simp
      first | done | (with_reducible rfl)
    rotate_left
    · simp only [Act.put, List.setIfInBounds_toArray, List.set_cons_zero, List.set_cons_succ, i64_w, i32_w]
      rfl
    refine pure_ (i := 7) (N := some 96) (v := ?_) (a' := ?_) #[true, true, true, true, true, true, true, true, false, false, false, false, false, false, false, false, false, false, false, false, false, false, false, false, false, false, false, false, false, false, false, false, false, false, false, false, false, false, false, false, false, false, false, false, false, false, false, false, false, false, false, false, false, false, false, false] rfl rfl (any_of HT_.out (by kernel_rfl)) (fun _ _ _ h => h) (Or.inl ⟨by rfl, ?_⟩) ?_ ?_
    rotate_left
    · intro w'
      go_simp
      first | done | (with_reducible rfl)
    rotate_left
    · simp only [Act.put, List.setIfInBounds_toArray, List.set_cons_zero, List.set_cons_succ, i64_w, i32_w]
      rfl
    refine pure_ (i := 8) (N := some 97) (v := ?_) (a' := ?_) #[true, true, true, true, true, true, true, true, true, false, false, false, false, false, false, false, false, false, false, false, false, false, false, false, false, false, false, false, false, false, false, false, false, false, false, false, false, false, false, false, false, false, false, false, false, false, false, false, false, false, false, false, false, false, false, false] rfl rfl (any_of HT_.out (by kernel_rfl)) (fun _ _ _ h => h) (Or.inl ⟨by rfl, ?_⟩) ?_ ?_
    rotate_left
    · intro w'
      go_simp
      first | done | (with_reducible rfl)
    rotate_left
    · simp only [Act.put, List.setIfInBounds_toArray, List.set_cons_zero, List.set_cons_succ, i64_w, i32_w]
      rfl
    refine pure_ (i := 9) (N := some 98) (v := ?_) (a' := ?_) #[true, true, true, true, true, true, true, true, true, true, false, false, false, false, false, false, false, false, false, false, false, false, false, false, false, false, false, false, false, false, false, false, false, false, false, false, false, false, false, false, false, false, false, false, false, false, false, false, false, false, false, false, false, false, false, false] rfl rfl (any_of HT_.out (by kernel_rfl)) (fun _ _ _ h => h) (Or.inl ⟨by rfl, ?_⟩) ?_ ?_
    rotate_left
    · intro w'
      go_simp
      first | done | (with_reducible rfl)
    rotate_left
    · simp only [Act.put, List.setIfInBounds_toArray, List.set_cons_zero, List.set_cons_succ, i64_w, i32_w]
      rfl
    refine pure_ (i := 10) (N := some 99) (v := ?_) (a' := ?_) #[true, true, true, true, true, true, true, true, true, true, true, false, false, false, false, false, false, false, false, false, false, false, false, false, false, false, false, false, false, false, false, false, false, false, false, false, false, false, false, false, false, false, false, false, false, false, false, false, false, false, false, false, false, false, false, false] rfl rfl (any_of HT_.out (by kernel_rfl)) (fun _ _ _ h => h) (Or.inl ⟨by rfl, ?_⟩) ?_ ?_
    rotate_left
    · intro w'
      go_simp
      first | done | (with_reducible rfl)
    rotate_left
    · simp only [Act.put, List.setIfInBounds_toArray, List.set_cons_zero, List.set_cons_succ, i64_w, i32_w]
      rfl
    refine pure_ (i := 11) (N := some 100) (v := ?_) (a' := ?_) #[true, true, true, true, true, true, true, true, true, true, true, true, false, false, false, false, false, false, false, false, false, false, false, false, false, false, false, false, false, false, false, false, false, false, false, false, false, false, false, false, false, false, false, false, false, false, false, false, false, false, false, false, false, false, false, false] rfl rfl (any_of HT_.out (by kernel_rfl)) (fun _ _ _ h => h) (Or.inl ⟨by rfl, ?_⟩) ?_ ?_
    rotate_left
    · intro w'
      go_simp
      first | done | (with_reducible rfl)
    rotate_left
    · simp only [Act.put, List.setIfInBounds_toArray, List.set_cons_zero, List.set_cons_succ, i64_w, i32_w]
      rfl
    refine take_ (i := 12) (N := some 101) (v := ?_) (a' := ?_) #[true, true, true, true, true, true, true, true, true, true, true, true, true, false, false, false, false, false, false, false, false, false, false, false, false, false, false, false, false, false, false, false, false, false, false, false, false, false, false, false, false, false, false, false, false, false, false, false, false, false, false, false, false, false, false, false] rfl rfl (take_ofW HT_.out HW_.out (by kernel_rfl)) (fun _ _ _ h => h) (Or.inl ⟨by rfl, ?_⟩) hHeld ?_ ?_
    rotate_left
    · rintro w' ⟨s0, s1, s2⟩
      go_simp
      first | done | (with_reducible rfl)
    rotate_left
    · simp only [Act.put, List.setIfInBounds_toArray, List.set_cons_zero, List.set_cons_succ, i64_w, i32_w]
      rfl
    refine take_ (i := 13) (N := some 102) (v := ?_) (a' := ?_) #[true, true, true, true, true, true, true, true, true, true, true, true, true, true, false, false, false, false, false, false, false, false, false, false, false, false, false, false, false, false, false, false, false, false, false, false, false, false, false, false, false, false, false, false, false, false, false, false, false, false, false, false, false, false, false, false] rfl rfl (take_ofW HT_.out HW_.out (by kernel_rfl)) (fun _ _ _ h => h) (Or.inl ⟨by rfl, ?_⟩) hHeld ?_ ?_
    rotate_left
    · rintro w' ⟨s0, s1, s2⟩
      go_simp
      first | done | (with_reducible rfl)
    rotate_left
    · simp only [Act.put, List.setIfInBounds_toArray, List.set_cons_zero, List.set_cons_succ, i64_w, i32_w]
      rfl
    refine one_ (i := 14) (N := some 103) #[true, true, true, true, true, true, true, true, true, true, true, true, true, true, true, false, false, false, false, false, false, false, false, false, false, false, false, false, false, false, false, false, false, false, false, false, false, false, false, false, false, false, false, false, false, false, false, false, false, false, false, false, false, false, false, false] rfl rfl (one_of HT_.out (by kernel_rfl)) (by decide) (fun K hK => ?_)
    refine goes_ Try.func17 (by kernel_rfl) rfl #[.agg #[.slice A1 g.length c1], .agg #[.slice A2 g.length c2]] (by rfl) rfl rfl (by (try simp only [List.map_toArray, List.map_cons, List.map_nil]); first | done | rfl) ?_
    refine (bootchainref07_Same.calls ks A1 c1 g A2 c2 g true _ HR_g.out hcg HR_h.out hch HSA.out).mono ?_
    rintro e W12 ⟨rfl, hBn⟩
    have hBc : Below W11.heap.size W11 W12 := hBn
    have hcx := (hBc.cell (p := ⟨w.heap.size, 0, none⟩) hl_f).trans hc_f
    clear hc_f
    have hc_f := hcx
    clear hcx
    have HRx := Lib.hid (Kd.C_below HR_f.out hBc)
    clear HR_f
    have HR_f := HRx
    clear HRx
    have hlx : w.heap.size < W12.heap.size := by have := hBc.size; omega
    clear hl_f
    have hl_f := hlx
    clear hlx
    have hcx := (hBc.cell (p := ⟨W9.heap.size, 0, none⟩) hl_g).trans hc_g
    clear hc_g
    have hc_g := hcx
    clear hcx
    have HRx := Lib.hid (Kd.C_below HR_g.out hBc)
    clear HR_g
    have HR_g := HRx
    clear HRx
    have hlx : W9.heap.size < W12.heap.size := by have := hBc.size; omega
    clear hl_g
    have hl_g := hlx
    clear hlx
    have hcx := (hBc.cell (p := ⟨W10.heap.size, 0, none⟩) hl_h).trans hc_h
    clear hc_h
    have hc_h := hcx
    clear hcx
    have HRx := Lib.hid (Kd.C_below HR_h.out hBc)
    clear HR_h
    have HR_h := HRx
    clear HRx
    have hlx : W10.heap.size < W12.heap.size := by have := hBc.size; omega
    clear hl_h
    have hl_h := hlx
    clear hlx
    have HBx := Lib.hid (HB.out.trans (hBc.mono HB.out.size))
    clear HB
    have HB := HBx
    clear HBx hBc
    clear hBn
    refine ⟨_, rfl, ?_⟩
    refine hK.out _ _ ⟨hc_f, hc_g, hc_h⟩ (fun hHeld => ?_)
    clear hK K
    refine norm_ (a' := ?_) ?_ ?_
    rotate_left
    · show Act.put _ (some 103) _ = _
      simp only [Act.put, List.setIfInBounds_toArray, List.set_cons_zero, List.set_cons_succ, i64_w, i32_w]
      rfl
    refine pure_ (i := 15) (N := some 104) (v := ?_) (a' := ?_) #[true, true, true, true, true, true, true, true, true, true, true, true, true, true, true, true, false, false, false, false, false, false, false, false, false, false, false, false, false, false, false, false, false, false, false, false, false, false, false, false, false, false, false, false, false, false, false, false, false, false, false, false, false, false, false, false] rfl rfl (any_of HT_.out (by kernel_rfl)) (fun _ _ _ h => h) (Or.inl ⟨by rfl, ?_⟩) ?_ ?_
    rotate_left
    · intro w'
      go_simp
      first | done | (with_reducible rfl)
    rotate_left
    · simp only [Act.put, List.setIfInBounds_toArray, List.set_cons_zero, List.set_cons_succ, i64_w, i32_w]
      rfl
    refine pure_ (i := 16) (N := some 105) (v := ?_) (a' := ?_) #[true, true, true, true, true, true, true, true, true, true, true, true, true, true, true, true, true, false, false, false, false, false, false, false, false, false, false, false, false, false, false, false, false, false, false, false, false, false, false, false, false, false, false, false, false, false, false, false, false, false, false, false, false, false, false, false] rfl rfl (any_of HT_.out (by kernel_rfl)) (fun _ _ _ h => h) (Or.inl ⟨by rfl, ?_⟩) ?_ ?_
    rotate_left
    · intro w'
      go_simp
      first | done | (with_reducible rfl)
    rotate_left
    · simp only [Act.put, List.setIfInBounds_toArray, List.set_cons_zero, List.set_cons_succ, i64_w, i32_w]
      rfl
    refine pure_ (i := 17) (N := some 106) (v := ?_) (a' := ?_) #[true, true, true, true, true, true, true, true, true, true, true, true, true, true, true, true, true, true, false, false, false, false, false, false, false, false, false, false, false, false, false, false, false, false, false, false, false, false, false, false, false, false, false, false, false, false, false, false, false, false, false, false, false, false, false, false] rfl rfl (any_of HT_.out (by kernel_rfl)) (fun _ _ _ h => h) (Or.inl ⟨by rfl, ?_⟩) ?_ ?_
    rotate_left
    · intro w'
      go_simp
      first | done | (with_reducible rfl)
    rotate_left
    · simp only [Act.put, List.setIfInBounds_toArray, List.set_cons_zero, List.set_cons_succ, i64_w, i32_w]
      rfl
    refine pure_ (i := 18) (N := some 107) (v := ?_) (a' := ?_) #[true, true, true, true, true, true, true, true, true, true, true, true, true, true, true, true, true, true, true, false, false, false, false, false, false, false, false, false, false, false, false, false, false, false, false, false, false, false, false, false, false, false, false, false, false, false, false, false, false, false, false, false, false, false, false, false] rfl rfl (any_of HT_.out (by kernel_rfl)) (fun _ _ _ h => h) (Or.inl ⟨by rfl, ?_⟩) ?_ ?_
    rotate_left
    · intro w'
      go_simp
      first | done | (with_reducible rfl)
    rotate_left
    · simp only [Act.put, List.setIfInBounds_toArray, List.set_cons_zero, List.set_cons_succ, i64_w, i32_w]
      rfl
    refine pure_ (i := 19) (N := some 108) (v := ?_) (a' := ?_) #[true, true, true, true, true, true, true, true, true, true, true, true, true, true, true, true, true, true, true, true, false, false, false, false, false, false, false, false, false, false, false, false, false, false, false, false, false, false, false, false, false, false, false, false, false, false, false, false, false, false, false, false, false, false, false, false] rfl rfl (any_of HT_.out (by kernel_rfl)) (fun _ _ _ h => h) (Or.inl ⟨by rfl, ?_⟩) ?_ ?_
    rotate_left
    · intro w'
      go_simp
      first | done | (with_reducible rfl)
    rotate_left
    · simp only [Act.put, List.setIfInBounds_toArray, List.set_cons_zero, List.set_cons_succ, i64_w, i32_w]
      rfl
    refine pure_ (i := 20) (N := some 109) (v := ?_) (a' := ?_) #[true, true, true, true, true, true, true, true, true, true, true, true, true, true, true, true, true, true, true, true, true, false, false, false, false, false, false, false, false, false, false, false, false, false, false, false, false, false, false, false, false, false, false, false, false, false, false, false, false, false, false, false, false, false, false, false] rfl rfl (any_of HT_.out (by kernel_rfl)) (fun _ _ _ h => h) (Or.inl ⟨by rfl, ?_⟩) ?_ ?_
    rotate_left
    · intro w'
      go_simp
      first | done | (with_reducible rfl)
    rotate_left
    · simp only [Act.put, List.setIfInBounds_toArray, List.set_cons_zero, List.set_cons_succ, i64_w, i32_w]
      rfl
    refine pure_ (i := 21) (N := some 110) (v := ?_) (a' := ?_) #[true, true, true, true, true, true, true, true, true, true, true, true, true, true, true, true, true, true, true, true, true, true, false, false, false, false, false, false, false, false, false, false, false, false, false, false, false, false, false, false, false, false, false, false, false, false, false, false, false, false, false, false, false, false, false, false] rfl rfl (any_of HT_.out (by kernel_rfl)) (fun _ _ _ h => h) (Or.inl ⟨by rfl, ?_⟩) ?_ ?_
    rotate_left
    · intro w'
      go_simp
      first | done | (with_reducible rfl)
    rotate_left
    · simp only [Act.put, List.setIfInBounds_toArray, List.set_cons_zero, List.set_cons_succ, i64_w, i32_w]
      rfl
    refine take_ (i := 22) (N := some 111) (v := ?_) (a' := ?_) #[true, true, true, true, true, true, true, true, true, true, true, true, true, true, true, true, true, true, true, true, true, true, true, false, false, false, false, false, false, false, false, false, false, false, false, false, false, false, false, false, false, false, false, false, false, false, false, false, false, false, false, false, false, false, false, false] rfl rfl (take_ofW HT_.out HW_.out (by kernel_rfl)) (fun _ _ _ h => h) (Or.inl ⟨by rfl, ?_⟩) hHeld ?_ ?_
    rotate_left
    · rintro w' ⟨s0, s1, s2⟩
      go_simp
      first | done | (with_reducible rfl)
    rotate_left
    · simp only [Act.put, List.setIfInBounds_toArray, List.set_cons_zero, List.set_cons_succ, i64_w, i32_w]
      rfl
    refine pure_ (i := 23) (N := some 112) (v := ?_) (a' := ?_) #[true, true, true, true, true, true, true, true, true, true, true, true, true, true, true, true, true, true, true, true, true, true, true, true, false, false, false, false, false, false, false, false, false, false, false, false, false, false, false, false, false, false, false, false, false, false, false, false, false, false, false, false, false, false, false, false] rfl rfl (any_of HT_.out (by kernel_rfl)) (fun _ _ _ h => h) (Or.inl ⟨by rfl, ?_⟩) ?_ ?_
    rotate_left
    · intro w'
      go_simp
      first | done | (with_reducible rfl)
    rotate_left
    · simp only [Act.put, List.setIfInBounds_toArray, List.set_cons_zero, List.set_cons_succ, i64_w, i32_w]
      rfl
    refine take_ (i := 25) (N := some 114) (v := ?_) (a' := ?_) #[true, true, true, true, true, true, true, true, true, true, true, true, true, true, true, true, true, true, true, true, true, true, true, true, false, true, false, false, false, false, false, false, false, false, false, false, false, false, false, false, false, false, false, false, false, false, false, false, false, false, false, false, false, false, false, false] rfl rfl (take_ofW HT_.out HW_.out (by kernel_rfl)) (fun _ _ _ h => h) (Or.inl ⟨by rfl, ?_⟩) hHeld ?_ ?_
    rotate_left
    · rintro w' ⟨s0, s1, s2⟩
      go_simp
      first | done | (with_reducible rfl)
    rotate_left
    · simp only [Act.put, List.setIfInBounds_toArray, List.set_cons_zero, List.set_cons_succ, i64_w, i32_w]
      rfl
    refine pure_ (i := 26) (N := some 115) (v := ?_) (a' := ?_) #[true, true, true, true, true, true, true, true, true, true, true, true, true, true, true, true, true, true, true, true, true, true, true, true, false, true, true, false, false, false, false, false, false, false, false, false, false, false, false, false, false, false, false, false, false, false, false, false, false, false, false, false, false, false, false, false] rfl rfl (any_of HT_.out (by kernel_rfl)) (fun _ _ _ h => h) (Or.inl ⟨by rfl, ?_⟩) ?_ ?_
    rotate_left
    · intro w'
      go_simp
      first | done | (with_reducible rfl)
    rotate_left
    · simp only [Act.put, List.setIfInBounds_toArray, List.set_cons_zero, List.set_cons_succ, i64_w, i32_w]
      rfl
    refine one_ (i := 24) (N := some 113) #[true, true, true, true, true, true, true, true, true, true, true, true, true, true, true, true, true, true, true, true, true, true, true, true, true, true, true, false, false, false, false, false, false, false, false, false, false, false, false, false, false, false, false, false, false, false, false, false, false, false, false, false, false, false, false, false] rfl rfl (one_of HT_.out (by kernel_rfl)) (by decide) (fun K hK => ?_)
    refine goes_ Try.func18 (by kernel_rfl) rfl #[.agg #[.slice A l.length c], .int .i64 a1] (by rfl) rfl rfl (by (try simp only [List.map_toArray, List.map_cons, List.map_nil]); first | done | rfl) ?_
    refine (fuse_Width.calls A c l a1 (widthR l a1) _ HR_f.out hc HWF.out).mono ?_
    rintro e W13 ⟨rfl, hBn⟩
    have hBc : Below W12.heap.size W12 W13 := hBn
    have hcx := (hBc.cell (p := ⟨w.heap.size, 0, none⟩) hl_f).trans hc_f
    clear hc_f
    have hc_f := hcx
    clear hcx
    have HRx := Lib.hid (Kd.C_below HR_f.out hBc)
    clear HR_f
    have HR_f := HRx
    clear HRx
    have hlx : w.heap.size < W13.heap.size := by have := hBc.size; omega
    clear hl_f
    have hl_f := hlx
    clear hlx
    have hcx := (hBc.cell (p := ⟨W9.heap.size, 0, none⟩) hl_g).trans hc_g
    clear hc_g
    have hc_g := hcx
    clear hcx
    have HRx := Lib.hid (Kd.C_below HR_g.out hBc)
    clear HR_g
    have HR_g := HRx
    clear HRx
    have hlx : W9.heap.size < W13.heap.size := by have := hBc.size; omega
    clear hl_g
    have hl_g := hlx
    clear hlx
    have hcx := (hBc.cell (p := ⟨W10.heap.size, 0, none⟩) hl_h).trans hc_h
    clear hc_h
    have hc_h := hcx
    clear hcx
    have HRx := Lib.hid (Kd.C_below HR_h.out hBc)
    clear HR_h
    have HR_h := HRx
    clear HRx
    have hlx : W10.heap.size < W13.heap.size := by have := hBc.size; omega
    clear hl_h
    have hl_h := hlx
    clear hlx
    have HBx := Lib.hid (HB.out.trans (hBc.mono HB.out.size))
    clear HB
    have HB := HBx
    clear HBx hBc
    clear hBn
    refine ⟨_, rfl, ?_⟩
    refine hK.out _ _ ⟨hc_f, hc_g, hc_h⟩ (fun hHeld => ?_)
    clear hK K
    refine norm_ (a' := ?_) ?_ ?_
    rotate_left
    · show Act.put _ (some 113) _ = _
      simp only [Act.put, List.setIfInBounds_toArray, List.set_cons_zero, List.set_cons_succ, i64_w, i32_w]
      rfl
    refine one_ (i := 27) (N := some 116) #[true, true, true, true, true, true, true, true, true, true, true, true, true, true, true, true, true, true, true, true, true, true, true, true, true, true, true, true, false, false, false, false, false, false, false, false, false, false, false, false, false, false, false, false, false, false, false, false, false, false, false, false, false, false, false, false] rfl rfl (one_of HT_.out (by kernel_rfl)) (by decide) (fun K hK => ?_)
    refine goes_ Try.func19 (by kernel_rfl) rfl #[.agg #[.slice A l.length c], .int .i64 a1] (by rfl) rfl rfl (by (try simp only [List.map_toArray, List.map_cons, List.map_nil]); first | done | rfl) ?_
    refine (bootchainref07_Width.calls A c l a1 (widthR l a1) _ HR_f.out hc HWF.out).mono ?_
    rintro e W14 ⟨rfl, hBn⟩
    have hBc : Below W13.heap.size W13 W14 := hBn
    have hcx := (hBc.cell (p := ⟨w.heap.size, 0, none⟩) hl_f).trans hc_f
    clear hc_f
    have hc_f := hcx
    clear hcx
    have HRx := Lib.hid (Kd.C_below HR_f.out hBc)
    clear HR_f
    have HR_f := HRx
    clear HRx
    have hlx : w.heap.size < W14.heap.size := by have := hBc.size; omega
    clear hl_f
    have hl_f := hlx
    clear hlx
    have hcx := (hBc.cell (p := ⟨W9.heap.size, 0, none⟩) hl_g).trans hc_g
    clear hc_g
    have hc_g := hcx
    clear hcx
    have HRx := Lib.hid (Kd.C_below HR_g.out hBc)
    clear HR_g
    have HR_g := HRx
    clear HRx
    have hlx : W9.heap.size < W14.heap.size := by have := hBc.size; omega
    clear hl_g
    have hl_g := hlx
    clear hlx
    have hcx := (hBc.cell (p := ⟨W10.heap.size, 0, none⟩) hl_h).trans hc_h
    clear hc_h
    have hc_h := hcx
    clear hcx
    have HRx := Lib.hid (Kd.C_below HR_h.out hBc)
    clear HR_h
    have HR_h := HRx
    clear HRx
    have hlx : W10.heap.size < W14.heap.size := by have := hBc.size; omega
    clear hl_h
    have hl_h := hlx
    clear hlx
    have HBx := Lib.hid (HB.out.trans (hBc.mono HB.out.size))
    clear HB
    have HB := HBx
    clear HBx hBc
    clear hBn
    refine ⟨_, rfl, ?_⟩
    refine hK.out _ _ ⟨hc_f, hc_g, hc_h⟩ (fun hHeld => ?_)
    clear hK K
    refine norm_ (a' := ?_) ?_ ?_
    rotate_left
    · show Act.put _ (some 116) _ = _
      simp only [Act.put, List.setIfInBounds_toArray, List.set_cons_zero, List.set_cons_succ, i64_w, i32_w]
      rfl
    refine pure_ (i := 28) (N := some 117) (v := ?_) (a' := ?_) #[true, true, true, true, true, true, true, true, true, true, true, true, true, true, true, true, true, true, true, true, true, true, true, true, true, true, true, true, true, false, false, false, false, false, false, false, false, false, false, false, false, false, false, false, false, false, false, false, false, false, false, false, false, false, false, false] rfl rfl (any_of HT_.out (by kernel_rfl)) (fun _ _ _ h => h) (Or.inl ⟨by rfl, ?_⟩) ?_ ?_
    rotate_left
    · intro w'
      go_simp
      first | done | (with_reducible rfl)
    rotate_left
    · simp only [Act.put, List.setIfInBounds_toArray, List.set_cons_zero, List.set_cons_succ, i64_w, i32_w]
      rfl
    refine pure_ (i := 29) (N := some 118) (v := ?_) (a' := ?_) #[true, true, true, true, true, true, true, true, true, true, true, true, true, true, true, true, true, true, true, true, true, true, true, true, true, true, true, true, true, true, false, false, false, false, false, false, false, false, false, false, false, false, false, false, false, false, false, false, false, false, false, false, false, false, false, false] rfl rfl (any_of HT_.out (by kernel_rfl)) (fun _ _ _ h => h) (Or.inl ⟨by rfl, ?_⟩) ?_ ?_
    rotate_left
    · intro w'
      go_simp
      first | done | (with_reducible rfl)
    rotate_left
    · simp only [Act.put, List.setIfInBounds_toArray, List.set_cons_zero, List.set_cons_succ, i64_w, i32_w]
      rfl
    refine pure_ (i := 30) (N := some 119) (v := ?_) (a' := ?_) #[true, true, true, true, true, true, true, true, true, true, true, true, true, true, true, true, true, true, true, true, true, true, true, true, true, true, true, true, true, true, true, false, false, false, false, false, false, false, false, false, false, false, false, false, false, false, false, false, false, false, false, false, false, false, false, false] rfl rfl (any_of HT_.out (by kernel_rfl)) (fun _ _ _ h => h) (Or.inl ⟨by rfl, ?_⟩) ?_ ?_
    rotate_left
    · intro w'
      go_simp
      first | done | (with_reducible rfl)
    rotate_left
    · simp only [Act.put, List.setIfInBounds_toArray, List.set_cons_zero, List.set_cons_succ, i64_w, i32_w]
      rfl
    refine take_ (i := 31) (N := some 120) (v := ?_) (a' := ?_) #[true, true, true, true, true, true, true, true, true, true, true, true, true, true, true, true, true, true, true, true, true, true, true, true, true, true, true, true, true, true, true, true, false, false, false, false, false, false, false, false, false, false, false, false, false, false, false, false, false, false, false, false, false, false, false, false] rfl rfl (take_ofW HT_.out HW_.out (by kernel_rfl)) (fun _ _ _ h => h) (Or.inl ⟨by rfl, ?_⟩) hHeld ?_ ?_
    rotate_left
    · rintro w' ⟨s0, s1, s2⟩
      go_simp
      first | done | (with_reducible rfl)
    rotate_left
    · simp only [Act.put, List.setIfInBounds_toArray, List.set_cons_zero, List.set_cons_succ, i64_w, i32_w]
      rfl
    refine pure_ (i := 32) (N := some 121) (v := ?_) (a' := ?_) #[true, true, true, true, true, true, true, true, true, true, true, true, true, true, true, true, true, true, true, true, true, true, true, true, true, true, true, true, true, true, true, true, true, false, false, false, false, false, false, false, false, false, false, false, false, false, false, false, false, false, false, false, false, false, false, false] rfl rfl (any_of HT_.out (by kernel_rfl)) (fun _ _ _ h => h) (Or.inl ⟨by rfl, ?_⟩) ?_ ?_
    rotate_left
    · intro w'
      go_simp
      first | done | (with_reducible rfl)
    rotate_left
    · simp only [Act.put, List.setIfInBounds_toArray, List.set_cons_zero, List.set_cons_succ, i64_w, i32_w]
      rfl
    refine take_ (i := 34) (N := some 123) (v := ?_) (a' := ?_) #[true, true, true, true, true, true, true, true, true, true, true, true, true, true, true, true, true, true, true, true, true, true, true, true, true, true, true, true, true, true, true, true, true, false, true, false, false, false, false, false, false, false, false, false, false, false, false, false, false, false, false, false, false, false, false, false] rfl rfl (take_ofW HT_.out HW_.out (by kernel_rfl)) (fun _ _ _ h => h) (Or.inl ⟨by rfl, ?_⟩) hHeld ?_ ?_
    rotate_left
    · rintro w' ⟨s0, s1, s2⟩
      go_simp
      first | done | (with_reducible rfl)
    rotate_left
    · simp only [Act.put, List.setIfInBounds_toArray, List.set_cons_zero, List.set_cons_succ, i64_w, i32_w]
      rfl
    refine pure_ (i := 35) (N := some 124) (v := ?_) (a' := ?_) #[true, true, true, true, true, true, true, true, true, true, true, true, true, true, true, true, true, true, true, true, true, true, true, true, true, true, true, true, true, true, true, true, true, false, true, true, false, false, false, false, false, false, false, false, false, false, false, false, false, false, false, false, false, false, false, false] rfl rfl (any_of HT_.out (by kernel_rfl)) (fun _ _ _ h => h) (Or.inl ⟨by rfl, ?_⟩) ?_ ?_
    rotate_left
    · intro w'
      go_simp
      first | done | (with_reducible rfl)
    rotate_left
    · simp only [Act.put, List.setIfInBounds_toArray, List.set_cons_zero, List.set_cons_succ, i64_w, i32_w]
      rfl
    refine one_ (i := 33) (N := some 122) #[true, true, true, true, true, true, true, true, true, true, true, true, true, true, true, true, true, true, true, true, true, true, true, true, true, true, true, true, true, true, true, true, true, true, true, true, false, false, false, false, false, false, false, false, false, false, false, false, false, false, false, false, false, false, false, false] rfl rfl (one_of HT_.out (by kernel_rfl)) (by decide) (fun K hK => ?_)
    refine goes_ Try.func20 (by kernel_rfl) rfl #[.agg #[.slice A l.length c], .int .i64 a1] (by rfl) rfl rfl (by (try simp only [List.map_toArray, List.map_cons, List.map_nil]); first | done | rfl) ?_
    refine (fuse_Least.calls A c l a1 (levelR l a1 false) _ HR_f.out hc HLF.out).mono ?_
    rintro e W15 ⟨rfl, hBn⟩
    have hBc : Below W14.heap.size W14 W15 := hBn
    have hcx := (hBc.cell (p := ⟨w.heap.size, 0, none⟩) hl_f).trans hc_f
    clear hc_f
    have hc_f := hcx
    clear hcx
    have HRx := Lib.hid (Kd.C_below HR_f.out hBc)
    clear HR_f
    have HR_f := HRx
    clear HRx
    have hlx : w.heap.size < W15.heap.size := by have := hBc.size; omega
    clear hl_f
    have hl_f := hlx
    clear hlx
    have hcx := (hBc.cell (p := ⟨W9.heap.size, 0, none⟩) hl_g).trans hc_g
    clear hc_g
    have hc_g := hcx
    clear hcx
    have HRx := Lib.hid (Kd.C_below HR_g.out hBc)
    clear HR_g
    have HR_g := HRx
    clear HRx
    have hlx : W9.heap.size < W15.heap.size := by have := hBc.size; omega
    clear hl_g
    have hl_g := hlx
    clear hlx
    have hcx := (hBc.cell (p := ⟨W10.heap.size, 0, none⟩) hl_h).trans hc_h
    clear hc_h
    have hc_h := hcx
    clear hcx
    have HRx := Lib.hid (Kd.C_below HR_h.out hBc)
    clear HR_h
    have HR_h := HRx
    clear HRx
    have hlx : W10.heap.size < W15.heap.size := by have := hBc.size; omega
    clear hl_h
    have hl_h := hlx
    clear hlx
    have HBx := Lib.hid (HB.out.trans (hBc.mono HB.out.size))
    clear HB
    have HB := HBx
    clear HBx hBc
    clear hBn
    refine ⟨_, rfl, ?_⟩
    refine hK.out _ _ ⟨hc_f, hc_g, hc_h⟩ (fun hHeld => ?_)
    clear hK K
    refine norm_ (a' := ?_) ?_ ?_
    rotate_left
    · show Act.put _ (some 122) _ = _
      simp only [Act.put, List.setIfInBounds_toArray, List.set_cons_zero, List.set_cons_succ, i64_w, i32_w]
      rfl
    refine one_ (i := 36) (N := some 125) #[true, true, true, true, true, true, true, true, true, true, true, true, true, true, true, true, true, true, true, true, true, true, true, true, true, true, true, true, true, true, true, true, true, true, true, true, true, false, false, false, false, false, false, false, false, false, false, false, false, false, false, false, false, false, false, false] rfl rfl (one_of HT_.out (by kernel_rfl)) (by decide) (fun K hK => ?_)
    refine goes_ Try.func21 (by kernel_rfl) rfl #[.agg #[.slice A l.length c], .int .i64 a1] (by rfl) rfl rfl (by (try simp only [List.map_toArray, List.map_cons, List.map_nil]); first | done | rfl) ?_
    refine (bootchainref07_Least.calls kl A c l a1 (levelR l a1 false) _ HR_f.out hc HLR.out).mono ?_
    rintro e W16 ⟨rfl, hBn⟩
    have hBc : Below W15.heap.size W15 W16 := hBn
    have hcx := (hBc.cell (p := ⟨w.heap.size, 0, none⟩) hl_f).trans hc_f
    clear hc_f
    have hc_f := hcx
    clear hcx
    have HRx := Lib.hid (Kd.C_below HR_f.out hBc)
    clear HR_f
    have HR_f := HRx
    clear HRx
    have hlx : w.heap.size < W16.heap.size := by have := hBc.size; omega
    clear hl_f
    have hl_f := hlx
    clear hlx
    have hcx := (hBc.cell (p := ⟨W9.heap.size, 0, none⟩) hl_g).trans hc_g
    clear hc_g
    have hc_g := hcx
    clear hcx
    have HRx := Lib.hid (Kd.C_below HR_g.out hBc)
    clear HR_g
    have HR_g := HRx
    clear HRx
    have hlx : W9.heap.size < W16.heap.size := by have := hBc.size; omega
    clear hl_g
    have hl_g := hlx
    clear hlx
    have hcx := (hBc.cell (p := ⟨W10.heap.size, 0, none⟩) hl_h).trans hc_h
    clear hc_h
    have hc_h := hcx
    clear hcx
    have HRx := Lib.hid (Kd.C_below HR_h.out hBc)
    clear HR_h
    have HR_h := HRx
    clear HRx
    have hlx : W10.heap.size < W16.heap.size := by have := hBc.size; omega
    clear hl_h
    have hl_h := hlx
    clear hlx
    have HBx := Lib.hid (HB.out.trans (hBc.mono HB.out.size))
    clear HB
    have HB := HBx
    clear HBx hBc
    clear hBn
    refine ⟨_, rfl, ?_⟩
    refine hK.out _ _ ⟨hc_f, hc_g, hc_h⟩ (fun hHeld => ?_)
    clear hK K
    refine norm_ (a' := ?_) ?_ ?_
    rotate_left
    · show Act.put _ (some 125) _ = _
      simp only [Act.put, List.setIfInBounds_toArray, List.set_cons_zero, List.set_cons_succ, i64_w, i32_w]
      rfl
    refine pure_ (i := 37) (N := some 126) (v := ?_) (a' := ?_) #[true, true, true, true, true, true, true, true, true, true, true, true, true, true, true, true, true, true, true, true, true, true, true, true, true, true, true, true, true, true, true, true, true, true, true, true, true, true, false, false, false, false, false, false, false, false, false, false, false, false, false, false, false, false, false, false] rfl rfl (any_of HT_.out (by kernel_rfl)) (fun _ _ _ h => h) (Or.inl ⟨by rfl, ?_⟩) ?_ ?_
    rotate_left
    · intro w'
      go_simp
      first | done | (with_reducible rfl)
    rotate_left
    · simp only [Act.put, List.setIfInBounds_toArray, List.set_cons_zero, List.set_cons_succ, i64_w, i32_w]
      rfl
    refine pure_ (i := 38) (N := some 127) (v := ?_) (a' := ?_) #[true, true, true, true, true, true, true, true, true, true, true, true, true, true, true, true, true, true, true, true, true, true, true, true, true, true, true, true, true, true, true, true, true, true, true, true, true, true, true, false, false, false, false, false, false, false, false, false, false, false, false, false, false, false, false, false] rfl rfl (any_of HT_.out (by kernel_rfl)) (fun _ _ _ h => h) (Or.inl ⟨by rfl, ?_⟩) ?_ ?_
    rotate_left
    · intro w'
      go_simp
      first | done | (with_reducible rfl)
    rotate_left
    · simp only [Act.put, List.setIfInBounds_toArray, List.set_cons_zero, List.set_cons_succ, i64_w, i32_w]
      rfl
    refine pure_ (i := 39) (N := some 128) (v := ?_) (a' := ?_) #[true, true, true, true, true, true, true, true, true, true, true, true, true, true, true, true, true, true, true, true, true, true, true, true, true, true, true, true, true, true, true, true, true, true, true, true, true, true, true, true, false, false, false, false, false, false, false, false, false, false, false, false, false, false, false, false] rfl rfl (any_of HT_.out (by kernel_rfl)) (fun _ _ _ h => h) (Or.inl ⟨by rfl, ?_⟩) ?_ ?_
    rotate_left
    · intro w'
      go_simp
      first | done | (with_reducible rfl)
    rotate_left
    · simp only [Act.put, List.setIfInBounds_toArray, List.set_cons_zero, List.set_cons_succ, i64_w, i32_w]
      rfl
    refine take_ (i := 40) (N := some 129) (v := ?_) (a' := ?_) #[true, true, true, true, true, true, true, true, true, true, true, true, true, true, true, true, true, true, true, true, true, true, true, true, true, true, true, true, true, true, true, true, true, true, true, true, true, true, true, true, true, false, false, false, false, false, false, false, false, false, false, false, false, false, false, false] rfl rfl (take_ofW HT_.out HW_.out (by kernel_rfl)) (fun _ _ _ h => h) (Or.inl ⟨by rfl, ?_⟩) hHeld ?_ ?_
    rotate_left
    · rintro w' ⟨s0, s1, s2⟩
      go_simp
      first | done | (with_reducible rfl)
    rotate_left
    · simp only [Act.put, List.setIfInBounds_toArray, List.set_cons_zero, List.set_cons_succ, i64_w, i32_w]
      rfl
    refine pure_ (i := 41) (N := some 130) (v := ?_) (a' := ?_) #[true, true, true, true, true, true, true, true, true, true, true, true, true, true, true, true, true, true, true, true, true, true, true, true, true, true, true, true, true, true, true, true, true, true, true, true, true, true, true, true, true, true, false, false, false, false, false, false, false, false, false, false, false, false, false, false] rfl rfl (any_of HT_.out (by kernel_rfl)) (fun _ _ _ h => h) (Or.inl ⟨by rfl, ?_⟩) ?_ ?_
    rotate_left
    · intro w'
      go_simp
      first | done | (with_reducible rfl)
    rotate_left
    · simp only [Act.put, List.setIfInBounds_toArray, List.set_cons_zero, List.set_cons_succ, i64_w, i32_w]
      rfl
    refine take_ (i := 43) (N := some 132) (v := ?_) (a' := ?_) #[true, true, true, true, true, true, true, true, true, true, true, true, true, true, true, true, true, true, true, true, true, true, true, true, true, true, true, true, true, true, true, true, true, true, true, true, true, true, true, true, true, true, false, true, false, false, false, false, false, false, false, false, false, false, false, false] rfl rfl (take_ofW HT_.out HW_.out (by kernel_rfl)) (fun _ _ _ h => h) (Or.inl ⟨by rfl, ?_⟩) hHeld ?_ ?_
    rotate_left
    · rintro w' ⟨s0, s1, s2⟩
      go_simp
      first | done | (with_reducible rfl)
    rotate_left
    · simp only [Act.put, List.setIfInBounds_toArray, List.set_cons_zero, List.set_cons_succ, i64_w, i32_w]
      rfl
    refine pure_ (i := 44) (N := some 133) (v := ?_) (a' := ?_) #[true, true, true, true, true, true, true, true, true, true, true, true, true, true, true, true, true, true, true, true, true, true, true, true, true, true, true, true, true, true, true, true, true, true, true, true, true, true, true, true, true, true, false, true, true, false, false, false, false, false, false, false, false, false, false, false] rfl rfl (any_of HT_.out (by kernel_rfl)) (fun _ _ _ h => h) (Or.inl ⟨by rfl, ?_⟩) ?_ ?_
    rotate_left
    · intro w'
      go_simp
      first | done | (with_reducible rfl)
    rotate_left
    · simp only [Act.put, List.setIfInBounds_toArray, List.set_cons_zero, List.set_cons_succ, i64_w, i32_w]
      rfl
    refine one_ (i := 42) (N := some 131) #[true, true, true, true, true, true, true, true, true, true, true, true, true, true, true, true, true, true, true, true, true, true, true, true, true, true, true, true, true, true, true, true, true, true, true, true, true, true, true, true, true, true, true, true, true, false, false, false, false, false, false, false, false, false, false, false] rfl rfl (one_of HT_.out (by kernel_rfl)) (by decide) (fun K hK => ?_)
    refine goes_ Try.func22 (by kernel_rfl) rfl #[.agg #[.slice A l.length c], .int .i64 a1] (by rfl) rfl rfl (by (try simp only [List.map_toArray, List.map_cons, List.map_nil]); first | done | rfl) ?_
    refine (fuse_Most.calls A c l a1 (levelR l a1 true) _ HR_f.out hc HMF.out).mono ?_
    rintro e W17 ⟨rfl, hBn⟩
    have hBc : Below W16.heap.size W16 W17 := hBn
    have hcx := (hBc.cell (p := ⟨w.heap.size, 0, none⟩) hl_f).trans hc_f
    clear hc_f
    have hc_f := hcx
    clear hcx
    have HRx := Lib.hid (Kd.C_below HR_f.out hBc)
    clear HR_f
    have HR_f := HRx
    clear HRx
    have hlx : w.heap.size < W17.heap.size := by have := hBc.size; omega
    clear hl_f
    have hl_f := hlx
    clear hlx
    have hcx := (hBc.cell (p := ⟨W9.heap.size, 0, none⟩) hl_g).trans hc_g
    clear hc_g
    have hc_g := hcx
    clear hcx
    have HRx := Lib.hid (Kd.C_below HR_g.out hBc)
    clear HR_g
    have HR_g := HRx
    clear HRx
    have hlx : W9.heap.size < W17.heap.size := by have := hBc.size; omega
    clear hl_g
    have hl_g := hlx
    clear hlx
    have hcx := (hBc.cell (p := ⟨W10.heap.size, 0, none⟩) hl_h).trans hc_h
    clear hc_h
    have hc_h := hcx
    clear hcx
    have HRx := Lib.hid (Kd.C_below HR_h.out hBc)
    clear HR_h
    have HR_h := HRx
    clear HRx
    have hlx : W10.heap.size < W17.heap.size := by have := hBc.size; omega
    clear hl_h
    have hl_h := hlx
    clear hlx
    have HBx := Lib.hid (HB.out.trans (hBc.mono HB.out.size))
    clear HB
    have HB := HBx
    clear HBx hBc
    clear hBn
    refine ⟨_, rfl, ?_⟩
    refine hK.out _ _ ⟨hc_f, hc_g, hc_h⟩ (fun hHeld => ?_)
    clear hK K
    refine norm_ (a' := ?_) ?_ ?_
    rotate_left
    · show Act.put _ (some 131) _ = _
      simp only [Act.put, List.setIfInBounds_toArray, List.set_cons_zero, List.set_cons_succ, i64_w, i32_w]
      rfl
    refine one_ (i := 45) (N := some 134) #[true, true, true, true, true, true, true, true, true, true, true, true, true, true, true, true, true, true, true, true, true, true, true, true, true, true, true, true, true, true, true, true, true, true, true, true, true, true, true, true, true, true, true, true, true, true, false, false, false, false, false, false, false, false, false, false] rfl rfl (one_of HT_.out (by kernel_rfl)) (by decide) (fun K hK => ?_)
    refine goes_ Try.func23 (by kernel_rfl) rfl #[.agg #[.slice A l.length c], .int .i64 a1] (by rfl) rfl rfl (by (try simp only [List.map_toArray, List.map_cons, List.map_nil]); first | done | rfl) ?_
    refine (bootchainref07_Most.calls km A c l a1 (levelR l a1 true) _ HR_f.out hc HMR.out).mono ?_
    rintro e W18 ⟨rfl, hBn⟩
    have hBc : Below W17.heap.size W17 W18 := hBn
    have hcx := (hBc.cell (p := ⟨w.heap.size, 0, none⟩) hl_f).trans hc_f
    clear hc_f
    have hc_f := hcx
    clear hcx
    have HRx := Lib.hid (Kd.C_below HR_f.out hBc)
    clear HR_f
    have HR_f := HRx
    clear HRx
    have hlx : w.heap.size < W18.heap.size := by have := hBc.size; omega
    clear hl_f
    have hl_f := hlx
    clear hlx
    have hcx := (hBc.cell (p := ⟨W9.heap.size, 0, none⟩) hl_g).trans hc_g
    clear hc_g
    have hc_g := hcx
    clear hcx
    have HRx := Lib.hid (Kd.C_below HR_g.out hBc)
    clear HR_g
    have HR_g := HRx
    clear HRx
    have hlx : W9.heap.size < W18.heap.size := by have := hBc.size; omega
    clear hl_g
    have hl_g := hlx
    clear hlx
    have hcx := (hBc.cell (p := ⟨W10.heap.size, 0, none⟩) hl_h).trans hc_h
    clear hc_h
    have hc_h := hcx
    clear hcx
    have HRx := Lib.hid (Kd.C_below HR_h.out hBc)
    clear HR_h
    have HR_h := HRx
    clear HRx
    have hlx : W10.heap.size < W18.heap.size := by have := hBc.size; omega
    clear hl_h
    have hl_h := hlx
    clear hlx
    have HBx := Lib.hid (HB.out.trans (hBc.mono HB.out.size))
    clear HB
    have HB := HBx
    clear HBx hBc
    clear hBn
    refine ⟨_, rfl, ?_⟩
    refine hK.out _ _ ⟨hc_f, hc_g, hc_h⟩ (fun hHeld => ?_)
    clear hK K
    refine norm_ (a' := ?_) ?_ ?_
    rotate_left
    · show Act.put _ (some 134) _ = _
      simp only [Act.put, List.setIfInBounds_toArray, List.set_cons_zero, List.set_cons_succ, i64_w, i32_w]
      rfl
    refine pure_ (i := 46) (N := some 135) (v := ?_) (a' := ?_) #[true, true, true, true, true, true, true, true, true, true, true, true, true, true, true, true, true, true, true, true, true, true, true, true, true, true, true, true, true, true, true, true, true, true, true, true, true, true, true, true, true, true, true, true, true, true, true, false, false, false, false, false, false, false, false, false] rfl rfl (any_of HT_.out (by kernel_rfl)) (fun _ _ _ h => h) (Or.inl ⟨by rfl, ?_⟩) ?_ ?_
    rotate_left
    · intro w'
      go_simp
      first | done | (with_reducible rfl)
    rotate_left
    · simp only [Act.put, List.setIfInBounds_toArray, List.set_cons_zero, List.set_cons_succ, i64_w, i32_w]
      rfl
    refine pure_ (i := 47) (N := some 136) (v := ?_) (a' := ?_) #[true, true, true, true, true, true, true, true, true, true, true, true, true, true, true, true, true, true, true, true, true, true, true, true, true, true, true, true, true, true, true, true, true, true, true, true, true, true, true, true, true, true, true, true, true, true, true, true, false, false, false, false, false, false, false, false] rfl rfl (any_of HT_.out (by kernel_rfl)) (fun _ _ _ h => h) (Or.inl ⟨by rfl, ?_⟩) ?_ ?_
    rotate_left
    · intro w'
      go_simp
      first | done | (with_reducible rfl)
    rotate_left
    · simp only [Act.put, List.setIfInBounds_toArray, List.set_cons_zero, List.set_cons_succ, i64_w, i32_w]
      rfl
    refine pure_ (i := 48) (N := some 137) (v := ?_) (a' := ?_) #[true, true, true, true, true, true, true, true, true, true, true, true, true, true, true, true, true, true, true, true, true, true, true, true, true, true, true, true, true, true, true, true, true, true, true, true, true, true, true, true, true, true, true, true, true, true, true, true, true, false, false, false, false, false, false, false] rfl rfl (any_of HT_.out (by kernel_rfl)) (fun _ _ _ h => h) (Or.inl ⟨by rfl, ?_⟩) ?_ ?_
    rotate_left
    · intro w'
      go_simp
      first | done | (with_reducible rfl)
    rotate_left
    · simp only [Act.put, List.setIfInBounds_toArray, List.set_cons_zero, List.set_cons_succ, i64_w, i32_w]
      rfl
    refine take_ (i := 49) (N := some 138) (v := ?_) (a' := ?_) #[true, true, true, true, true, true, true, true, true, true, true, true, true, true, true, true, true, true, true, true, true, true, true, true, true, true, true, true, true, true, true, true, true, true, true, true, true, true, true, true, true, true, true, true, true, true, true, true, true, true, false, false, false, false, false, false] rfl rfl (take_ofW HT_.out HW_.out (by kernel_rfl)) (fun _ _ _ h => h) (Or.inl ⟨by rfl, ?_⟩) hHeld ?_ ?_
    rotate_left
    · rintro w' ⟨s0, s1, s2⟩
      go_simp
      first | done | (with_reducible rfl)
    rotate_left
    · simp only [Act.put, List.setIfInBounds_toArray, List.set_cons_zero, List.set_cons_succ, i64_w, i32_w]
      rfl
    refine take_ (i := 51) (N := some 140) (v := ?_) (a' := ?_) #[true, true, true, true, true, true, true, true, true, true, true, true, true, true, true, true, true, true, true, true, true, true, true, true, true, true, true, true, true, true, true, true, true, true, true, true, true, true, true, true, true, true, true, true, true, true, true, true, true, true, false, true, false, false, false, false] rfl rfl (take_ofW HT_.out HW_.out (by kernel_rfl)) (fun _ _ _ h => h) (Or.inl ⟨by rfl, ?_⟩) hHeld ?_ ?_
    rotate_left
    · rintro w' ⟨s0, s1, s2⟩
      go_simp
      first | done | (with_reducible rfl)
    rotate_left
    · simp only [Act.put, List.setIfInBounds_toArray, List.set_cons_zero, List.set_cons_succ, i64_w, i32_w]
      rfl
    refine one_ (i := 50) (N := some 139) #[true, true, true, true, true, true, true, true, true, true, true, true, true, true, true, true, true, true, true, true, true, true, true, true, true, true, true, true, true, true, true, true, true, true, true, true, true, true, true, true, true, true, true, true, true, true, true, true, true, true, true, true, false, false, false, false] rfl rfl (one_of HT_.out (by kernel_rfl)) (by decide) (fun K hK => ?_)
    refine goes_ Try.func24 (by kernel_rfl) rfl #[.agg #[.slice A l.length c]] (by rfl) rfl rfl (by (try simp only [List.map_toArray, List.map_cons, List.map_nil]); first | done | rfl) ?_
    refine (fuse_Sound.calls A c l (l.all sndB) _ HR_f.out hc HSF.out).mono ?_
    rintro e W19 ⟨rfl, hBn⟩
    have hBc : Below W18.heap.size W18 W19 := hBn
    have hcx := (hBc.cell (p := ⟨w.heap.size, 0, none⟩) hl_f).trans hc_f
    clear hc_f
    have hc_f := hcx
    clear hcx
    have HRx := Lib.hid (Kd.C_below HR_f.out hBc)
    clear HR_f
    have HR_f := HRx
    clear HRx
    have hlx : w.heap.size < W19.heap.size := by have := hBc.size; omega
    clear hl_f
    have hl_f := hlx
    clear hlx
    have hcx := (hBc.cell (p := ⟨W9.heap.size, 0, none⟩) hl_g).trans hc_g
    clear hc_g
    have hc_g := hcx
    clear hcx
    have HRx := Lib.hid (Kd.C_below HR_g.out hBc)
    clear HR_g
    have HR_g := HRx
    clear HRx
    have hlx : W9.heap.size < W19.heap.size := by have := hBc.size; omega
    clear hl_g
    have hl_g := hlx
    clear hlx
    have hcx := (hBc.cell (p := ⟨W10.heap.size, 0, none⟩) hl_h).trans hc_h
    clear hc_h
    have hc_h := hcx
    clear hcx
    have HRx := Lib.hid (Kd.C_below HR_h.out hBc)
    clear HR_h
    have HR_h := HRx
    clear HRx
    have hlx : W10.heap.size < W19.heap.size := by have := hBc.size; omega
    clear hl_h
    have hl_h := hlx
    clear hlx
    have HBx := Lib.hid (HB.out.trans (hBc.mono HB.out.size))
    clear HB
    have HB := HBx
    clear HBx hBc
    clear hBn
    refine ⟨_, rfl, ?_⟩
    refine hK.out _ _ ⟨hc_f, hc_g, hc_h⟩ (fun hHeld => ?_)
    clear hK K
    refine norm_ (a' := ?_) ?_ ?_
    rotate_left
    · show Act.put _ (some 139) _ = _
      simp only [Act.put, List.setIfInBounds_toArray, List.set_cons_zero, List.set_cons_succ, i64_w, i32_w]
      rfl
    refine one_ (i := 52) (N := some 141) #[true, true, true, true, true, true, true, true, true, true, true, true, true, true, true, true, true, true, true, true, true, true, true, true, true, true, true, true, true, true, true, true, true, true, true, true, true, true, true, true, true, true, true, true, true, true, true, true, true, true, true, true, true, false, false, false] rfl rfl (one_of HT_.out (by kernel_rfl)) (by decide) (fun K hK => ?_)
    refine goes_ Try.func25 (by kernel_rfl) rfl #[.agg #[.slice A l.length c]] (by rfl) rfl rfl (by (try simp only [List.map_toArray, List.map_cons, List.map_nil]); first | done | rfl) ?_
    refine (bootchainref07_Sound.calls kn A c l (l.all sndB) _ HR_f.out hc HSR.out).mono ?_
    rintro e W20 ⟨rfl, hBn⟩
    have hBc : Below W19.heap.size W19 W20 := hBn
    have hcx := (hBc.cell (p := ⟨w.heap.size, 0, none⟩) hl_f).trans hc_f
    clear hc_f
    have hc_f := hcx
    clear hcx
    have HRx := Lib.hid (Kd.C_below HR_f.out hBc)
    clear HR_f
    have HR_f := HRx
    clear HRx
    have hlx : w.heap.size < W20.heap.size := by have := hBc.size; omega
    clear hl_f
    have hl_f := hlx
    clear hlx
    have hcx := (hBc.cell (p := ⟨W9.heap.size, 0, none⟩) hl_g).trans hc_g
    clear hc_g
    have hc_g := hcx
    clear hcx
    have HRx := Lib.hid (Kd.C_below HR_g.out hBc)
    clear HR_g
    have HR_g := HRx
    clear HRx
    have hlx : W9.heap.size < W20.heap.size := by have := hBc.size; omega
    clear hl_g
    have hl_g := hlx
    clear hlx
    have hcx := (hBc.cell (p := ⟨W10.heap.size, 0, none⟩) hl_h).trans hc_h
    clear hc_h
    have hc_h := hcx
    clear hcx
    have HRx := Lib.hid (Kd.C_below HR_h.out hBc)
    clear HR_h
    have HR_h := HRx
    clear HRx
    have hlx : W10.heap.size < W20.heap.size := by have := hBc.size; omega
    clear hl_h
    have hl_h := hlx
    clear hlx
    have HBx := Lib.hid (HB.out.trans (hBc.mono HB.out.size))
    clear HB
    have HB := HBx
    clear HBx hBc
    clear hBn
    refine ⟨_, rfl, ?_⟩
    refine hK.out _ _ ⟨hc_f, hc_g, hc_h⟩ (fun hHeld => ?_)
    clear hK K
    refine norm_ (a' := ?_) ?_ ?_
    rotate_left
    · show Act.put _ (some 141) _ = _
      simp only [Act.put, List.setIfInBounds_toArray, List.set_cons_zero, List.set_cons_succ, i64_w, i32_w]
      rfl
    refine pure_ (i := 53) (N := some 142) (v := ?_) (a' := ?_) #[true, true, true, true, true, true, true, true, true, true, true, true, true, true, true, true, true, true, true, true, true, true, true, true, true, true, true, true, true, true, true, true, true, true, true, true, true, true, true, true, true, true, true, true, true, true, true, true, true, true, true, true, true, true, false, false] rfl rfl (any_of HT_.out (by kernel_rfl)) (fun _ _ _ h => h) (Or.inl ⟨by rfl, ?_⟩) ?_ ?_
    rotate_left
    · intro w'
      go_simp
      first | done | (with_reducible rfl)
    rotate_left
    · simp only [Act.put, List.setIfInBounds_toArray, List.set_cons_zero, List.set_cons_succ, i64_w, i32_w]
      rfl
    refine pure_ (i := 54) (N := some 143) (v := ?_) (a' := ?_) #[true, true, true, true, true, true, true, true, true, true, true, true, true, true, true, true, true, true, true, true, true, true, true, true, true, true, true, true, true, true, true, true, true, true, true, true, true, true, true, true, true, true, true, true, true, true, true, true, true, true, true, true, true, true, true, false] rfl rfl (any_of HT_.out (by kernel_rfl)) (fun _ _ _ h => h) (Or.inl ⟨by rfl, ?_⟩) ?_ ?_
    rotate_left
    · intro w'
      go_simp
      first | done | (with_reducible rfl)
    rotate_left
    · simp only [Act.put, List.setIfInBounds_toArray, List.set_cons_zero, List.set_cons_succ, i64_w, i32_w]
      rfl
    refine pure_ (i := 55) (N := some 8) (v := ?_) (a' := ?_) #[true, true, true, true, true, true, true, true, true, true, true, true, true, true, true, true, true, true, true, true, true, true, true, true, true, true, true, true, true, true, true, true, true, true, true, true, true, true, true, true, true, true, true, true, true, true, true, true, true, true, true, true, true, true, true, true] rfl rfl (any_of HT_.out (by kernel_rfl)) (fun _ _ _ h => h) (Or.inl ⟨by rfl, ?_⟩) ?_ ?_
    rotate_left
    · intro w'
      go_simp
      first | done | (with_reducible rfl)
    rotate_left
    · simp only [Act.put, List.setIfInBounds_toArray, List.set_cons_zero, List.set_cons_succ, i64_w, i32_w]
      rfl
    refine done_ (done_of HT_.out (by kernel_rfl)) ?_
    go_wp2_with fail
    go_ret
    exact ⟨rfl, HB.out⟩
end Go.Proofs.Ytnobomefhpkicaa.P
