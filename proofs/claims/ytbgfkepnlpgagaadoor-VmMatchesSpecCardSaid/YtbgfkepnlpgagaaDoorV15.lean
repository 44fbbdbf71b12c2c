/- The reference's small functions, each by its contract. -/
import Derived.Test.YtbgfkepnlpgagaaDoorV14
import Derived.Test.YtbgfkepnlpgagaaDoorP1
namespace Go.Proofs.YtbgfkepnlpgagaaDoor.P
open Go.RowKit Go.Proofs.YtbgfkepnlpgagaaDoorW.PrintWords Go.Proofs.YtbgfkepnlpgagaaDoorW.PrintLast Go.Proofs.YtbgfkepnlpgagaaDoorW.PrintMore
attribute [local go_sem] max2_int min2_int max_two min_two max_three min_three max_four min_four
set_option linter.unusedVariables false
set_option linter.unusedSimpArgs false

def popsN (op : Int) : Int := if op = 1 ∨ op = 2 ∨ op = 13 ∨ op = 15 ∨ op = 16 ∨ op = 17 then 0 else if op = 3 ∨ op = 11 ∨ op = 12 ∨ op = 14 then 1 else if 4 ≤ op ∧ op ≤ 10 then 2 else -1
theorem pops_1 (w : World) : Calls Tryd.prog 23 #[.int .i64 1] w fun e w' => e = .returned (.int .i64 0) ∧ w = w' := by
  go_enter Tryd.func23, Tryd.ntmps23
  go_wp2
  go_ret
  exact ⟨rfl, rfl⟩
theorem pops_2 (w : World) : Calls Tryd.prog 23 #[.int .i64 2] w fun e w' => e = .returned (.int .i64 0) ∧ w = w' := by
  go_enter Tryd.func23, Tryd.ntmps23
  go_wp2
  go_ret
  exact ⟨rfl, rfl⟩
theorem pops_3 (w : World) : Calls Tryd.prog 23 #[.int .i64 3] w fun e w' => e = .returned (.int .i64 1) ∧ w = w' := by
  go_enter Tryd.func23, Tryd.ntmps23
  go_wp2
  go_ret
  exact ⟨rfl, rfl⟩
theorem pops_4 (w : World) : Calls Tryd.prog 23 #[.int .i64 4] w fun e w' => e = .returned (.int .i64 2) ∧ w = w' := by
  go_enter Tryd.func23, Tryd.ntmps23
  go_wp2
  go_ret
  exact ⟨rfl, rfl⟩
theorem pops_5 (w : World) : Calls Tryd.prog 23 #[.int .i64 5] w fun e w' => e = .returned (.int .i64 2) ∧ w = w' := by
  go_enter Tryd.func23, Tryd.ntmps23
  go_wp2
  go_ret
  exact ⟨rfl, rfl⟩
theorem pops_6 (w : World) : Calls Tryd.prog 23 #[.int .i64 6] w fun e w' => e = .returned (.int .i64 2) ∧ w = w' := by
  go_enter Tryd.func23, Tryd.ntmps23
  go_wp2
  go_ret
  exact ⟨rfl, rfl⟩
theorem pops_7 (w : World) : Calls Tryd.prog 23 #[.int .i64 7] w fun e w' => e = .returned (.int .i64 2) ∧ w = w' := by
  go_enter Tryd.func23, Tryd.ntmps23
  go_wp2
  go_ret
  exact ⟨rfl, rfl⟩
theorem pops_8 (w : World) : Calls Tryd.prog 23 #[.int .i64 8] w fun e w' => e = .returned (.int .i64 2) ∧ w = w' := by
  go_enter Tryd.func23, Tryd.ntmps23
  go_wp2
  go_ret
  exact ⟨rfl, rfl⟩
theorem pops_9 (w : World) : Calls Tryd.prog 23 #[.int .i64 9] w fun e w' => e = .returned (.int .i64 2) ∧ w = w' := by
  go_enter Tryd.func23, Tryd.ntmps23
  go_wp2
  go_ret
  exact ⟨rfl, rfl⟩
theorem pops_10 (w : World) : Calls Tryd.prog 23 #[.int .i64 10] w fun e w' => e = .returned (.int .i64 2) ∧ w = w' := by
  go_enter Tryd.func23, Tryd.ntmps23
  go_wp2
  go_ret
  exact ⟨rfl, rfl⟩
theorem pops_11 (w : World) : Calls Tryd.prog 23 #[.int .i64 11] w fun e w' => e = .returned (.int .i64 1) ∧ w = w' := by
  go_enter Tryd.func23, Tryd.ntmps23
  go_wp2
  go_ret
  exact ⟨rfl, rfl⟩
theorem pops_12 (w : World) : Calls Tryd.prog 23 #[.int .i64 12] w fun e w' => e = .returned (.int .i64 1) ∧ w = w' := by
  go_enter Tryd.func23, Tryd.ntmps23
  go_wp2
  go_ret
  exact ⟨rfl, rfl⟩
theorem pops_13 (w : World) : Calls Tryd.prog 23 #[.int .i64 13] w fun e w' => e = .returned (.int .i64 0) ∧ w = w' := by
  go_enter Tryd.func23, Tryd.ntmps23
  go_wp2
  go_ret
  exact ⟨rfl, rfl⟩
theorem pops_14 (w : World) : Calls Tryd.prog 23 #[.int .i64 14] w fun e w' => e = .returned (.int .i64 1) ∧ w = w' := by
  go_enter Tryd.func23, Tryd.ntmps23
  go_wp2
  go_ret
  exact ⟨rfl, rfl⟩
theorem pops_15 (w : World) : Calls Tryd.prog 23 #[.int .i64 15] w fun e w' => e = .returned (.int .i64 0) ∧ w = w' := by
  go_enter Tryd.func23, Tryd.ntmps23
  go_wp2
  go_ret
  exact ⟨rfl, rfl⟩
theorem pops_16 (w : World) : Calls Tryd.prog 23 #[.int .i64 16] w fun e w' => e = .returned (.int .i64 0) ∧ w = w' := by
  go_enter Tryd.func23, Tryd.ntmps23
  go_wp2
  go_ret
  exact ⟨rfl, rfl⟩
theorem pops_17 (w : World) : Calls Tryd.prog 23 #[.int .i64 17] w fun e w' => e = .returned (.int .i64 0) ∧ w = w' := by
  go_enter Tryd.func23, Tryd.ntmps23
  go_wp2
  go_ret
  exact ⟨rfl, rfl⟩
theorem pops_no (op : Int) (w : World) (h : ¬ (1 ≤ op ∧ op < 18)) : Calls Tryd.prog 23 #[.int .i64 op] w fun e w' => e = .returned (.int .i64 (-1)) ∧ w = w' := by
  have h1 : (op == 1) = false := by simp; omega
  have h2 : (op == 2) = false := by simp; omega
  have h3 : (op == 3) = false := by simp; omega
  have h4 : (op == 4) = false := by simp; omega
  have h5 : (op == 5) = false := by simp; omega
  have h6 : (op == 6) = false := by simp; omega
  have h7 : (op == 7) = false := by simp; omega
  have h8 : (op == 8) = false := by simp; omega
  have h9 : (op == 9) = false := by simp; omega
  have h10 : (op == 10) = false := by simp; omega
  have h11 : (op == 11) = false := by simp; omega
  have h12 : (op == 12) = false := by simp; omega
  have h13 : (op == 13) = false := by simp; omega
  have h14 : (op == 14) = false := by simp; omega
  have h15 : (op == 15) = false := by simp; omega
  have h16 : (op == 16) = false := by simp; omega
  have h17 : (op == 17) = false := by simp; omega
  clear h
  go_enter Tryd.func23, Tryd.ntmps23
  go_wp2
  go_ret
  exact ⟨rfl, rfl⟩
theorem tmod_emod (x : Int) : (if x.tmod 65536 < 0 then x.tmod 65536 + 65536 else x.tmod 65536) = x % 65536 := by
  have h1 := Int.tmod_lt_of_pos x (show (0 : Int) < 65536 by decide)
  have h4 := Int.mul_tdiv_add_tmod x 65536
  rcases Int.lt_or_le x 0 with h | h
  · have h2 := Int.neg_tmod (-x) 65536
    rw [Int.neg_neg] at h2
    have h3 := Int.tmod_lt_of_pos (-x) (show (0 : Int) < 65536 by decide)
    have h5 := Int.tmod_nonneg (a := -x) 65536 (by omega)
    split <;> omega
  · have h2 := Int.tmod_nonneg (a := x) 65536 h
    rw [if_neg (by omega)]
    omega
theorem rwrap_any (x : Int) (w : World) : Calls Tryd.prog 24 #[.int .i64 x] w fun r w' => r = .returned (.int .i64 (x % 65536)) ∧ w = w' := by
  have hx := tmod_emod x
  have h1 := Int.tmod_lt_of_pos x (show (0 : Int) < 65536 by decide)
  have h2 : -65536 < x.tmod 65536 := by
    rcases Int.lt_or_le x 0 with h | h
    · have := Int.neg_tmod (-x) 65536
      rw [Int.neg_neg] at this
      have h3 := Int.tmod_lt_of_pos (-x) (show (0 : Int) < 65536 by decide)
      omega
    · have := Int.tmod_nonneg (a := x) 65536 h
      omega
  by_cases hn : x.tmod 65536 < 0
  · rw [if_pos hn] at hx
    have hw : wrap64 (x.tmod 65536 + 65536) = x % 65536 := by rw [← hx]; unfold wrap64; omega
    have HW := Lib.hid hw
    have hd : decide (x.tmod 65536 < 0) = true := decide_eq_true hn
    clear hw hx h1 h2
    go_enter Tryd.func24, Tryd.ntmps24
    go_wp2
    rw [HW.out]
    go_ret
    exact ⟨rfl, rfl⟩
  · rw [if_neg hn] at hx
    have HW := Lib.hid hx
    have hd : decide (x.tmod 65536 < 0) = false := decide_eq_false hn
    clear hx h1 h2
    go_enter Tryd.func24, Tryd.ntmps24
    go_wp2
    rw [HW.out]
    go_ret
    exact ⟨rfl, rfl⟩
theorem rtruth_any (b : Bool) (w : World) : Calls Tryd.prog 27 #[.bool b] w fun r w' => r = .returned (.int .i64 (b2i b)) ∧ w = w' := by
  cases b
  all_goals
    go_enter Tryd.func27, Tryd.ntmps27
    go_wp2
    go_ret
    exact ⟨rfl, rfl⟩
theorem rbin_4 (a b : Int) (w : World) : Calls Tryd.prog 26 #[.int .i64 4, .int .i64 a, .int .i64 b] w fun r w' => r = .returned (.int .i64 (binV 4 a b)) ∧ w = w' := by
  go_enter Tryd.func26, Tryd.ntmps26
  go_wp2_with (first | (go_at_call 24; refine (rwrap_any _ _).mono ?_; rintro e w' ⟨rfl, rfl⟩) | (go_at_call 27; refine (rtruth_any _ _).mono ?_; rintro e w' ⟨rfl, rfl⟩))
  go_ret
  exact ⟨rfl, rfl⟩
theorem rbin_5 (a b : Int) (w : World) : Calls Tryd.prog 26 #[.int .i64 5, .int .i64 a, .int .i64 b] w fun r w' => r = .returned (.int .i64 (binV 5 a b)) ∧ w = w' := by
  go_enter Tryd.func26, Tryd.ntmps26
  go_wp2_with (first | (go_at_call 24; refine (rwrap_any _ _).mono ?_; rintro e w' ⟨rfl, rfl⟩) | (go_at_call 27; refine (rtruth_any _ _).mono ?_; rintro e w' ⟨rfl, rfl⟩))
  go_ret
  exact ⟨rfl, rfl⟩
theorem rbin_6 (a b : Int) (w : World) : Calls Tryd.prog 26 #[.int .i64 6, .int .i64 a, .int .i64 b] w fun r w' => r = .returned (.int .i64 (binV 6 a b)) ∧ w = w' := by
  go_enter Tryd.func26, Tryd.ntmps26
  go_wp2_with (first | (go_at_call 24; refine (rwrap_any _ _).mono ?_; rintro e w' ⟨rfl, rfl⟩) | (go_at_call 27; refine (rtruth_any _ _).mono ?_; rintro e w' ⟨rfl, rfl⟩))
  go_ret
  exact ⟨rfl, rfl⟩
theorem rbin_7 (a b : Int) (w : World) : Calls Tryd.prog 26 #[.int .i64 7, .int .i64 a, .int .i64 b] w fun r w' => r = .returned (.int .i64 (binV 7 a b)) ∧ w = w' := by
  go_enter Tryd.func26, Tryd.ntmps26
  go_wp2_with (first | (go_at_call 24; refine (rwrap_any _ _).mono ?_; rintro e w' ⟨rfl, rfl⟩) | (go_at_call 27; refine (rtruth_any _ _).mono ?_; rintro e w' ⟨rfl, rfl⟩))
  go_ret
  exact ⟨rfl, rfl⟩
theorem rbin_8 (a b : Int) (w : World) : Calls Tryd.prog 26 #[.int .i64 8, .int .i64 a, .int .i64 b] w fun r w' => r = .returned (.int .i64 (binV 8 a b)) ∧ w = w' := by
  go_enter Tryd.func26, Tryd.ntmps26
  go_wp2_with (first | (go_at_call 24; refine (rwrap_any _ _).mono ?_; rintro e w' ⟨rfl, rfl⟩) | (go_at_call 27; refine (rtruth_any _ _).mono ?_; rintro e w' ⟨rfl, rfl⟩))
  go_ret
  exact ⟨rfl, rfl⟩
theorem rbin_9 (a b : Int) (w : World) : Calls Tryd.prog 26 #[.int .i64 9, .int .i64 a, .int .i64 b] w fun r w' => r = .returned (.int .i64 (binV 9 a b)) ∧ w = w' := by
  cases h : (a != 0)
  · skip
    have hv : binV 9 a b = b2i (false) := by simp [binV, h]
    have HV := Lib.hid hv
    clear hv
    go_enter Tryd.func26, Tryd.ntmps26
    go_wp2_with (first | (go_at_call 24; refine (rwrap_any _ _).mono ?_; rintro e w' ⟨rfl, rfl⟩) | (go_at_call 27; refine (rtruth_any _ _).mono ?_; rintro e w' ⟨rfl, rfl⟩))
    go_ret
    exact ⟨by rw [HV.out]; rfl, rfl⟩
  · skip
    have hv : binV 9 a b = b2i (b != 0) := by simp [binV, h]
    have HV := Lib.hid hv
    clear hv
    go_enter Tryd.func26, Tryd.ntmps26
    go_wp2_with (first | (go_at_call 24; refine (rwrap_any _ _).mono ?_; rintro e w' ⟨rfl, rfl⟩) | (go_at_call 27; refine (rtruth_any _ _).mono ?_; rintro e w' ⟨rfl, rfl⟩))
    go_ret
    exact ⟨by rw [HV.out]; rfl, rfl⟩
theorem rbin_10 (a b : Int) (w : World) : Calls Tryd.prog 26 #[.int .i64 10, .int .i64 a, .int .i64 b] w fun r w' => r = .returned (.int .i64 (binV 10 a b)) ∧ w = w' := by
  cases h : (a != 0)
  · skip
    have hv : binV 10 a b = b2i (b != 0) := by simp [binV, h]
    have HV := Lib.hid hv
    clear hv
    go_enter Tryd.func26, Tryd.ntmps26
    go_wp2_with (first | (go_at_call 24; refine (rwrap_any _ _).mono ?_; rintro e w' ⟨rfl, rfl⟩) | (go_at_call 27; refine (rtruth_any _ _).mono ?_; rintro e w' ⟨rfl, rfl⟩))
    go_ret
    exact ⟨by rw [HV.out]; rfl, rfl⟩
  · skip
    have hv : binV 10 a b = b2i (true) := by simp [binV, h]
    have HV := Lib.hid hv
    clear hv
    go_enter Tryd.func26, Tryd.ntmps26
    go_wp2_with (first | (go_at_call 24; refine (rwrap_any _ _).mono ?_; rintro e w' ⟨rfl, rfl⟩) | (go_at_call 27; refine (rtruth_any _ _).mono ?_; rintro e w' ⟨rfl, rfl⟩))
    go_ret
    exact ⟨by rw [HV.out]; rfl, rfl⟩
theorem rin_any (A : Option Addr) (n c : Nat) (l : List Int) (x : Int) (w : World) (hn : n = l.length) (hl : l.length ≤ 4611686018427387904) (hr : (Kd.int .i64).C w A n l) :
    Calls Tryd.prog 28 #[.slice A n c, .int .i64 x] w fun e w' => e = .returned (.bool (l.any (fun y => x == y))) ∧ w = w' := by
  subst hn
  have HR := Lib.hid hr
  clear hr
  go_enter Tryd.func28, Tryd.ntmps28
  go_wp2_with fail
  go_loop [5] (fun i => ∃ k : Nat, k ≤ l.length ∧ i = .int .i64 k ∧ l.any (fun y => x == y) = (l.drop k).any (fun y => x == y)) (fun i => l.length - (intOf i).toNat)
  case atStart => exact ⟨0, Nat.zero_le _, rfl, by simp⟩
  case round =>
    obtain ⟨k, hk, rfl, hany⟩ := hrel
    have HA := Lib.hid hany
    clear hany
    by_cases hlt : k < l.length
    · obtain ⟨ad, rfl, hx⟩ := Kd.at_int HR.out k (by omega) (by omega)
      rw [Int.toNat_natCast] at hx
      cases hb : (rd l k == x)
      · have hany : l.any (fun y => x == y) = (l.drop (k + 1)).any (fun y => x == y) := by rw [HA.out, any_drop _ _ _ hlt, BEq.comm, hb]; rfl
        have HA2 := Lib.hid hany
        clear hany
        go_wp2_with fail
        go_round
        case rel => exact ⟨k + 1, by omega, by go_num, HA2.out⟩
        case measure => simp [intOf]; omega
      · have hany : l.any (fun y => x == y) = true := by rw [HA.out, any_drop _ _ _ hlt, BEq.comm, hb]; rfl
        have HA2 := Lib.hid hany
        clear hany
        go_wp2_with fail
        go_ret
        exact ⟨by rw [HA2.out]; rfl, rfl⟩
    · have hz : l.any (fun y => x == y) = false := by rw [HA.out, List.drop_of_length_le (by omega)]; rfl
      have HZ := Lib.hid hz
      clear hz
      go_wp2_with fail
      go_ret
      exact ⟨by rw [HZ.out]; rfl, rfl⟩
end Go.Proofs.YtbgfkepnlpgagaaDoor.P
