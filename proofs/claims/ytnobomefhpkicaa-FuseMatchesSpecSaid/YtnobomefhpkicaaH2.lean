import Derived.Test.YtnobomefhpkicaaH1
namespace Go.Proofs.Ytnobomefhpkicaa.P
open Go.RowKit Go.Proofs.YtnobomefhpkicaaW.PrintWords Go.Proofs.YtnobomefhpkicaaW.PrintLast Go.Proofs.YtnobomefhpkicaaW.PrintMore
set_option linter.unusedVariables false
set_option linter.unusedSimpArgs false

def badCell (c : Int) : Bool := decide (3 < c)
theorem valid1_any (c : Int) (w : World) :
    Calls Try.prog 31 #[.int .u8 c] w fun e w' => e = .returned (.bool (badCell c)) ∧ w = w' := by
  go_enter Try.func31, Try.ntmps31
  go_wp2
  go_ret
  exact ⟨by simp [badCell], rfl⟩
theorem any_drop (p : Int → Bool) (l : List Int) (k : Nat) (hk : k < l.length) : (l.drop k).any p = (p (rd l k) || (l.drop (k + 1)).any p) := by
  have e : rd l k = l[k] := by unfold rd; rw [Int.toNat_natCast, List.getD_eq_getElem?_getD, List.getElem?_eq_getElem hk]; rfl
  rw [e, List.drop_eq_getElem_cons hk, List.any_cons]
theorem index8_any (A : Option Addr) (n c : Nat) (l : List Int) (w : World) (hn : n = l.length) (hl : l.length ≤ 4611686018427387904) (hr : (Kd.int .u8).C w A n l) :
    Calls Try.prog 43 #[.slice A n c, .func (.func 31) #[] #[]] w fun e w' => ∃ i : Int, (decide (0 ≤ i) = l.any badCell) ∧ e = .returned (.int .i64 i) ∧ w = w' := by
  subst hn
  have HR := Lib.hid hr
  clear hr
  go_enter Try.func43, Try.ntmps43
  go_wp2_with fail
  go_loop [8] (fun i => ∃ k : Nat, k ≤ l.length ∧ i = .int .i64 k ∧ l.any badCell = (l.drop k).any badCell) (fun i => l.length - (intOf i).toNat)
  case atStart => exact ⟨0, Nat.zero_le _, rfl, by simp⟩
  case round =>
    obtain ⟨k, hk, rfl, hany⟩ := hrel
    have HA := Lib.hid hany
    clear hany
    by_cases hlt : k < l.length
    · obtain ⟨ad, rfl, hx⟩ := Kd.at_int HR.out k (by omega) (by omega)
      rw [Int.toNat_natCast] at hx
      cases hb : badCell (rd l k)
      · have hany : l.any badCell = (l.drop (k + 1)).any badCell := by rw [HA.out, any_drop _ _ _ hlt, hb]; rfl
        have HA2 := Lib.hid hany
        have HB := Lib.hid hb
        clear hany hb
        go_wp2_with fail
        refine (valid1_any _ _).mono ?_
        rintro e w' ⟨rfl, rfl⟩
        rw [HB.out]
        go_wp2_with fail
        go_round
        case rel => exact ⟨k + 1, by omega, by go_num, HA2.out⟩
        case measure => simp [intOf]; omega
      · have hany : decide ((0 : Int) ≤ (k : Int)) = l.any badCell := by rw [HA.out, any_drop _ _ _ hlt, hb]; simp
        have HA2 := Lib.hid hany
        have HB := Lib.hid hb
        clear hany hb
        go_wp2_with fail
        refine (valid1_any _ _).mono ?_
        rintro e w' ⟨rfl, rfl⟩
        rw [HB.out]
        go_wp2_with fail
        go_ret
        exact ⟨k, HA2.out, rfl, rfl⟩
    · have hz : decide ((0 : Int) ≤ (-1 : Int)) = l.any badCell := by rw [HA.out, List.drop_of_length_le (by omega)]; rfl
      have HZ := Lib.hid hz
      clear hz
      go_wp2_with fail
      go_ret
      exact ⟨-1, HZ.out, rfl, rfl⟩
theorem contains8_any (A : Option Addr) (n c : Nat) (l : List Int) (w : World) (hn : n = l.length) (hl : l.length ≤ 4611686018427387904) (hr : (Kd.int .u8).C w A n l) :
    Calls Try.prog 30 #[.slice A n c, .func (.func 31) #[] #[]] w fun e w' => e = .returned (.bool (l.any badCell)) ∧ w = w' := by
  have HR := Lib.hid hr
  have HN := Lib.hid hn
  clear hr hn
  go_enter Try.func30, Try.ntmps30
  go_wp2_with fail
  refine (index8_any A n c l w HN.out hl HR.out).mono ?_
  rintro e w' ⟨i, hi, rfl, rfl⟩
  have HI := Lib.hid hi
  clear hi
  go_wp2_with fail
  go_ret
  exact ⟨by rw [← HI.out]; rfl, rfl⟩

def badBit (n : Int) : Bool := decide (n < 0) || decide (16 < n)
theorem new1_any (c : Int) (w : World) :
    Calls Try.prog 42 #[.int .i64 c] w fun e w' => e = .returned (.bool (badBit c)) ∧ w = w' := by
  by_cases h1 : c < 0
  · have hb : badBit c = true := by simp [badBit, h1]
    have HB := Lib.hid hb
    clear hb
    go_enter Try.func42, Try.ntmps42
    go_wp2
    go_ret
    exact ⟨by rw [HB.out]; rfl, rfl⟩
  · by_cases h2 : 16 < c
    · have hb : badBit c = true := by simp [badBit, h2]
      have HB := Lib.hid hb
      clear hb
      go_enter Try.func42, Try.ntmps42
      go_wp2
      go_ret
      exact ⟨by rw [HB.out]; rfl, rfl⟩
    · have hb : badBit c = false := by simp [badBit]; omega
      have HB := Lib.hid hb
      clear hb
      go_enter Try.func42, Try.ntmps42
      go_wp2
      go_ret
      exact ⟨by rw [HB.out]; rfl, rfl⟩
theorem index64_any (A : Option Addr) (n c : Nat) (l : List Int) (w : World) (hn : n = l.length) (hl : l.length ≤ 4611686018427387904) (hr : (Kd.int .i64).C w A n l) :
    Calls Try.prog 45 #[.slice A n c, .func (.func 42) #[] #[]] w fun e w' => ∃ i : Int, (decide (0 ≤ i) = l.any badBit) ∧ e = .returned (.int .i64 i) ∧ w = w' := by
  subst hn
  have HR := Lib.hid hr
  clear hr
  go_enter Try.func45, Try.ntmps45
  go_wp2_with fail
  go_loop [8] (fun i => ∃ k : Nat, k ≤ l.length ∧ i = .int .i64 k ∧ l.any badBit = (l.drop k).any badBit) (fun i => l.length - (intOf i).toNat)
  case atStart => exact ⟨0, Nat.zero_le _, rfl, by simp⟩
  case round =>
    obtain ⟨k, hk, rfl, hany⟩ := hrel
    have HA := Lib.hid hany
    clear hany
    by_cases hlt : k < l.length
    · obtain ⟨ad, rfl, hx⟩ := Kd.at_int HR.out k (by omega) (by omega)
      rw [Int.toNat_natCast] at hx
      cases hb : badBit (rd l k)
      · have hany : l.any badBit = (l.drop (k + 1)).any badBit := by rw [HA.out, any_drop _ _ _ hlt, hb]; rfl
        have HA2 := Lib.hid hany
        have HB := Lib.hid hb
        clear hany hb
        go_wp2_with fail
        refine (new1_any _ _).mono ?_
        rintro e w' ⟨rfl, rfl⟩
        rw [HB.out]
        go_wp2_with fail
        go_round
        case rel => exact ⟨k + 1, by omega, by go_num, HA2.out⟩
        case measure => simp [intOf]; omega
      · have hany : decide ((0 : Int) ≤ (k : Int)) = l.any badBit := by rw [HA.out, any_drop _ _ _ hlt, hb]; simp
        have HA2 := Lib.hid hany
        have HB := Lib.hid hb
        clear hany hb
        go_wp2_with fail
        refine (new1_any _ _).mono ?_
        rintro e w' ⟨rfl, rfl⟩
        rw [HB.out]
        go_wp2_with fail
        go_ret
        exact ⟨k, HA2.out, rfl, rfl⟩
    · have hz : decide ((0 : Int) ≤ (-1 : Int)) = l.any badBit := by rw [HA.out, List.drop_of_length_le (by omega)]; rfl
      have HZ := Lib.hid hz
      clear hz
      go_wp2_with fail
      go_ret
      exact ⟨-1, HZ.out, rfl, rfl⟩
theorem contains64_any (A : Option Addr) (n c : Nat) (l : List Int) (w : World) (hn : n = l.length) (hl : l.length ≤ 4611686018427387904) (hr : (Kd.int .i64).C w A n l) :
    Calls Try.prog 41 #[.slice A n c, .func (.func 42) #[] #[]] w fun e w' => e = .returned (.bool (l.any badBit)) ∧ w = w' := by
  have HR := Lib.hid hr
  have HN := Lib.hid hn
  clear hr hn
  go_enter Try.func41, Try.ntmps41
  go_wp2_with fail
  refine (index64_any A n c l w HN.out hl HR.out).mono ?_
  rintro e w' ⟨i, hi, rfl, rfl⟩
  have HI := Lib.hid hi
  clear hi
  go_wp2_with fail
  go_ret
  exact ⟨by rw [← HI.out]; rfl, rfl⟩

def slices_ContainsFunc_int_int.f (l0 : List Int) : Option Bool := if l0.length ≤ 4611686018427387904 then some (l0.any badBit) else none
theorem slices_ContainsFunc_int_int.calls (A0 : Option Addr) (c0 : Nat) (l0 : List Int) (r : Bool) (w : World) (hr0 : Kd.C (Kd.int .i64) w A0 l0.length l0) (hc0 : l0.length ≤ c0) (h : slices_ContainsFunc_int_int.f l0 = some r) :
    Calls Try.prog 41 #[.slice A0 l0.length c0, .func (.func 42) #[] #[]] w fun e w' => e = .returned (.bool r) ∧ Below w.heap.size w w' := by
  unfold slices_ContainsFunc_int_int.f at h
  by_cases hl : l0.length ≤ 4611686018427387904
  · rw [if_pos hl] at h
    cases h
    refine (contains64_any A0 _ c0 l0 w rfl hl hr0).mono ?_
    rintro e w' ⟨rfl, rfl⟩
    exact ⟨rfl, Below.refl _ _⟩
  · rw [if_neg hl] at h
    cases h
def okBank (l : List Int) : Bool := decide (l.length % 3 = 0) && decide (l.length ≤ 48) && !l.any badCell
def fuse_Valid.f (l0_0 : List (List Int)) : Option Bool :=
  if l0_0.length ≤ 4611686018427387904 ∧ (∀ l ∈ l0_0, l.length ≤ 4611686018427387904) then some (l0_0.all okBank && decide (l0_0.length ≤ 4)) else none
theorem rd_L1_mem (l : List (List Int)) (k : Nat) (hk : k < l.length) : rd_L1 l k = l[k] := by
  unfold rd_L1; rw [Int.toNat_natCast, List.getD_eq_getElem?_getD, List.getElem?_eq_getElem hk]; rfl
theorem all_drop (p : List Int → Bool) (l : List (List Int)) (k : Nat) (hk : k < l.length) : (l.drop k).all p = (p (rd_L1 l k) && (l.drop (k + 1)).all p) := by
  rw [rd_L1_mem l k hk, List.drop_eq_getElem_cons hk, List.all_cons]
theorem fuse_Valid.calls (A0_0 : Option Addr) (c0_0 : Nat) (l0_0 : List (List Int)) (r : Bool) (w : World) (hr0_0 : Kd.C (Kd.slice 5 (Kd.int .u8)) w A0_0 l0_0.length l0_0) (hc0_0 : l0_0.length ≤ c0_0) (h : fuse_Valid.f l0_0 = some r) :
    Calls Try.prog 11 #[.agg #[.slice A0_0 l0_0.length c0_0]] w fun e w' => e = .returned (.bool r) ∧ Below w.heap.size w w' := by
  unfold fuse_Valid.f at h
  by_cases hh : l0_0.length ≤ 4611686018427387904 ∧ (∀ l ∈ l0_0, l.length ≤ 4611686018427387904)
  case neg => rw [if_neg hh] at h; cases h
  rw [if_pos hh] at h
  obtain ⟨hl0, hls⟩ := hh
  obtain rfl := Option.some.inj h
  clear h
  obtain ⟨W, hW⟩ : ∃ W, w.alloc (.cells #[.slice A0_0 l0_0.length c0_0] 24) = W := ⟨_, rfl⟩
  have hB : Below w.heap.size w W := hW ▸ (Below.refl w.heap.size w).alloc (Nat.le_refl _) _
  have hbx : W.cell? ⟨w.heap.size, 0, none⟩ = some (.slice A0_0 l0_0.length c0_0) := by rw [← hW]; simp
  have HR := Lib.hid (Kd.C_below hr0_0 hB)
  have HB := Lib.hid hB
  have HL := Lib.hid hls
  have HW := Lib.hid hW
  clear hr0_0 hB hls hW
  go_enter Try.func11, Try.ntmps11
  go_wp2_with fail
  rw [HW.out]
  go_loop [8] (fun i => ∃ k : Nat, k ≤ l0_0.length ∧ i = .int .i64 k ∧ l0_0.all okBank = (l0_0.drop k).all okBank) (fun i => l0_0.length - (intOf i).toNat)
  case atStart => exact ⟨0, Nat.zero_le _, rfl, by simp⟩
  case round =>
    obtain ⟨k, hk, rfl, hall⟩ := hrel
    have HA := Lib.hid hall
    clear hall
    by_cases hlt : k < l0_0.length
    · obtain ⟨ad, A1, c1, rfl, hx, hl1, hi⟩ := at_L1 HR.out k (by omega) (by omega)
      rw [Int.toNat_natCast] at hx
      have hlk : (rd_L1 l0_0 k).length ≤ 4611686018427387904 := HL.out _ (by rw [rd_L1_mem _ _ hlt]; exact List.getElem_mem _)
      have HI := Lib.hid hi
      clear hi
      have hst := all_drop okBank l0_0 k hlt
      by_cases c1' : (rd_L1 l0_0 k).length % 3 = 0
      · by_cases c2' : (rd_L1 l0_0 k).length ≤ 48
        · cases c3' : (rd_L1 l0_0 k).any badCell
          · have hok : l0_0.all okBank = (l0_0.drop (k + 1)).all okBank := by
              rw [HA.out, hst]
              simp [okBank, c1', c2', c3']
            have HOK := Lib.hid hok
            have HC3 := Lib.hid c3'
            have hm : (((rd_L1 l0_0 k).length : Int) % 3 != 0) = false := by simp; omega
            clear hst hok c3'
            go_wp2_with fail
            refine (contains8_any A1 _ c1 (rd_L1 l0_0 k) _ rfl hlk HI.out).mono ?_
            rintro e w' ⟨rfl, rfl⟩
            rw [HC3.out]
            go_wp2_with fail
            go_round
            case rel => exact ⟨k + 1, by omega, by go_num, HOK.out⟩
            case measure => simp [intOf]; omega
          · have hok : l0_0.all okBank = false := by
              rw [HA.out, hst]
              simp [okBank, c3']
            have HOK := Lib.hid hok
            have HC3 := Lib.hid c3'
            have hm : (((rd_L1 l0_0 k).length : Int) % 3 != 0) = false := by simp; omega
            clear hst hok c3'
            go_wp2_with fail
            refine (contains8_any A1 _ c1 (rd_L1 l0_0 k) _ rfl hlk HI.out).mono ?_
            rintro e w' ⟨rfl, rfl⟩
            rw [HC3.out]
            go_wp2_with fail
            go_ret
            exact ⟨by rw [HOK.out]; rfl, HB.out⟩
        · have hok : l0_0.all okBank = false := by
            rw [HA.out, hst]
            simp [okBank, c2']
          have HOK := Lib.hid hok
          have hm : (((rd_L1 l0_0 k).length : Int) % 3 != 0) = false := by simp; omega
          clear hst hok
          go_wp2_with fail
          go_ret
          exact ⟨by rw [HOK.out]; rfl, HB.out⟩
      · have hok : l0_0.all okBank = false := by
          rw [HA.out, hst]
          simp [okBank, c1']
        have HOK := Lib.hid hok
        have hm : (((rd_L1 l0_0 k).length : Int) % 3 != 0) = true := by simp; omega
        clear hst hok
        go_wp2_with fail
        go_ret
        exact ⟨by rw [HOK.out]; rfl, HB.out⟩
    · have hz : l0_0.all okBank = true := by rw [HA.out, List.drop_of_length_le (by omega)]; rfl
      have HZ := Lib.hid hz
      clear hz
      go_wp2_with fail
      go_ret
      exact ⟨by rw [HZ.out]; simp; omega, HB.out⟩
end Go.Proofs.Ytnobomefhpkicaa.P
