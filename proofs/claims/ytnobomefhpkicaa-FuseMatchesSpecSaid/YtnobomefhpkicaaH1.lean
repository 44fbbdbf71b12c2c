import Derived.Test.YtnobomefhpkicaaP0
import Derived.Lib.Hide
import Derived.Outline
namespace Go.Proofs.Ytnobomefhpkicaa.P
open Go.RowKit Go.Proofs.YtnobomefhpkicaaW.PrintWords Go.Proofs.YtnobomefhpkicaaW.PrintLast Go.Proofs.YtnobomefhpkicaaW.PrintMore
set_option linter.unusedVariables false
set_option linter.unusedSimpArgs false

/-- What a cell reads as. -/
def readV (c : Int) (noise : Bool) : Int := if c = 2 then 1 else if c = 1 then (if noise = true then 1 else 0) else 0
theorem readV_bd (c : Int) (b : Bool) : 0 ≤ readV c b ∧ readV c b ≤ 1 := by
  unfold readV; repeat' split
  all_goals omega
theorem reading_any (a0 : Int) (a1 : Bool) (w : World) :
    Calls Try.prog 33 #[.int .u8 a0, .bool a1] w fun e w' => e = .returned (.int .i64 (readV a0 a1)) ∧ w = w' := by
  by_cases c3 : a0 = 2
  · subst c3
    go_enter Try.func33, Try.ntmps33
    go_wp2
    go_ret
    exact ⟨by simp [readV], rfl⟩
  · have c3b : (a0 == 2) = false := beq_eq_false_iff_ne.mpr c3
    by_cases c4 : a0 = 1
    · subst c4
      cases a1
      all_goals
        go_enter Try.func33, Try.ntmps33
        go_wp2
        go_ret
        exact ⟨by simp [readV], rfl⟩
    · have c4b : (a0 == 1) = false := beq_eq_false_iff_ne.mpr c4
      have hv : readV a0 a1 = 0 := by simp [readV, c3, c4]
      have HV := Lib.hid hv
      clear c3 c4 hv
      go_enter Try.func33, Try.ntmps33
      go_wp2
      go_ret
      exact ⟨by rw [HV.out]; rfl, rfl⟩
theorem least1_any (c : Int) (w : World) :
    Calls Try.prog 37 #[.int .u8 c] w fun e w' => e = .returned (.int .i64 (readV c false)) ∧ w = w' := by
  go_enter Try.func37, Try.ntmps37
  go_wp2_with (go_at_call 33; refine (reading_any _ _ _).mono ?_; rintro e w' ⟨rfl, rfl⟩)
  go_ret
  exact ⟨rfl, rfl⟩
theorem most1_any (c : Int) (w : World) :
    Calls Try.prog 39 #[.int .u8 c] w fun e w' => e = .returned (.int .i64 (readV c true)) ∧ w = w' := by
  go_enter Try.func39, Try.ntmps39
  go_wp2_with (go_at_call 33; refine (reading_any _ _ _).mono ?_; rintro e w' ⟨rfl, rfl⟩)
  go_ret
  exact ⟨rfl, rfl⟩

/-- The level of a bank's cells. -/
def lvl (rdg : Int → Int) : List Int → Nat
  | a :: b :: c :: t => if 2 * (rdg a + rdg b + rdg c) ≤ 3 then 0 else lvl rdg t + 1
  | _ => 0
def levelF (rdg : Int → Int) (l : List (List Int)) (a1 : Int) : Option Int :=
  if a1 < 0 then some (-1) else if a1 ≥ (l.length : Int) then some (-1) else
    if (rd_L1 l a1).length ≤ 4611686018427387904 then some (lvl rdg (rd_L1 l a1) : Int) else none
theorem width_any (A0 : Option Addr) (c0 : Nat) (l0 : List (List Int)) (n : Nat) (w : World) (h1 : n < l0.length) (hr : Kd.C (Kd.slice 5 (Kd.int .u8)) w A0 l0.length l0) (hl : (rd_L1 l0 n).length ≤ 4611686018427387904) :
    Calls Try.prog 18 #[.agg #[.slice A0 l0.length c0], .int .i64 n] w fun e w' => e = .returned (.int .i64 (((rd_L1 l0 n).length : Int) / 3)) ∧ Below w.heap.size w w' := by
  obtain ⟨ad, A1, c1, rfl, hx, hl1, hi⟩ := at_L1 hr n (by omega) (by omega)
  have h0' : decide ((n : Int) < 0) = false := by simp
  have h1' : decide (l0.length ≤ n) = false := by simp; omega
  have hb := World.block_lt_of_cell? w _ hx
  have hx' : (w.alloc (.cells #[.slice (some ad) l0.length c0] 24)).cell? (ad.add n) = some (.slice A1 (rd_L1 l0 n).length c1) := by
    rw [← hx]
    exact ((Below.refl w.heap.size w).alloc (Nat.le_refl _) _).cell hb
  clear hx hr hi
  go_enter Try.func18, Try.ntmps18
  go_wp2
  go_ret
  exact ⟨rfl, (Below.refl _ _).alloc (Nat.le_refl _) _⟩
theorem width_no (A0 : Option Addr) (c0 : Nat) (l0 : List (List Int)) (n : Int) (w : World) (h : n < 0 ∨ n ≥ (l0.length : Int)) :
    Calls Try.prog 18 #[.agg #[.slice A0 l0.length c0], .int .i64 n] w fun e w' => e = .returned (.int .i64 (-1)) ∧ Below w.heap.size w w' := by
  by_cases h0 : n < 0
  · have h0' : decide (n < 0) = true := by simp [h0]
    go_enter Try.func18, Try.ntmps18
    go_wp2
    go_ret
    exact ⟨rfl, (Below.refl _ _).alloc (Nat.le_refl _) _⟩
  · obtain ⟨m, rfl⟩ := Int.eq_ofNat_of_zero_le (show 0 ≤ n by omega)
    have h0' : decide ((m : Int) < 0) = false := by simp
    have h1' : decide (l0.length ≤ m) = true := by simp; omega
    clear h h0
    go_enter Try.func18, Try.ntmps18
    go_wp2
    go_ret
    exact ⟨rfl, (Below.refl _ _).alloc (Nat.le_refl _) _⟩
/-- The sum of the readings of the first j cells of logical bit k. -/
def smK (rdg : Int → Int) (cells : List Int) (k j : Nat) : Int := (((cells.drop (3 * k)).take j).map rdg).sum
theorem smK_succ (rdg : Int → Int) (cells : List Int) (k j : Nat) (h : 3 * k + j < cells.length) : smK rdg cells k (j + 1) = smK rdg cells k j + rdg (rd cells (3 * (k : Int) + j)) := by
  unfold smK rd
  rw [List.take_succ_eq_append_getElem (by rw [List.length_drop]; omega), List.map_append, List.sum_append]
  simp only [List.map_cons, List.map_nil, List.sum_cons, List.sum_nil, Int.add_zero, List.getElem_drop]
  rw [show (3 * (k : Int) + j).toNat = 3 * k + j by omega, List.getD_eq_getElem?_getD, List.getElem?_eq_getElem h]
  rfl
theorem sum_bd (rdg : Int → Int) (hb : ∀ c, 0 ≤ rdg c ∧ rdg c ≤ 1) : ∀ l : List Int, 0 ≤ (l.map rdg).sum ∧ (l.map rdg).sum ≤ l.length
  | [] => by simp
  | a :: l => by
    have := sum_bd rdg hb l
    have := hb a
    simp only [List.map_cons, List.sum_cons, List.length_cons]
    omega
theorem smK_bd (rdg : Int → Int) (hb : ∀ c, 0 ≤ rdg c ∧ rdg c ≤ 1) (cells : List Int) (k j : Nat) (hj : j ≤ 3) : 0 ≤ smK rdg cells k j ∧ smK rdg cells k j ≤ 3 := by
  have h := sum_bd rdg hb ((cells.drop (3 * k)).take j)
  have h2 := List.length_take_le j (cells.drop (3 * k))
  unfold smK
  omega
theorem lvl_short (rdg : Int → Int) (l : List Int) (h : l.length < 3) : lvl rdg l = 0 := by
  match l, h with
  | [], _ => rfl
  | [_], _ => rfl
  | [_, _], _ => rfl
theorem lvl_step (rdg : Int → Int) (cells : List Int) (k : Nat) (h : 3 * k + 2 < cells.length) :
    lvl rdg (cells.drop (3 * k)) = if 2 * smK rdg cells k 3 ≤ 3 then 0 else lvl rdg (cells.drop (3 * (k + 1))) + 1 := by
  unfold smK
  rw [show 3 * (k + 1) = 3 * k + 3 by omega, ← List.drop_drop]
  generalize hm : cells.drop (3 * k) = m
  have hl : 3 ≤ m.length := by rw [← hm, List.length_drop]; omega
  match m, hl with
  | a :: b :: c :: t, _ => simp [lvl, Int.add_assoc]
theorem level_ok (g : Nat) (rdg : Int → Int) (he : ∀ (x : Value) (W : World), Sem.run Try.prog (callFunc g #[x]) W = .ok (.enter g #[x]) W) (hg : ∀ c W, Calls Try.prog g #[.int .u8 c] W fun e W' => e = .returned (.int .i64 (rdg c)) ∧ W = W') (hb : ∀ c, 0 ≤ rdg c ∧ rdg c ≤ 1)
    (A0 : Option Addr) (c0 : Nat) (l0 : List (List Int)) (a1 : Nat) (w : World) (h1 : a1 < l0.length) (hr : Kd.C (Kd.slice 5 (Kd.int .u8)) w A0 l0.length l0) (hl : (rd_L1 l0 a1).length ≤ 4611686018427387904) :
    Calls Try.prog 36 #[.agg #[.slice A0 l0.length c0], .int .i64 a1, .func (.func g) #[] #[]] w fun e w' => e = .returned (.int .i64 (lvl rdg (rd_L1 l0 a1))) ∧ Below w.heap.size w w' := by
  obtain ⟨ad, A1, c1, rfl, hx, hl1, hi⟩ := at_L1 hr a1 (by omega) (by omega)
  have hb0 := World.block_lt_of_cell? w _ hx
  have HI := Lib.hid hi
  have HRr := Lib.hid hr
  have HG := Lib.hid hg
  have HX := Lib.hid hx
  have hnd : (rd_L1 l0 a1).length / 3 ≤ (rd_L1 l0 a1).length := Nat.div_le_self _ _
  clear hr hg hx hi
  go_enter Try.func36, Try.ntmps36
  go_wp2_with fail
  refine (width_any _ _ l0 a1 _ h1 (Kd.C_below HRr.out ((Below.refl w.heap.size w).alloc (Nat.le_refl _) _)) hl).mono ?_
  rintro e W1 ⟨rfl, hB1⟩
  have hbx : W1.cell? ⟨w.heap.size, 0, none⟩ = some (.slice (some ad) l0.length c0) := (hB1.cell (p := ⟨w.heap.size, 0, none⟩) (by simp)).trans (by simp)
  have hB : Below w.heap.size w W1 := ((Below.refl w.heap.size w).alloc (Nat.le_refl _) _).trans (hB1.mono (by simp))
  have hx1 : W1.cell? (ad.add a1) = some (.slice A1 (rd_L1 l0 a1).length c1) := (hB.cell hb0).trans HX.out
  have hcell : ∀ j, j < (rd_L1 l0 a1).length → ∃ ad1, A1 = some ad1 ∧ W1.cell? (ad1.add j) = some (.int .u8 (rd (rd_L1 l0 a1) j)) := by
    intro j hj
    obtain ⟨ad1, h1, h2⟩ := Kd.at_int HI.out j (by omega) (by omega)
    exact ⟨ad1, h1, by rw [← h2]; exact hB.cell (World.block_lt_of_cell? w _ h2)⟩
  have HC := Lib.hid hcell
  have HB := Lib.hid hB
  clear hcell hB hB1 hb0
  go_wp2_with fail
  go_loop [16] (fun i => ∃ k : Nat, k ≤ (rd_L1 l0 a1).length / 3 ∧ i = .int .i64 k ∧ lvl rdg (rd_L1 l0 a1) = k + lvl rdg ((rd_L1 l0 a1).drop (3 * k))) (fun i => (rd_L1 l0 a1).length - (intOf i).toNat)
  case atStart => exact ⟨0, Nat.zero_le _, rfl, by simp⟩
  case round =>
    obtain ⟨k, hk, rfl, hlv⟩ := hrel
    have HL := Lib.hid hlv
    clear hlv
    by_cases hlt : k < (rd_L1 l0 a1).length / 3
    · have hlen : 3 * k + 2 < (rd_L1 l0 a1).length := by omega
      obtain ⟨ad1, hA1, _⟩ := HC.out (3 * k) (by omega)
      subst hA1
      have HC' : Hid (∀ j, j < 3 → W1.cell? ((ad1.add (k * 3)).add j) = some (.int .u8 (rd (rd_L1 l0 a1) ((3 * k + j : Nat) : Int)))) := by
        refine Lib.hid ?_
        intro j hj
        obtain ⟨ad2, h2, h3⟩ := HC.out (3 * k + j) (by omega)
        cases h2
        rw [Addr.add_add, Nat.mul_comm k 3]
        exact h3
      have h3 : (k + 1) * 3 - k * 3 = 3 := by omega
      have H3 := Lib.hid h3
      have hcap : k * 3 ≤ c1 := by omega
      have hcap2 : (k + 1) * 3 ≤ c1 := by omega
      clear h3
      go_wp2_with fail
      rw [H3.out]
      go_loop [9, 31] (fun t i => ∃ j : Nat, j ≤ 3 ∧ i = .int .i64 j ∧ t = .int .i64 (smK rdg (rd_L1 l0 a1) k j)) (fun _ i => 3 - (intOf i).toNat)
      case atStart => exact ⟨0, Nat.zero_le _, rfl, by simp [smK]⟩
      case round =>
        obtain ⟨j, hj, rfl, rfl⟩ := hrel
        by_cases hjl : j < 3
        · have hcj := HC'.out j hjl
          go_wp2_with fail
          refine (HG.out _ _).mono ?_
          rintro e w' ⟨rfl, rfl⟩
          have hbd := hb (rd (rd_L1 l0 a1) (3 * (k : Int) + j))
          have hsb : 0 ≤ smK rdg (rd_L1 l0 a1) k j ∧ smK rdg (rd_L1 l0 a1) k j ≤ 3 := smK_bd rdg hb _ k j hj
          obtain ⟨hs1, hs2⟩ := hsb
          obtain ⟨hd1, hd2⟩ := hbd
          have HS := Lib.hid (smK_succ rdg (rd_L1 l0 a1) k j (by omega))
          go_wp2_with fail
          go_round
          case rel => refine ⟨trivial, ?_⟩; (repeat apply Exists.intro); exact ⟨⟨j + 1, by omega, by go_num, by rw [HS.out]⟩, rfl⟩
          case measure => simp [intOf]; omega
        · have hj3 : j = 3 := by omega
          have HJ := Lib.hid hj3
          have hsb : 0 ≤ smK rdg (rd_L1 l0 a1) k j ∧ smK rdg (rd_L1 l0 a1) k j ≤ 3 := smK_bd rdg hb _ k j hj
          obtain ⟨hs1, hs2⟩ := hsb
          have HV := Lib.hid (lvl_step rdg (rd_L1 l0 a1) k (by omega))
          clear hj3
          by_cases ht : 2 * smK rdg (rd_L1 l0 a1) k j ≤ 3
          · have hres : lvl rdg (rd_L1 l0 a1) = k := by
              rw [HL.out, HV.out, ← HJ.out, if_pos ht]; omega
            have HRES := Lib.hid hres
            clear hres
            go_wp2_with fail
            go_ret
            exact ⟨by rw [HRES.out]; rfl, HB.out⟩
          · have hres : lvl rdg (rd_L1 l0 a1) = (k + 1 : Nat) + lvl rdg ((rd_L1 l0 a1).drop (3 * (k + 1))) := by
              rw [HL.out, HV.out, ← HJ.out, if_neg ht]; omega
            have HRES := Lib.hid hres
            clear hres
            go_wp2_with fail
            go_round
            case rel => exact ⟨k + 1, by omega, by go_num, HRES.out⟩
            case measure => simp [intOf]; omega
    · have hke : k = (rd_L1 l0 a1).length / 3 := by omega
      have hz : lvl rdg (rd_L1 l0 a1) = (rd_L1 l0 a1).length / 3 := by
        rw [HL.out, lvl_short rdg _ (by rw [List.length_drop]; omega)]; omega
      have HZ := Lib.hid hz
      clear hz hke
      go_wp2_with fail
      go_ret
      exact ⟨by rw [HZ.out]; rfl, HB.out⟩

theorem level_no (g : Nat) (A0 : Option Addr) (c0 : Nat) (l0 : List (List Int)) (a1 : Int) (w : World) (h : a1 < 0 ∨ a1 ≥ (l0.length : Int)) :
    Calls Try.prog 36 #[.agg #[.slice A0 l0.length c0], .int .i64 a1, .func (.func g) #[] #[]] w fun e w' => e = .returned (.int .i64 (-1)) ∧ Below w.heap.size w w' := by
  go_enter Try.func36, Try.ntmps36
  go_wp2_with fail
  refine (width_no _ _ l0 a1 _ h).mono ?_
  rintro e W1 ⟨rfl, hB1⟩
  have hB : Below w.heap.size w W1 := ((Below.refl w.heap.size w).alloc (Nat.le_refl _) _).trans (hB1.mono (by simp))
  have HB := Lib.hid hB
  clear hB hB1
  go_wp2_with fail
  go_loop [16] (fun i => i = .int .i64 0) (fun i => 0)
  case atStart => rfl
  case round =>
    subst hrel
    go_wp2_with fail
    go_ret
    exact ⟨rfl, HB.out⟩
theorem enters_37 (x : Value) (W : World) : Sem.run Try.prog (callFunc 37 #[x]) W = .ok (.enter 37 #[x]) W := by
  simp [callFunc, Try.func37, mark, Try.f37, go_sem]
theorem enters_39 (x : Value) (W : World) : Sem.run Try.prog (callFunc 39 #[x]) W = .ok (.enter 39 #[x]) W := by
  simp [callFunc, Try.func39, mark, Try.f39, go_sem]
theorem level_any (g : Nat) (rdg : Int → Int) (he : ∀ (x : Value) (W : World), Sem.run Try.prog (callFunc g #[x]) W = .ok (.enter g #[x]) W) (hg : ∀ c W, Calls Try.prog g #[.int .u8 c] W fun e W' => e = .returned (.int .i64 (rdg c)) ∧ W = W') (hb : ∀ c, 0 ≤ rdg c ∧ rdg c ≤ 1)
    (A0 : Option Addr) (c0 : Nat) (l0 : List (List Int)) (a1 r : Int) (w : World) (hr : Kd.C (Kd.slice 5 (Kd.int .u8)) w A0 l0.length l0) (h : levelF rdg l0 a1 = some r) :
    Calls Try.prog 36 #[.agg #[.slice A0 l0.length c0], .int .i64 a1, .func (.func g) #[] #[]] w fun e w' => e = .returned (.int .i64 r) ∧ Below w.heap.size w w' := by
  unfold levelF at h
  by_cases h0 : a1 < 0
  · rw [if_pos h0] at h
    cases h
    exact level_no g A0 c0 l0 a1 w (.inl h0)
  · rw [if_neg h0] at h
    by_cases h1 : a1 ≥ (l0.length : Int)
    · rw [if_pos h1] at h
      cases h
      exact level_no g A0 c0 l0 a1 w (.inr h1)
    · rw [if_neg h1] at h
      by_cases h2 : (rd_L1 l0 a1).length ≤ 4611686018427387904
      · rw [if_pos h2] at h
        cases h
        obtain ⟨n, rfl⟩ := Int.eq_ofNat_of_zero_le (show 0 ≤ a1 by omega)
        exact level_ok g rdg he hg hb A0 c0 l0 n w (by omega) hr h2
      · rw [if_neg h2] at h
        cases h
def fuse_Least.f (l0_0 : List (List Int)) (a1 : Int) : Option Int := levelF (fun c => readV c false) l0_0 a1
def fuse_Most.f (l0_0 : List (List Int)) (a1 : Int) : Option Int := levelF (fun c => readV c true) l0_0 a1
theorem fuse_Least.calls (A0_0 : Option Addr) (c0_0 : Nat) (l0_0 : List (List Int)) (a1 : Int) (r : Int) (w : World) (hr0_0 : Kd.C (Kd.slice 5 (Kd.int .u8)) w A0_0 l0_0.length l0_0) (hc0_0 : l0_0.length ≤ c0_0) (h : fuse_Least.f l0_0 a1 = some r) :
    Calls Try.prog 20 #[.agg #[.slice A0_0 l0_0.length c0_0], .int .i64 a1] w fun e w' => e = .returned (.int .i64 r) ∧ Below w.heap.size w w' := by
  have HR := Lib.hid (Kd.C_below hr0_0 ((Below.refl w.heap.size w).alloc (Nat.le_refl _) (.cells #[.slice A0_0 l0_0.length c0_0] 24)))
  have H := Lib.hid h
  clear hr0_0 h
  go_enter Try.func20, Try.ntmps20
  go_wp2_with fail
  refine (level_any 37 _ enters_37 least1_any (fun c => readV_bd c false) A0_0 c0_0 l0_0 a1 r _ HR.out H.out).mono ?_
  rintro e W1 ⟨rfl, hB1⟩
  have HB := Lib.hid (((Below.refl w.heap.size w).alloc (Nat.le_refl _) (.cells #[.slice A0_0 l0_0.length c0_0] 24)).trans (hB1.mono (by simp)))
  clear hB1
  go_wp2_with fail
  go_ret
  exact ⟨rfl, HB.out⟩
theorem fuse_Most.calls (A0_0 : Option Addr) (c0_0 : Nat) (l0_0 : List (List Int)) (a1 : Int) (r : Int) (w : World) (hr0_0 : Kd.C (Kd.slice 5 (Kd.int .u8)) w A0_0 l0_0.length l0_0) (hc0_0 : l0_0.length ≤ c0_0) (h : fuse_Most.f l0_0 a1 = some r) :
    Calls Try.prog 22 #[.agg #[.slice A0_0 l0_0.length c0_0], .int .i64 a1] w fun e w' => e = .returned (.int .i64 r) ∧ Below w.heap.size w w' := by
  have HR := Lib.hid (Kd.C_below hr0_0 ((Below.refl w.heap.size w).alloc (Nat.le_refl _) (.cells #[.slice A0_0 l0_0.length c0_0] 24)))
  have H := Lib.hid h
  clear hr0_0 h
  go_enter Try.func22, Try.ntmps22
  go_wp2_with fail
  refine (level_any 39 _ enters_39 most1_any (fun c => readV_bd c true) A0_0 c0_0 l0_0 a1 r _ HR.out H.out).mono ?_
  rintro e W1 ⟨rfl, hB1⟩
  have HB := Lib.hid (((Below.refl w.heap.size w).alloc (Nat.le_refl _) (.cells #[.slice A0_0 l0_0.length c0_0] 24)).trans (hB1.mono (by simp)))
  clear hB1
  go_wp2_with fail
  go_ret
  exact ⟨rfl, HB.out⟩
end Go.Proofs.Ytnobomefhpkicaa.P
