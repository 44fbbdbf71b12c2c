/- Some small texts of the machine's walk, in one. -/
import Derived.Test.YtbgfkepnlpgagaaDoorV11
section
namespace Go.Proofs.YtbgfkepnlpgagaaDoor.P
open Go.RowKit Go.Proofs.YtbgfkepnlpgagaaDoorW.PrintWords Go.Proofs.YtbgfkepnlpgagaaDoorW.PrintLast Go.Proofs.YtbgfkepnlpgagaaDoorW.PrintMore
attribute [local go_sem] max2_int min2_int max_two min_two max_three min_three max_four min_four
set_option linter.unusedVariables false
set_option linter.unusedSimpArgs false

theorem step_any {W : World} {base g : Nat} {c : Co} {s : St} {q : Vs} (h : Mach W base g c s q) (h0 : 0 < base) (h400 : s.stack.length ≤ 400) (hnt : s.notes.length ≤ 4000) (f : Nat → Int × Int × Int) (hI : InsAt W c f)
    (hT : ∀ k : Nat, 1 ≤ k → k < 18 → W.cell? ⟨0, k, none⟩ = some (.func (.func (tabFn k)) #[] #[])) (gl : List Int) (hgl : c.gL = gl.length) (hgl2 : gl.length ≤ 4611686018427387904)
    (hGL : ∀ W', Below base W W' → (Kd.int .i64).C W' c.gA c.gL gl) (hp : (s.pts.length : Int) = c.cP) :
    Calls Tryd.prog 18 #[.pointer (some ⟨g, 0, none⟩)] W (Left_ base g c W (stepP f c.cL gl c.cP s)) := by
  unfold stepP
  by_cases hs : s.steps < 3000
  · rw [if_pos hs]
    by_cases hpc : 0 ≤ s.pc ∧ s.pc < (c.cL : Int)
    · rw [if_pos hpc]
      obtain ⟨n, hn⟩ := Int.eq_ofNat_of_zero_le hpc.1
      have e : s.pc.toNat = n := by omega
      rw [e]
      exact step_go h h0 h400 hnt hs n hn (by omega) f hI (f n).1 (f n).2.1 (f n).2.2 rfl hT gl hgl hgl2 hGL hp _ rfl
    · rw [if_neg hpc]
      refine (step_pc h hs hpc).mono ?_
      rintro e w' ⟨rfl, hb⟩
      exact ⟨rfl, hb⟩
  · rw [if_neg hs]
    refine (step_fuel h hs).mono ?_
    rintro e w' ⟨rfl, rfl⟩
    exact ⟨rfl, Below.refl _ _⟩
def oddP (x : Int) : Bool := decide (x < 0) || decide (65536 ≤ x)
theorem odd_any (x : Int) (w : World) : Calls Tryd.prog 20 #[.int .i64 x] w fun e w' => e = .returned (.bool (oddP x)) ∧ w = w' := by
  by_cases h : x < 0
  · have hb : oddP x = true := by simp [oddP, h]
    have HB := Lib.hid hb
    have hd : decide (x < 0) = true := decide_eq_true h
    clear hb
    go_enter Tryd.func20, Tryd.ntmps20
    go_wp2
    rw [HB.out]
    go_ret
    exact ⟨rfl, rfl⟩
  · by_cases h2 : 65536 ≤ x
    · have hb : oddP x = true := by simp [oddP, h2]
      have HB := Lib.hid hb
      have hd : decide (x < 0) = false := decide_eq_false h
      have hd2 : decide (65536 ≤ x) = true := decide_eq_true h2
      clear hb
      go_enter Tryd.func20, Tryd.ntmps20
      go_wp2
      rw [HB.out]
      go_ret
      exact ⟨rfl, rfl⟩
    · have hb : oddP x = false := by simp [oddP, h2]; omega
      have HB := Lib.hid hb
      have hd : decide (x < 0) = false := decide_eq_false h
      have hd2 : decide (65536 ≤ x) = false := decide_eq_false h2
      clear hb
      go_enter Tryd.func20, Tryd.ntmps20
      go_wp2
      rw [HB.out]
      go_ret
      exact ⟨rfl, rfl⟩
theorem indexF_any (A : Option Addr) (n c : Nat) (l : List Int) (w : World) (hn : n = l.length) (hl : l.length ≤ 4611686018427387904) (hr : (Kd.int .i64).C w A n l) :
    Calls Tryd.prog 29 #[.slice A n c, .func (.func 20) #[] #[]] w fun e w' => ∃ i : Int, (decide (0 ≤ i) = l.any oddP) ∧ e = .returned (.int .i64 i) ∧ w = w' := by
  subst hn
  have HR := Lib.hid hr
  clear hr
  go_enter Tryd.func29, Tryd.ntmps29
  go_wp2_with fail
  go_loop [8] (fun i => ∃ k : Nat, k ≤ l.length ∧ i = .int .i64 k ∧ l.any oddP = (l.drop k).any oddP) (fun i => l.length - (intOf i).toNat)
  case atStart => exact ⟨0, Nat.zero_le _, rfl, by simp⟩
  case round =>
    obtain ⟨k, hk, rfl, hany⟩ := hrel
    have HA := Lib.hid hany
    clear hany
    by_cases hlt : k < l.length
    · obtain ⟨ad, rfl, hx⟩ := Kd.at_int HR.out k (by omega) (by omega)
      rw [Int.toNat_natCast] at hx
      cases hb : oddP (rd l k)
      · have hany : l.any oddP = (l.drop (k + 1)).any oddP := by rw [HA.out, any_drop _ _ _ hlt, hb]; rfl
        have HA2 := Lib.hid hany
        have HB := Lib.hid hb
        clear hany hb
        go_wp2_with fail
        refine (odd_any _ _).mono ?_
        rintro e w' ⟨rfl, rfl⟩
        rw [HB.out]
        go_wp2_with fail
        go_round
        case rel => exact ⟨k + 1, by omega, by go_num, HA2.out⟩
        case measure => simp [intOf]; omega
      · have hany : decide ((0 : Int) ≤ (k : Int)) = l.any oddP := by rw [HA.out, any_drop _ _ _ hlt, hb]; simp
        have HA2 := Lib.hid hany
        have HB := Lib.hid hb
        clear hany hb
        go_wp2_with fail
        refine (odd_any _ _).mono ?_
        rintro e w' ⟨rfl, rfl⟩
        rw [HB.out]
        go_wp2_with fail
        go_ret
        exact ⟨k, HA2.out, rfl, rfl⟩
    · have hz : decide ((0 : Int) ≤ (-1 : Int)) = l.any oddP := by rw [HA.out, List.drop_of_length_le (by omega)]; rfl
      have HZ := Lib.hid hz
      clear hz
      go_wp2_with fail
      go_ret
      exact ⟨-1, HZ.out, rfl, rfl⟩
theorem containsF_any (A : Option Addr) (c : Nat) (l : List Int) (w : World) (hl : l.length ≤ 4611686018427387904) (hr : (Kd.int .i64).C w A l.length l) :
    Calls Tryd.prog 21 #[.slice A l.length c, .func (.func 20) #[] #[]] w fun e w' => e = .returned (.bool (l.any oddP)) ∧ w = w' := by
  have HR := Lib.hid hr
  clear hr
  go_enter Tryd.func21, Tryd.ntmps21
  go_wp2_with fail
  refine (indexF_any A _ c l w rfl hl HR.out).mono ?_
  rintro e w' ⟨i, hi, rfl, rfl⟩
  have HI := Lib.hid hi
  clear hi
  go_wp2_with fail
  rw [HI.out]
  go_ret
  exact ⟨rfl, rfl⟩
def validP (V P : Int) (l : List Int) : Bool := decide (0 ≤ P) && (decide (P ≤ 8) && (decide ((l.length : Int) ≤ V) && (decide (V ≤ 400) && !l.any oddP)))
theorem valid_any (cs : Value) (V P : Int) (A : Option Addr) (c : Nat) (l : List Int) (w : World) (hl : l.length ≤ 4611686018427387904) (hr : ∀ w', Below w.heap.size w w' → (Kd.int .i64).C w' A l.length l) :
    Calls Tryd.prog 16 #[.agg #[cs, .int .i64 V, .int .i64 P], .slice A l.length c] w fun e w' => e = .returned (.bool (validP V P l)) ∧ Below w.heap.size w w' := by
  have HR := Lib.hid hr
  have HB := Lib.hid ((Below.refl w.heap.size w).alloc (Nat.le_refl _) (.cells #[cs, .int .i64 V, .int .i64 P] 24))
  clear hr
  by_cases h1 : 0 ≤ P
  · have d1 : decide (0 ≤ P) = true := decide_eq_true h1
    by_cases h2 : P ≤ 8
    · have d2 : decide (P ≤ 8) = true := decide_eq_true h2
      by_cases h3 : (l.length : Int) ≤ V
      · have d3 : decide ((l.length : Int) ≤ V) = true := decide_eq_true h3
        by_cases h4 : V ≤ 400
        · have d4 : decide (V ≤ 400) = true := decide_eq_true h4
          have hb : validP V P l = !l.any oddP := by unfold validP; rw [d1, d2, d3, d4]; rfl
          have HV := Lib.hid hb
          clear hb
          go_enter Tryd.func16, Tryd.ntmps16
          go_wp2_with (go_at_call 21; refine (containsF_any A c l _ hl (HR.out _ HB.out)).mono ?_; rintro e w' ⟨rfl, rfl⟩)
          go_ret
          exact ⟨by rw [HV.out]; rfl, HB.out⟩
        · have d4 : decide (V ≤ 400) = false := decide_eq_false h4
          have hb : validP V P l = false := by unfold validP; rw [d4]; simp
          have HV := Lib.hid hb
          clear hb
          go_enter Tryd.func16, Tryd.ntmps16
          go_wp2_with fail
          go_ret
          exact ⟨by rw [HV.out]; rfl, HB.out⟩
      · have d3 : decide ((l.length : Int) ≤ V) = false := decide_eq_false h3
        have hb : validP V P l = false := by unfold validP; rw [d3]; simp
        have HV := Lib.hid hb
        clear hb
        go_enter Tryd.func16, Tryd.ntmps16
        go_wp2_with fail
        go_ret
        exact ⟨by rw [HV.out]; rfl, HB.out⟩
    · have d2 : decide (P ≤ 8) = false := decide_eq_false h2
      have hb : validP V P l = false := by unfold validP; rw [d2]; simp
      have HV := Lib.hid hb
      clear hb
      go_enter Tryd.func16, Tryd.ntmps16
      go_wp2_with fail
      go_ret
      exact ⟨by rw [HV.out]; rfl, HB.out⟩
  · have d1 : decide (0 ≤ P) = false := decide_eq_false h1
    have hb : validP V P l = false := by unfold validP; rw [d1]; simp
    have HV := Lib.hid hb
    clear hb
    go_enter Tryd.func16, Tryd.ntmps16
    go_wp2_with fail
    go_ret
    exact ⟨by rw [HV.out]; rfl, HB.out⟩
end Go.Proofs.YtbgfkepnlpgagaaDoor.P
end
section
namespace Go.Proofs.YtbgfkepnlpgagaaDoor.P
open Go.RowKit Go.Proofs.YtbgfkepnlpgagaaDoorW.PrintWords Go.Proofs.YtbgfkepnlpgagaaDoorW.PrintLast Go.Proofs.YtbgfkepnlpgagaaDoorW.PrintMore
attribute [local go_sem] max2_int min2_int max_two min_two max_three min_three max_four min_four
set_option linter.unusedVariables false
set_option linter.unusedSimpArgs false
def catch17.T2 : Bool × List (List Nat × List Nat) := (true, [([], []), ([], []), ([1], [1]), ([0, 0], [0]), ([2, 3, 0, 1, 2, 3], [2])])
def catch17.B2 : List Nat := [0, 0, 2, 1, 15]
theorem catch17.tab2 : rtab .any (opsOf Tryd.f17 2) = catch17.T2 := by kernel_rfl
theorem catch17.bits2 : waitsOk catch17.T2.2 catch17.B2 = true := by kernel_rfl
@[local go_sem] theorem as_yes (v : Value) (w : World) : (Instr.typeAssert (.iface 49 v) 20 49 true).run Tryd.prog w = .ok (.tuple #[v, .bool true]) w := by kernel_rfl
@[local go_sem] theorem as_nil (w : World) : (Instr.typeAssert .nilIface 20 49 true).run Tryd.prog w = .ok (.tuple #[.agg #[.int .i64 0], .bool false]) w := by kernel_rfl
/-- What the deferred function leaves behind a panic. -/
def Caught (o er : Nat) (code : Int) (w : World) (e : Ending) (u' : FrameMode) (w' : World) : Prop :=
  e = .returned (.tuple #[]) ∧ u' = .panicking [{ v := .iface 49 (.agg #[.int .i64 code]), recovered := true }] ∧ w'.heap[o]? = some (.cells #[.slice none 0 0, .slice none 0 0, .int .i64 0, .int .i64 0] 29 (0, 0)) ∧ w'.heap[er]? = some (.cells #[.int .i64 code] 30 (0, 0)) ∧
    ∀ base, base ≤ o → base ≤ er → base ≤ w.heap.size → Below base w w'
theorem drew_heap {w : World} {k : Nat} {o : Obj} (h : w.heap[k]? = some o) : w.drew.heap[k]? = some o := h
theorem wp_norm {P : Program} {c : Code} {Q : Exit → Act → World → Prop} {a a' : Act} {w : World} (ha : a = a') (h : c.wp P Q a' w) : c.wp P Q a w := by rw [ha]; exact h
set_option maxRecDepth 100000 in
set_option maxHeartbeats 400000 in
theorem caught (o er : Nat) (v0 v1 v2 v3 v4 : Value) (code : Int) (w : World) (ho : w.heap[o]? = some (.cells #[v0, v1, v2, v3] 29 (0, 0))) (he : w.heap[er]? = some (.cells #[v4] 30 (0, 0))) (hne : o ≠ er) :
    CallsD Tryd.prog 17 #[.pointer (some ⟨o, 0, none⟩), .pointer (some ⟨er, 0, none⟩)] (.panicking (fail code)) w (Caught o er code w) := by
  unfold fail
  refine callsD_of_wpS Tryd.func17 rfl fun c₀ cs hu => ?_
  apply wpS_seq
  apply wpS_region
  simp [wpOpsS, go_sem, recoverD, hu, Tryd.ntmps17, Exit.thenS]
  refine wpS_of_wp ?_
  have d0 : (w.alloc (.cells #[.int .i64 code] 49)).cell? ⟨w.heap.size, 0, none⟩ = some (.int .i64 code) := (blk_cell (heap_alloc_new w _) 0).trans rfl
  have ho1 : (w.alloc (.cells #[.int .i64 code] 49)).heap[o]? = some (.cells #[v0, v1, v2, v3] 29 (0, 0)) := (Below.heap_alloc w _ o (blk_lt ho)).trans ho
  have he1 : (w.alloc (.cells #[.int .i64 code] 49)).heap[er]? = some (.cells #[v4] 30 (0, 0)) := (Below.heap_alloc w _ er (blk_lt he)).trans he
  have hB : Hid (∀ base, base ≤ w.heap.size → Below base w (w.alloc (.cells #[.int .i64 code] 49))) := Lib.hid (fun base h => (Below.refl base w).alloc h _)
  have hne2 : w.heap.size ≠ o := fun e => absurd (blk_lt ho) (by omega)
  have hne3 : w.heap.size ≠ er := fun e => absurd (blk_lt he) (by omega)
  refine wp_norm (a' := { tmps := #[.pointer (some ⟨o, 0, none⟩), .pointer (some ⟨er, 0, none⟩), .pointer (some ⟨w.heap.size, 0, none⟩), .bool true, .tuple #[.agg #[.int .i64 code], .bool true], .iface 49 (.agg #[.int .i64 code]), .tuple #[.agg #[.int .i64 code], .bool true], .agg #[.int .i64 code], .bool true, undef, undef, undef, undef], defers := [] }) (by simp [Array.replicate]) ?_
  have HOb := Lib.hid ho1
  have HEb := Lib.hid he1
  have c0 : (w.alloc (.cells #[.int .i64 code] 49)).cell? ⟨o, 0, none⟩ = some v0 := (blk_cell ho1 0).trans rfl
  have c1 : (w.alloc (.cells #[.int .i64 code] 49)).cell? ⟨o, 1, none⟩ = some v1 := (blk_cell ho1 1).trans rfl
  have c2 : (w.alloc (.cells #[.int .i64 code] 49)).cell? ⟨o, 2, none⟩ = some v2 := (blk_cell ho1 2).trans rfl
  have c3 : (w.alloc (.cells #[.int .i64 code] 49)).cell? ⟨o, 3, none⟩ = some v3 := (blk_cell ho1 3).trans rfl
  have c4 : (w.alloc (.cells #[.int .i64 code] 49)).cell? ⟨er, 0, none⟩ = some v4 := (blk_cell he1 0).trans rfl
  have hne4 : er ≠ o := fun e => hne e.symm
  have z0 := blk_frozen ho1 0
  have z1 := blk_frozen ho1 1
  have z2 := blk_frozen ho1 2
  have z3 := blk_frozen ho1 3
  have z4 := blk_frozen he1 0
  clear ho he ho1 he1
  generalize w.heap.size = b2 at d0 hne2 hne3 ⊢
  generalize w.alloc (.cells #[.int .i64 code] 49) = w1 at d0 HOb HEb hB z0 z1 z2 z3 z4 c0 c1 c2 c3 c4 ⊢
  go_upto_region 2 with fail
  refine start_ (n := 5) (S := fun w' => w'.cell? ⟨b2, 0, none⟩ = some (.int .i64 code)) (ds := [4]) #[false, false, false, false, false] (by kernel_rfl) rfl rfl ((World.cell?_drew _ _).trans d0) (fun hHeld => ?_)
  refine with_tabW catch17.tab2 catch17.bits2 (fun HT_ HW_ => ?_)
  refine pure_ (i := 0) (N := some 10) (v := ?_) (a' := ?_) #[true, false, false, false, false] rfl rfl (any_of HT_.out (by kernel_rfl)) (fun _ _ _ h => h) (Or.inl ⟨by rfl, ?_⟩) ?_ ?_
  rotate_left
  · intro w'
    go_simp
    first | done | (with_reducible rfl)
  rotate_left
  · simp only [Act.put, List.setIfInBounds_toArray, List.set_cons_zero, List.set_cons_succ, i64_w, i32_w]
    rfl
  refine pure_ (i := 1) (N := some 11) (v := ?_) (a' := ?_) #[true, true, false, false, false] rfl rfl (any_of HT_.out (by kernel_rfl)) (fun _ _ _ h => h) (Or.inl ⟨by rfl, ?_⟩) ?_ ?_
  rotate_left
  · intro w'
    go_simp
    first | done | (with_reducible rfl)
  rotate_left
  · simp only [Act.put, List.setIfInBounds_toArray, List.set_cons_zero, List.set_cons_succ, i64_w, i32_w]
    rfl
  refine take_ (i := 2) (N := some 12) (v := ?_) (a' := ?_) #[true, true, true, false, false] rfl rfl (take_ofW HT_.out HW_.out (by kernel_rfl)) (fun _ _ _ h => h) (Or.inl ⟨by rfl, ?_⟩) hHeld ?_ ?_
  rotate_left
  · rintro w' s0
    go_simp
    first | done | (with_reducible rfl)
  rotate_left
  · simp only [Act.put, List.setIfInBounds_toArray, List.set_cons_zero, List.set_cons_succ, i64_w, i32_w]
    rfl
  refine one_ (i := 3) (N := none) #[true, true, true, true, false] rfl rfl (one_of HT_.out (by kernel_rfl)) (by decide) (fun K hK => ?_)
  refine skip_ (w1 := ?_) (by rfl) rfl ?_ ?_
  rotate_left
  · go_simp
    rfl
  refine hK.out _ _ ((World.cell?_setCell_other _ _ _ _ (fun e => hne2 (by injection e with e1; exact e1.symm))).trans ((World.cell?_setCell_other _ _ _ _ (fun e => hne2 (by injection e with e1; exact e1.symm))).trans ((World.cell?_setCell_other _ _ _ _ (fun e => hne2 (by injection e with e1; exact e1.symm))).trans ((World.cell?_setCell_other _ _ _ _ (fun e => hne2 (by injection e with e1; exact e1.symm))).trans ((World.cell?_drew _ _).trans d0))))) (fun hHeld => ?_)
  clear hK K
  refine last_ (i := 4) (N := none) #[true, true, true, true, true] rfl rfl (one_of HT_.out (by kernel_rfl)) (by decide) (fun K hK => ?_)
  refine skip_ (w1 := ?_) (by rfl) rfl ?_ ?_
  rotate_left
  · go_simp
    rfl
  refine hK.out _ _ ?_
  clear hK K
  refine done_ (done_of HT_.out (by kernel_rfl)) ?_
  clear hHeld
  go_wp2_with fail
  refine ⟨rfl, _, rfl, .tuple #[], results_none rfl _ _ _, rfl, rfl, ?_, ?_, ?_⟩
  · have h1 := blk_put HOb.out 0 (.slice none 0 0) rfl
    have h2 := blk_put h1 1 (.slice none 0 0) rfl
    have h3 := blk_put h2 2 (.int .i64 0) rfl
    have h4 := blk_put h3 3 (.int .i64 0) rfl
    exact drew_heap (blk_far h4 (p := ⟨er, 0, none⟩) hne _)
  · have h1 := blk_far HEb.out (p := ⟨o, 0, none⟩) hne4 (.slice none 0 0)
    have h2 := blk_far h1 (p := ⟨o, 1, none⟩) hne4 (.slice none 0 0)
    have h3 := blk_far h2 (p := ⟨o, 2, none⟩) hne4 (.int .i64 0)
    have h4 := blk_far h3 (p := ⟨o, 3, none⟩) hne4 (.int .i64 0)
    exact drew_heap (blk_put h4 0 _ rfl)
  · intro base k1 k2 k3
    exact ((((((hB.out base k3).setCell (p := ⟨o, 0, none⟩) k1 _).setCell (p := ⟨o, 1, none⟩) k1 _).setCell (p := ⟨o, 2, none⟩) k1 _).setCell (p := ⟨o, 3, none⟩) k1 _).setCell (p := ⟨er, 0, none⟩) k2 _).drew
set_option maxRecDepth 100000 in
set_option maxHeartbeats 400000 in
theorem idle (o er : Nat) (w : World) :
    CallsD Tryd.prog 17 #[.pointer (some ⟨o, 0, none⟩), .pointer (some ⟨er, 0, none⟩)] .returning w fun e u' w' => e = .returned (.tuple #[]) ∧ u' = .returning ∧ w' = w.alloc (.cells #[.int .i64 0] 49) := by
  refine callsD_of_wpS Tryd.func17 rfl fun c₀ cs hu => ?_
  apply wpS_seq
  apply wpS_region
  simp [wpOpsS, go_sem, recoverD, hu, Tryd.ntmps17, Exit.thenS]
  refine wpS_of_wp ?_
  refine wp_norm (a' := { tmps := #[.pointer (some ⟨o, 0, none⟩), .pointer (some ⟨er, 0, none⟩), .pointer (some ⟨w.heap.size, 0, none⟩), .bool false, .tuple #[.agg #[.int .i64 0], .bool false], .nilIface, .tuple #[.agg #[.int .i64 0], .bool false], .agg #[.int .i64 0], .bool false, undef, undef, undef, undef], defers := [] }) (by simp [Array.replicate]) ?_
  go_wp2_with fail
  refine ⟨rfl, .returning, ?_, .tuple #[], results_none rfl _ _ _, rfl, rfl, rfl⟩
  cases c₀
  simp_all
end Go.Proofs.YtbgfkepnlpgagaaDoor.P
end
