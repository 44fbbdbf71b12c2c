/- The vm's instructions with two operands; loop; note. -/
import Derived.Test.YtbgfkepnlpgagaaDoorVA
namespace Go.Proofs.YtbgfkepnlpgagaaDoor.P
open Go.RowKit Go.Proofs.YtbgfkepnlpgagaaDoorW.PrintWords Go.Proofs.YtbgfkepnlpgagaaDoorW.PrintLast Go.Proofs.YtbgfkepnlpgagaaDoorW.PrintMore
attribute [local go_sem] max2_int min2_int max_two min_two max_three min_three max_four min_four
set_option linter.unusedVariables false
set_option linter.unusedSimpArgs false

theorem Mach.varAt {W : World} {base g : Nat} {c : Co} {s : St} {q : Vs} (h : Mach W base g c s q) {b cap n : Nat} (hq : q.v = .slice (some ⟨b, 0, none⟩) n cap) (j : Nat) (hj : j < s.vars.length) : W.cell? ⟨b, j, none⟩ = some (.int .i64 s.vars[j]) ∧ W.frozen? ⟨b, j, none⟩ = false := by
  obtain ⟨b2, cap2, hq2, _, h1, h2, _⟩ := h.var j hj
  have e := hq2.symm.trans hq
  injection e with e _ _
  injection e with e
  injection e with e _ _
  subst e
  exact ⟨h1, h2⟩
def loopP (s : St) (a b : Int) : Except Int St :=
  if 0 ≤ a ∧ a < (s.vars.length : Int) then
    (if wrap64 (s.vars.getD a.toNat 0 - 1) ≤ 0 then .ok { s with vars := s.vars.set a.toNat 0 } else .ok { s with vars := s.vars.set a.toNat (wrap64 (s.vars.getD a.toNat 0 - 1)), pc := b })
  else .error 21
set_option maxRecDepth 100000 in
theorem loop_any {W : World} {base g : Nat} {c : Co} {s : St} {q : Vs} (h : Mach W base g c s q) (op a b : Int) :
    Calls Tryd.prog 55 #[.pointer (some ⟨g, 0, none⟩), insV op a b] W (Left_ base g c W (loopP s a b)) := by
  unfold loopP
  have hb := h.base_le
  have HB := Lib.hid ((Below.refl base W).alloc hb (.cells #[.int .i64 op, .int .i64 a, .int .i64 b] 42))
  have ha1 := h.alloc (.cells #[.int .i64 op, .int .i64 a, .int .i64 b] 42)
  by_cases ha : 0 ≤ a ∧ a < (s.vars.length : Int)
  · rw [if_pos ha]
    obtain ⟨j, rfl⟩ := Int.eq_ofNat_of_zero_le ha.1
    have hj : j < s.vars.length := by omega
    obtain ⟨b1, cap, hq, hcap, hx, hz, hlow⟩ := ha1.var j hj
    rw [Int.toNat_natCast, List.getD_eq_getElem?_getD, List.getElem?_eq_getElem hj, Option.getD_some]
    obtain ⟨x, hxe⟩ : ∃ x, s.vars[j] = x := ⟨_, rfl⟩
    obtain ⟨y, hye⟩ : ∃ y, wrap64 (x - 1) = y := ⟨_, rfl⟩
    rw [hxe, hye]
    rw [hxe] at hx
    have hgW := blk_lt h.blk
    have hbW : b1 < W.heap.size := by
      obtain ⟨cells, hc⟩ := own_typed h.rv b1 (by rw [hq]; rfl)
      exact blk_lt hc
    have k4 := ha1.cell 4 rfl
    have hz4 := ha1.fz 4
    have hne : b1 ≠ g := own_ne h.blk (by decide) h.rv b1 (by rw [hq]; rfl)
    have hne2 : g ≠ b1 := fun e => hne e.symm
    have hlg := h.low
    have HM := Lib.hid ha1
    have HM0 := Lib.hid h
    have HQ1 := Lib.hid hq
    have HY := Lib.hid hye
    clear h ha1 hq hye
    by_cases h0 : y ≤ 0
    · rw [if_pos h0]
      have HMX := Lib.hid (show (if y < 0 then 0 else y) = 0 by split <;> omega)
      go_enter Tryd.func55, Tryd.ntmps55
      go_upto_region 3 with (first
        | (go_at_call 58; refine (variable_ok HM.out j b1 cap hj HQ1.out).mono ?_; rintro e w' ⟨rfl, rfl⟩))
      rw [HY.out, HMX.out]
      have hM3 := (HM0.out.putVar HQ1.out j 0).alloc (.cells #[.int .i64 op, .int .i64 j, .int .i64 b] 42)
      have hB3 : Below base W ((W.setCell ⟨b1, j, none⟩ (.int .i64 0)).alloc (.cells #[.int .i64 op, .int .i64 j, .int .i64 b] 42)) := ((Below.refl base W).setCell (p := ⟨b1, j, none⟩) hlow _).alloc (by simp; exact hb) _
      have hbx := heap_alloc_new (W.setCell ⟨b1, j, none⟩ (.int .i64 0)) (.cells #[.int .i64 op, .int .i64 j, .int .i64 b] 42)
      rw [World.size_setCell] at hbx
      generalize (W.setCell ⟨b1, j, none⟩ (.int .i64 0)).alloc (.cells #[.int .i64 op, .int .i64 j, .int .i64 b] 42) = W3 at hM3 hB3 hbx ⊢
      obtain ⟨hx3, hz3⟩ := hM3.varAt HQ1.out j (by simp; exact hj)
      simp only [List.getElem_set_self] at hx3
      have hx4 : W3.cell? ⟨W.heap.size, 2, none⟩ = some (.int .i64 b) := (blk_cell hbx 2).trans rfl
      have hp4 := hM3.cell 4 rfl
      have hpz := hM3.fz 4
      have HM3 := Lib.hid hM3
      have HB3 := Lib.hid hB3
      clear hM3 hB3 hbx
      go_wp2
      go_end0
      exact ⟨rfl, _, HM3.out, HB3.out⟩
    · rw [if_neg h0]
      have HMX := Lib.hid (show (if y < 0 then 0 else y) = y by split <;> omega)
      have hdy : decide (0 < y) = true := decide_eq_true (by omega)
      go_enter Tryd.func55, Tryd.ntmps55
      go_upto_region 3 with (first
        | (go_at_call 58; refine (variable_ok HM.out j b1 cap hj HQ1.out).mono ?_; rintro e w' ⟨rfl, rfl⟩))
      rw [HY.out, HMX.out]
      have hM3 := (HM0.out.putVar HQ1.out j y).alloc (.cells #[.int .i64 op, .int .i64 j, .int .i64 b] 42)
      have hB3 : Below base W ((W.setCell ⟨b1, j, none⟩ (.int .i64 y)).alloc (.cells #[.int .i64 op, .int .i64 j, .int .i64 b] 42)) := ((Below.refl base W).setCell (p := ⟨b1, j, none⟩) hlow _).alloc (by simp; exact hb) _
      have hbx := heap_alloc_new (W.setCell ⟨b1, j, none⟩ (.int .i64 y)) (.cells #[.int .i64 op, .int .i64 j, .int .i64 b] 42)
      rw [World.size_setCell] at hbx
      generalize (W.setCell ⟨b1, j, none⟩ (.int .i64 y)).alloc (.cells #[.int .i64 op, .int .i64 j, .int .i64 b] 42) = W3 at hM3 hB3 hbx ⊢
      obtain ⟨hx3, hz3⟩ := hM3.varAt HQ1.out j (by simp; exact hj)
      simp only [List.getElem_set_self] at hx3
      have hx4 : W3.cell? ⟨W.heap.size, 2, none⟩ = some (.int .i64 b) := (blk_cell hbx 2).trans rfl
      have hp4 := hM3.cell 4 rfl
      have hpz := hM3.fz 4
      have HM3 := Lib.hid hM3
      have HB3 := Lib.hid hB3
      clear hM3 hB3 hbx
      go_wp2
      go_end0
      exact ⟨rfl, _, HM3.out.setPc b, HB3.out.setCell (p := ⟨g, 4, none⟩) hlg _⟩
  · rw [if_neg ha]
    have HM := Lib.hid ha1
    clear h ha1
    go_enter Tryd.func55, Tryd.ntmps55
    go_wp2_with (go_at_call 58; refine (variable_no HM.out a ha).mono ?_; rintro e w' ⟨rfl, rfl⟩)
    exact ⟨rfl, rfl, HB.out⟩
def binV (op a b : Int) : Int :=
  if op = 4 then wrap64 (a + b) % 65536 else if op = 5 then wrap64 (a - b) % 65536 else if op = 6 then wrap64 (a * b) % 65536 else if op = 7 then b2i (decide (a < b)) else if op = 8 then b2i (a == b) else
    if op = 9 then b2i (a != 0 && b != 0) else b2i (a != 0 || b != 0)
def binaryP (s : St) (op : Int) : Except Int St :=
  if s.stack.length ≤ 1 then .error 21 else pushP { s with stack := s.stack.dropLast.dropLast } (binV op (s.stack.dropLast.getLastD 0) (s.stack.getLastD 0))
theorem stack_split2 (xs : List Int) (h : ¬ xs.length ≤ 1) : ∃ ys a b, xs = ys ++ [a] ++ [b] := by
  rcases stack_split xs with rfl | ⟨zs, b, rfl⟩
  · simp at h
  · rcases stack_split zs with rfl | ⟨ys, a, rfl⟩
    · simp at h
    · exact ⟨ys, a, b, rfl⟩
set_option maxRecDepth 100000 in
theorem binary_few {W : World} {base g : Nat} {c : Co} {s : St} {q : Vs} (h : Mach W base g c s q) (hl : s.stack.length ≤ 1) (op a b : Int) :
    Calls Tryd.prog 49 #[.pointer (some ⟨g, 0, none⟩), insV op a b] W fun e w' => e = .panicked (fail 21) ∧ Below base W w' := by
  have hb := h.base_le
  have HB := Lib.hid ((Below.refl base W).alloc hb (.cells #[.int .i64 op, .int .i64 a, .int .i64 b] 42))
  obtain ⟨A, cap, k6⟩ := stack6 (h.alloc (.cells #[.int .i64 op, .int .i64 a, .int .i64 b] 42))
  have hd : decide (1 < (s.stack.length : Int)) = false := decide_eq_false (by omega)
  have hd2 : decide (1 < s.stack.length) = false := decide_eq_false (by omega)
  clear h
  go_enter Tryd.func49, Tryd.ntmps49
  go_wp2_with (go_at_call 22; refine (need_not _ _ _ (by first | rfl | assumption | (simp; omega))).mono ?_; rintro e w' ⟨rfl, rfl⟩)
  exact ⟨rfl, rfl, HB.out⟩
set_option maxRecDepth 100000 in
set_option maxHeartbeats 4000000 in
theorem binary_4 {W : World} {base g : Nat} {c : Co} {s : St} {q : Vs} (h : Mach W base g c s q) (h400 : s.stack.length ≤ 400) (xs : List Int) (x y : Int) (hs : s.stack = xs ++ [x] ++ [y]) (a b : Int) :
    Calls Tryd.prog 49 #[.pointer (some ⟨g, 0, none⟩), insV 4 a b] W (Left_ base g c W (pushP { s with stack := xs } (binV 4 x y))) := by
  have hb := h.base_le
  have HB := Lib.hid ((Below.refl base W).alloc hb (.cells #[.int .i64 4, .int .i64 a, .int .i64 b] 42))
  have ha := h.alloc (.cells #[.int .i64 4, .int .i64 a, .int .i64 b] 42)
  obtain ⟨A, cap, k6⟩ := stack6 ha
  have hln : s.stack.length = xs.length + 2 := by rw [hs]; simp
  rw [hln] at k6
  have hd : decide (1 < (xs.length : Int) + 2) = true := decide_eq_true (by omega)
  have hd2 : decide (1 < xs.length + 2) = true := decide_eq_true (by omega)
  have HM := Lib.hid ha
  have HS := Lib.hid hs
  have hgW := blk_lt h.blk
  have hbx := heap_alloc_new W (.cells #[.int .i64 4, .int .i64 a, .int .i64 b] 42)
  have HBX := Lib.hid hbx
  have hlow := h.low
  clear h ha hbx hs
  obtain ⟨v, hv⟩ : ∃ v, binV 4 x y = v := ⟨_, rfl⟩
  rw [hv]
  have HP := Lib.hid (show ∀ (W' : World) (q' : Vs) (z : Int), z = v → Mach W' base g c { s with stack := xs } q' → Calls Tryd.prog 56 #[.pointer (some ⟨g, 0, none⟩), .int .i64 z] W' (Left_ base g c W' (pushP { s with stack := xs } v)) from fun W' q' z hz h => by rw [← hz]; exact push_any h z)
  have HV := Lib.hid hv
  clear hv
  rcases hr : pushP { s with stack := xs } v with code | s'
  · have HQ := Lib.hid (show ∀ (W' : World) (q' : Vs) (z : Int), z = v → Mach W' base g c { s with stack := xs } q' → Calls Tryd.prog 56 #[.pointer (some ⟨g, 0, none⟩), .int .i64 z] W' (Left_ base g c W' (.error code)) from fun W' q' z hz h => by rw [← hr]; exact HP.out W' q' z hz h)
    clear HP hr
    go_enter Tryd.func49, Tryd.ntmps49
    go_upto_region 4 with (first
      | (go_at_call 22; refine (need_yes _ _ _ (by first | rfl | assumption | (simp; omega))).mono ?_; rintro e w' ⟨rfl, rfl⟩)
      | (go_at_call 59; first
          | (refine (pop_ok HM.out (xs ++ [x]) y HS.out h400).mono ?_; rintro e w2 ⟨rfl, u, hm2, hB2, hk2⟩; have HK2 := Lib.hid (hk2 W.heap.size (Nat.ne_of_gt hgW)); clear hk2; have HM2 := Lib.hid hm2; have HB2 := Lib.hid hB2; clear hm2 hB2)
          | (refine (pop_ok HM2.out xs x rfl (by simp; omega)).mono ?_; rintro e w3 ⟨rfl, u3, hm3, hB3, hk3⟩; have hop3 := (blk_cell (((hk3 W.heap.size (Nat.ne_of_gt hgW)).trans HK2.out).trans HBX.out) 0); clear hk3; have HM3 := Lib.hid hm3; have HB3 := Lib.hid (HB2.out.trans hB3); clear hm3 hB3)))
    simp only [List.getElem?_toArray, List.getElem?_cons_zero] at hop3
    unfold binV at HV
    simp only [if_true, if_false, reduceIte, Int.reduceEq] at HV
    all_goals
      go_wp2_with (first
        | (go_at_call 57; refine (wrap_any _ _).mono ?_; rintro e w' ⟨rfl, rfl⟩)
        | (go_at_call 60; refine (truth_any _ _).mono ?_; rintro e w' ⟨rfl, rfl⟩)
        | (go_at_call 56; refine (HQ.out _ _ _ ?hz HM3.out).mono ?_; (case hz => first | exact HV.out | (rw [← HV.out]; rfl) | (rw [← HV.out]; unfold b2i; simp [*])); rintro e w' ⟨rfl, hR⟩; have HR := Lib.hid hR; clear hR))
      exact ⟨rfl, rfl, (HB.out.trans HB3.out).trans HR.out⟩
  · have HQ := Lib.hid (show ∀ (W' : World) (q' : Vs) (z : Int), z = v → Mach W' base g c { s with stack := xs } q' → Calls Tryd.prog 56 #[.pointer (some ⟨g, 0, none⟩), .int .i64 z] W' (Left_ base g c W' (.ok s')) from fun W' q' z hz h => by rw [← hr]; exact HP.out W' q' z hz h)
    clear HP hr
    go_enter Tryd.func49, Tryd.ntmps49
    go_upto_region 4 with (first
      | (go_at_call 22; refine (need_yes _ _ _ (by first | rfl | assumption | (simp; omega))).mono ?_; rintro e w' ⟨rfl, rfl⟩)
      | (go_at_call 59; first
          | (refine (pop_ok HM.out (xs ++ [x]) y HS.out h400).mono ?_; rintro e w2 ⟨rfl, u, hm2, hB2, hk2⟩; have HK2 := Lib.hid (hk2 W.heap.size (Nat.ne_of_gt hgW)); clear hk2; have HM2 := Lib.hid hm2; have HB2 := Lib.hid hB2; clear hm2 hB2)
          | (refine (pop_ok HM2.out xs x rfl (by simp; omega)).mono ?_; rintro e w3 ⟨rfl, u3, hm3, hB3, hk3⟩; have hop3 := (blk_cell (((hk3 W.heap.size (Nat.ne_of_gt hgW)).trans HK2.out).trans HBX.out) 0); clear hk3; have HM3 := Lib.hid hm3; have HB3 := Lib.hid (HB2.out.trans hB3); clear hm3 hB3)))
    simp only [List.getElem?_toArray, List.getElem?_cons_zero] at hop3
    unfold binV at HV
    simp only [if_true, if_false, reduceIte, Int.reduceEq] at HV
    all_goals
      go_wp2_with (first
        | (go_at_call 57; refine (wrap_any _ _).mono ?_; rintro e w' ⟨rfl, rfl⟩)
        | (go_at_call 60; refine (truth_any _ _).mono ?_; rintro e w' ⟨rfl, rfl⟩)
        | (go_at_call 56; refine (HQ.out _ _ _ ?hz HM3.out).mono ?_; (case hz => first | exact HV.out | (rw [← HV.out]; rfl) | (rw [← HV.out]; unfold b2i; simp [*])); rintro e w' ⟨rfl, hR⟩; have HR := Lib.hid hR; clear hR))
      go_end0
      obtain ⟨q', hm, hB⟩ := HR.out
      exact ⟨rfl, q', hm, (HB.out.trans HB3.out).trans hB⟩
set_option maxRecDepth 100000 in
set_option maxHeartbeats 4000000 in
theorem binary_5 {W : World} {base g : Nat} {c : Co} {s : St} {q : Vs} (h : Mach W base g c s q) (h400 : s.stack.length ≤ 400) (xs : List Int) (x y : Int) (hs : s.stack = xs ++ [x] ++ [y]) (a b : Int) :
    Calls Tryd.prog 49 #[.pointer (some ⟨g, 0, none⟩), insV 5 a b] W (Left_ base g c W (pushP { s with stack := xs } (binV 5 x y))) := by
  have hb := h.base_le
  have HB := Lib.hid ((Below.refl base W).alloc hb (.cells #[.int .i64 5, .int .i64 a, .int .i64 b] 42))
  have ha := h.alloc (.cells #[.int .i64 5, .int .i64 a, .int .i64 b] 42)
  obtain ⟨A, cap, k6⟩ := stack6 ha
  have hln : s.stack.length = xs.length + 2 := by rw [hs]; simp
  rw [hln] at k6
  have hd : decide (1 < (xs.length : Int) + 2) = true := decide_eq_true (by omega)
  have hd2 : decide (1 < xs.length + 2) = true := decide_eq_true (by omega)
  have HM := Lib.hid ha
  have HS := Lib.hid hs
  have hgW := blk_lt h.blk
  have hbx := heap_alloc_new W (.cells #[.int .i64 5, .int .i64 a, .int .i64 b] 42)
  have HBX := Lib.hid hbx
  have hlow := h.low
  clear h ha hbx hs
  obtain ⟨v, hv⟩ : ∃ v, binV 5 x y = v := ⟨_, rfl⟩
  rw [hv]
  have HP := Lib.hid (show ∀ (W' : World) (q' : Vs) (z : Int), z = v → Mach W' base g c { s with stack := xs } q' → Calls Tryd.prog 56 #[.pointer (some ⟨g, 0, none⟩), .int .i64 z] W' (Left_ base g c W' (pushP { s with stack := xs } v)) from fun W' q' z hz h => by rw [← hz]; exact push_any h z)
  have HV := Lib.hid hv
  clear hv
  rcases hr : pushP { s with stack := xs } v with code | s'
  · have HQ := Lib.hid (show ∀ (W' : World) (q' : Vs) (z : Int), z = v → Mach W' base g c { s with stack := xs } q' → Calls Tryd.prog 56 #[.pointer (some ⟨g, 0, none⟩), .int .i64 z] W' (Left_ base g c W' (.error code)) from fun W' q' z hz h => by rw [← hr]; exact HP.out W' q' z hz h)
    clear HP hr
    go_enter Tryd.func49, Tryd.ntmps49
    go_upto_region 4 with (first
      | (go_at_call 22; refine (need_yes _ _ _ (by first | rfl | assumption | (simp; omega))).mono ?_; rintro e w' ⟨rfl, rfl⟩)
      | (go_at_call 59; first
          | (refine (pop_ok HM.out (xs ++ [x]) y HS.out h400).mono ?_; rintro e w2 ⟨rfl, u, hm2, hB2, hk2⟩; have HK2 := Lib.hid (hk2 W.heap.size (Nat.ne_of_gt hgW)); clear hk2; have HM2 := Lib.hid hm2; have HB2 := Lib.hid hB2; clear hm2 hB2)
          | (refine (pop_ok HM2.out xs x rfl (by simp; omega)).mono ?_; rintro e w3 ⟨rfl, u3, hm3, hB3, hk3⟩; have hop3 := (blk_cell (((hk3 W.heap.size (Nat.ne_of_gt hgW)).trans HK2.out).trans HBX.out) 0); clear hk3; have HM3 := Lib.hid hm3; have HB3 := Lib.hid (HB2.out.trans hB3); clear hm3 hB3)))
    simp only [List.getElem?_toArray, List.getElem?_cons_zero] at hop3
    unfold binV at HV
    simp only [if_true, if_false, reduceIte, Int.reduceEq] at HV
    all_goals
      go_wp2_with (first
        | (go_at_call 57; refine (wrap_any _ _).mono ?_; rintro e w' ⟨rfl, rfl⟩)
        | (go_at_call 60; refine (truth_any _ _).mono ?_; rintro e w' ⟨rfl, rfl⟩)
        | (go_at_call 56; refine (HQ.out _ _ _ ?hz HM3.out).mono ?_; (case hz => first | exact HV.out | (rw [← HV.out]; rfl) | (rw [← HV.out]; unfold b2i; simp [*])); rintro e w' ⟨rfl, hR⟩; have HR := Lib.hid hR; clear hR))
      exact ⟨rfl, rfl, (HB.out.trans HB3.out).trans HR.out⟩
  · have HQ := Lib.hid (show ∀ (W' : World) (q' : Vs) (z : Int), z = v → Mach W' base g c { s with stack := xs } q' → Calls Tryd.prog 56 #[.pointer (some ⟨g, 0, none⟩), .int .i64 z] W' (Left_ base g c W' (.ok s')) from fun W' q' z hz h => by rw [← hr]; exact HP.out W' q' z hz h)
    clear HP hr
    go_enter Tryd.func49, Tryd.ntmps49
    go_upto_region 4 with (first
      | (go_at_call 22; refine (need_yes _ _ _ (by first | rfl | assumption | (simp; omega))).mono ?_; rintro e w' ⟨rfl, rfl⟩)
      | (go_at_call 59; first
          | (refine (pop_ok HM.out (xs ++ [x]) y HS.out h400).mono ?_; rintro e w2 ⟨rfl, u, hm2, hB2, hk2⟩; have HK2 := Lib.hid (hk2 W.heap.size (Nat.ne_of_gt hgW)); clear hk2; have HM2 := Lib.hid hm2; have HB2 := Lib.hid hB2; clear hm2 hB2)
          | (refine (pop_ok HM2.out xs x rfl (by simp; omega)).mono ?_; rintro e w3 ⟨rfl, u3, hm3, hB3, hk3⟩; have hop3 := (blk_cell (((hk3 W.heap.size (Nat.ne_of_gt hgW)).trans HK2.out).trans HBX.out) 0); clear hk3; have HM3 := Lib.hid hm3; have HB3 := Lib.hid (HB2.out.trans hB3); clear hm3 hB3)))
    simp only [List.getElem?_toArray, List.getElem?_cons_zero] at hop3
    unfold binV at HV
    simp only [if_true, if_false, reduceIte, Int.reduceEq] at HV
    all_goals
      go_wp2_with (first
        | (go_at_call 57; refine (wrap_any _ _).mono ?_; rintro e w' ⟨rfl, rfl⟩)
        | (go_at_call 60; refine (truth_any _ _).mono ?_; rintro e w' ⟨rfl, rfl⟩)
        | (go_at_call 56; refine (HQ.out _ _ _ ?hz HM3.out).mono ?_; (case hz => first | exact HV.out | (rw [← HV.out]; rfl) | (rw [← HV.out]; unfold b2i; simp [*])); rintro e w' ⟨rfl, hR⟩; have HR := Lib.hid hR; clear hR))
      go_end0
      obtain ⟨q', hm, hB⟩ := HR.out
      exact ⟨rfl, q', hm, (HB.out.trans HB3.out).trans hB⟩
set_option maxRecDepth 100000 in
set_option maxHeartbeats 4000000 in
theorem binary_6 {W : World} {base g : Nat} {c : Co} {s : St} {q : Vs} (h : Mach W base g c s q) (h400 : s.stack.length ≤ 400) (xs : List Int) (x y : Int) (hs : s.stack = xs ++ [x] ++ [y]) (a b : Int) :
    Calls Tryd.prog 49 #[.pointer (some ⟨g, 0, none⟩), insV 6 a b] W (Left_ base g c W (pushP { s with stack := xs } (binV 6 x y))) := by
  have hb := h.base_le
  have HB := Lib.hid ((Below.refl base W).alloc hb (.cells #[.int .i64 6, .int .i64 a, .int .i64 b] 42))
  have ha := h.alloc (.cells #[.int .i64 6, .int .i64 a, .int .i64 b] 42)
  obtain ⟨A, cap, k6⟩ := stack6 ha
  have hln : s.stack.length = xs.length + 2 := by rw [hs]; simp
  rw [hln] at k6
  have hd : decide (1 < (xs.length : Int) + 2) = true := decide_eq_true (by omega)
  have hd2 : decide (1 < xs.length + 2) = true := decide_eq_true (by omega)
  have HM := Lib.hid ha
  have HS := Lib.hid hs
  have hgW := blk_lt h.blk
  have hbx := heap_alloc_new W (.cells #[.int .i64 6, .int .i64 a, .int .i64 b] 42)
  have HBX := Lib.hid hbx
  have hlow := h.low
  clear h ha hbx hs
  obtain ⟨v, hv⟩ : ∃ v, binV 6 x y = v := ⟨_, rfl⟩
  rw [hv]
  have HP := Lib.hid (show ∀ (W' : World) (q' : Vs) (z : Int), z = v → Mach W' base g c { s with stack := xs } q' → Calls Tryd.prog 56 #[.pointer (some ⟨g, 0, none⟩), .int .i64 z] W' (Left_ base g c W' (pushP { s with stack := xs } v)) from fun W' q' z hz h => by rw [← hz]; exact push_any h z)
  have HV := Lib.hid hv
  clear hv
  rcases hr : pushP { s with stack := xs } v with code | s'
  · have HQ := Lib.hid (show ∀ (W' : World) (q' : Vs) (z : Int), z = v → Mach W' base g c { s with stack := xs } q' → Calls Tryd.prog 56 #[.pointer (some ⟨g, 0, none⟩), .int .i64 z] W' (Left_ base g c W' (.error code)) from fun W' q' z hz h => by rw [← hr]; exact HP.out W' q' z hz h)
    clear HP hr
    go_enter Tryd.func49, Tryd.ntmps49
    go_upto_region 4 with (first
      | (go_at_call 22; refine (need_yes _ _ _ (by first | rfl | assumption | (simp; omega))).mono ?_; rintro e w' ⟨rfl, rfl⟩)
      | (go_at_call 59; first
          | (refine (pop_ok HM.out (xs ++ [x]) y HS.out h400).mono ?_; rintro e w2 ⟨rfl, u, hm2, hB2, hk2⟩; have HK2 := Lib.hid (hk2 W.heap.size (Nat.ne_of_gt hgW)); clear hk2; have HM2 := Lib.hid hm2; have HB2 := Lib.hid hB2; clear hm2 hB2)
          | (refine (pop_ok HM2.out xs x rfl (by simp; omega)).mono ?_; rintro e w3 ⟨rfl, u3, hm3, hB3, hk3⟩; have hop3 := (blk_cell (((hk3 W.heap.size (Nat.ne_of_gt hgW)).trans HK2.out).trans HBX.out) 0); clear hk3; have HM3 := Lib.hid hm3; have HB3 := Lib.hid (HB2.out.trans hB3); clear hm3 hB3)))
    simp only [List.getElem?_toArray, List.getElem?_cons_zero] at hop3
    unfold binV at HV
    simp only [if_true, if_false, reduceIte, Int.reduceEq] at HV
    all_goals
      go_wp2_with (first
        | (go_at_call 57; refine (wrap_any _ _).mono ?_; rintro e w' ⟨rfl, rfl⟩)
        | (go_at_call 60; refine (truth_any _ _).mono ?_; rintro e w' ⟨rfl, rfl⟩)
        | (go_at_call 56; refine (HQ.out _ _ _ ?hz HM3.out).mono ?_; (case hz => first | exact HV.out | (rw [← HV.out]; rfl) | (rw [← HV.out]; unfold b2i; simp [*])); rintro e w' ⟨rfl, hR⟩; have HR := Lib.hid hR; clear hR))
      exact ⟨rfl, rfl, (HB.out.trans HB3.out).trans HR.out⟩
  · have HQ := Lib.hid (show ∀ (W' : World) (q' : Vs) (z : Int), z = v → Mach W' base g c { s with stack := xs } q' → Calls Tryd.prog 56 #[.pointer (some ⟨g, 0, none⟩), .int .i64 z] W' (Left_ base g c W' (.ok s')) from fun W' q' z hz h => by rw [← hr]; exact HP.out W' q' z hz h)
    clear HP hr
    go_enter Tryd.func49, Tryd.ntmps49
    go_upto_region 4 with (first
      | (go_at_call 22; refine (need_yes _ _ _ (by first | rfl | assumption | (simp; omega))).mono ?_; rintro e w' ⟨rfl, rfl⟩)
      | (go_at_call 59; first
          | (refine (pop_ok HM.out (xs ++ [x]) y HS.out h400).mono ?_; rintro e w2 ⟨rfl, u, hm2, hB2, hk2⟩; have HK2 := Lib.hid (hk2 W.heap.size (Nat.ne_of_gt hgW)); clear hk2; have HM2 := Lib.hid hm2; have HB2 := Lib.hid hB2; clear hm2 hB2)
          | (refine (pop_ok HM2.out xs x rfl (by simp; omega)).mono ?_; rintro e w3 ⟨rfl, u3, hm3, hB3, hk3⟩; have hop3 := (blk_cell (((hk3 W.heap.size (Nat.ne_of_gt hgW)).trans HK2.out).trans HBX.out) 0); clear hk3; have HM3 := Lib.hid hm3; have HB3 := Lib.hid (HB2.out.trans hB3); clear hm3 hB3)))
    simp only [List.getElem?_toArray, List.getElem?_cons_zero] at hop3
    unfold binV at HV
    simp only [if_true, if_false, reduceIte, Int.reduceEq] at HV
    all_goals
      go_wp2_with (first
        | (go_at_call 57; refine (wrap_any _ _).mono ?_; rintro e w' ⟨rfl, rfl⟩)
        | (go_at_call 60; refine (truth_any _ _).mono ?_; rintro e w' ⟨rfl, rfl⟩)
        | (go_at_call 56; refine (HQ.out _ _ _ ?hz HM3.out).mono ?_; (case hz => first | exact HV.out | (rw [← HV.out]; rfl) | (rw [← HV.out]; unfold b2i; simp [*])); rintro e w' ⟨rfl, hR⟩; have HR := Lib.hid hR; clear hR))
      go_end0
      obtain ⟨q', hm, hB⟩ := HR.out
      exact ⟨rfl, q', hm, (HB.out.trans HB3.out).trans hB⟩
set_option maxRecDepth 100000 in
set_option maxHeartbeats 4000000 in
theorem binary_7 {W : World} {base g : Nat} {c : Co} {s : St} {q : Vs} (h : Mach W base g c s q) (h400 : s.stack.length ≤ 400) (xs : List Int) (x y : Int) (hs : s.stack = xs ++ [x] ++ [y]) (a b : Int) :
    Calls Tryd.prog 49 #[.pointer (some ⟨g, 0, none⟩), insV 7 a b] W (Left_ base g c W (pushP { s with stack := xs } (binV 7 x y))) := by
  have hb := h.base_le
  have HB := Lib.hid ((Below.refl base W).alloc hb (.cells #[.int .i64 7, .int .i64 a, .int .i64 b] 42))
  have ha := h.alloc (.cells #[.int .i64 7, .int .i64 a, .int .i64 b] 42)
  obtain ⟨A, cap, k6⟩ := stack6 ha
  have hln : s.stack.length = xs.length + 2 := by rw [hs]; simp
  rw [hln] at k6
  have hd : decide (1 < (xs.length : Int) + 2) = true := decide_eq_true (by omega)
  have hd2 : decide (1 < xs.length + 2) = true := decide_eq_true (by omega)
  have HM := Lib.hid ha
  have HS := Lib.hid hs
  have hgW := blk_lt h.blk
  have hbx := heap_alloc_new W (.cells #[.int .i64 7, .int .i64 a, .int .i64 b] 42)
  have HBX := Lib.hid hbx
  have hlow := h.low
  clear h ha hbx hs
  obtain ⟨v, hv⟩ : ∃ v, binV 7 x y = v := ⟨_, rfl⟩
  rw [hv]
  have HP := Lib.hid (show ∀ (W' : World) (q' : Vs) (z : Int), z = v → Mach W' base g c { s with stack := xs } q' → Calls Tryd.prog 56 #[.pointer (some ⟨g, 0, none⟩), .int .i64 z] W' (Left_ base g c W' (pushP { s with stack := xs } v)) from fun W' q' z hz h => by rw [← hz]; exact push_any h z)
  have HV := Lib.hid hv
  clear hv
  rcases hr : pushP { s with stack := xs } v with code | s'
  · have HQ := Lib.hid (show ∀ (W' : World) (q' : Vs) (z : Int), z = v → Mach W' base g c { s with stack := xs } q' → Calls Tryd.prog 56 #[.pointer (some ⟨g, 0, none⟩), .int .i64 z] W' (Left_ base g c W' (.error code)) from fun W' q' z hz h => by rw [← hr]; exact HP.out W' q' z hz h)
    clear HP hr
    go_enter Tryd.func49, Tryd.ntmps49
    go_upto_region 4 with (first
      | (go_at_call 22; refine (need_yes _ _ _ (by first | rfl | assumption | (simp; omega))).mono ?_; rintro e w' ⟨rfl, rfl⟩)
      | (go_at_call 59; first
          | (refine (pop_ok HM.out (xs ++ [x]) y HS.out h400).mono ?_; rintro e w2 ⟨rfl, u, hm2, hB2, hk2⟩; have HK2 := Lib.hid (hk2 W.heap.size (Nat.ne_of_gt hgW)); clear hk2; have HM2 := Lib.hid hm2; have HB2 := Lib.hid hB2; clear hm2 hB2)
          | (refine (pop_ok HM2.out xs x rfl (by simp; omega)).mono ?_; rintro e w3 ⟨rfl, u3, hm3, hB3, hk3⟩; have hop3 := (blk_cell (((hk3 W.heap.size (Nat.ne_of_gt hgW)).trans HK2.out).trans HBX.out) 0); clear hk3; have HM3 := Lib.hid hm3; have HB3 := Lib.hid (HB2.out.trans hB3); clear hm3 hB3)))
    simp only [List.getElem?_toArray, List.getElem?_cons_zero] at hop3
    unfold binV at HV
    simp only [if_true, if_false, reduceIte, Int.reduceEq] at HV
    all_goals
      go_wp2_with (first
        | (go_at_call 57; refine (wrap_any _ _).mono ?_; rintro e w' ⟨rfl, rfl⟩)
        | (go_at_call 60; refine (truth_any _ _).mono ?_; rintro e w' ⟨rfl, rfl⟩)
        | (go_at_call 56; refine (HQ.out _ _ _ ?hz HM3.out).mono ?_; (case hz => first | exact HV.out | (rw [← HV.out]; rfl) | (rw [← HV.out]; unfold b2i; simp [*])); rintro e w' ⟨rfl, hR⟩; have HR := Lib.hid hR; clear hR))
      exact ⟨rfl, rfl, (HB.out.trans HB3.out).trans HR.out⟩
  · have HQ := Lib.hid (show ∀ (W' : World) (q' : Vs) (z : Int), z = v → Mach W' base g c { s with stack := xs } q' → Calls Tryd.prog 56 #[.pointer (some ⟨g, 0, none⟩), .int .i64 z] W' (Left_ base g c W' (.ok s')) from fun W' q' z hz h => by rw [← hr]; exact HP.out W' q' z hz h)
    clear HP hr
    go_enter Tryd.func49, Tryd.ntmps49
    go_upto_region 4 with (first
      | (go_at_call 22; refine (need_yes _ _ _ (by first | rfl | assumption | (simp; omega))).mono ?_; rintro e w' ⟨rfl, rfl⟩)
      | (go_at_call 59; first
          | (refine (pop_ok HM.out (xs ++ [x]) y HS.out h400).mono ?_; rintro e w2 ⟨rfl, u, hm2, hB2, hk2⟩; have HK2 := Lib.hid (hk2 W.heap.size (Nat.ne_of_gt hgW)); clear hk2; have HM2 := Lib.hid hm2; have HB2 := Lib.hid hB2; clear hm2 hB2)
          | (refine (pop_ok HM2.out xs x rfl (by simp; omega)).mono ?_; rintro e w3 ⟨rfl, u3, hm3, hB3, hk3⟩; have hop3 := (blk_cell (((hk3 W.heap.size (Nat.ne_of_gt hgW)).trans HK2.out).trans HBX.out) 0); clear hk3; have HM3 := Lib.hid hm3; have HB3 := Lib.hid (HB2.out.trans hB3); clear hm3 hB3)))
    simp only [List.getElem?_toArray, List.getElem?_cons_zero] at hop3
    unfold binV at HV
    simp only [if_true, if_false, reduceIte, Int.reduceEq] at HV
    all_goals
      go_wp2_with (first
        | (go_at_call 57; refine (wrap_any _ _).mono ?_; rintro e w' ⟨rfl, rfl⟩)
        | (go_at_call 60; refine (truth_any _ _).mono ?_; rintro e w' ⟨rfl, rfl⟩)
        | (go_at_call 56; refine (HQ.out _ _ _ ?hz HM3.out).mono ?_; (case hz => first | exact HV.out | (rw [← HV.out]; rfl) | (rw [← HV.out]; unfold b2i; simp [*])); rintro e w' ⟨rfl, hR⟩; have HR := Lib.hid hR; clear hR))
      go_end0
      obtain ⟨q', hm, hB⟩ := HR.out
      exact ⟨rfl, q', hm, (HB.out.trans HB3.out).trans hB⟩
set_option maxRecDepth 100000 in
set_option maxHeartbeats 4000000 in
theorem binary_8 {W : World} {base g : Nat} {c : Co} {s : St} {q : Vs} (h : Mach W base g c s q) (h400 : s.stack.length ≤ 400) (xs : List Int) (x y : Int) (hs : s.stack = xs ++ [x] ++ [y]) (a b : Int) :
    Calls Tryd.prog 49 #[.pointer (some ⟨g, 0, none⟩), insV 8 a b] W (Left_ base g c W (pushP { s with stack := xs } (binV 8 x y))) := by
  have hb := h.base_le
  have HB := Lib.hid ((Below.refl base W).alloc hb (.cells #[.int .i64 8, .int .i64 a, .int .i64 b] 42))
  have ha := h.alloc (.cells #[.int .i64 8, .int .i64 a, .int .i64 b] 42)
  obtain ⟨A, cap, k6⟩ := stack6 ha
  have hln : s.stack.length = xs.length + 2 := by rw [hs]; simp
  rw [hln] at k6
  have hd : decide (1 < (xs.length : Int) + 2) = true := decide_eq_true (by omega)
  have hd2 : decide (1 < xs.length + 2) = true := decide_eq_true (by omega)
  have HM := Lib.hid ha
  have HS := Lib.hid hs
  have hgW := blk_lt h.blk
  have hbx := heap_alloc_new W (.cells #[.int .i64 8, .int .i64 a, .int .i64 b] 42)
  have HBX := Lib.hid hbx
  have hlow := h.low
  clear h ha hbx hs
  obtain ⟨v, hv⟩ : ∃ v, binV 8 x y = v := ⟨_, rfl⟩
  rw [hv]
  have HP := Lib.hid (show ∀ (W' : World) (q' : Vs) (z : Int), z = v → Mach W' base g c { s with stack := xs } q' → Calls Tryd.prog 56 #[.pointer (some ⟨g, 0, none⟩), .int .i64 z] W' (Left_ base g c W' (pushP { s with stack := xs } v)) from fun W' q' z hz h => by rw [← hz]; exact push_any h z)
  have HV := Lib.hid hv
  clear hv
  rcases hr : pushP { s with stack := xs } v with code | s'
  · have HQ := Lib.hid (show ∀ (W' : World) (q' : Vs) (z : Int), z = v → Mach W' base g c { s with stack := xs } q' → Calls Tryd.prog 56 #[.pointer (some ⟨g, 0, none⟩), .int .i64 z] W' (Left_ base g c W' (.error code)) from fun W' q' z hz h => by rw [← hr]; exact HP.out W' q' z hz h)
    clear HP hr
    go_enter Tryd.func49, Tryd.ntmps49
    go_upto_region 4 with (first
      | (go_at_call 22; refine (need_yes _ _ _ (by first | rfl | assumption | (simp; omega))).mono ?_; rintro e w' ⟨rfl, rfl⟩)
      | (go_at_call 59; first
          | (refine (pop_ok HM.out (xs ++ [x]) y HS.out h400).mono ?_; rintro e w2 ⟨rfl, u, hm2, hB2, hk2⟩; have HK2 := Lib.hid (hk2 W.heap.size (Nat.ne_of_gt hgW)); clear hk2; have HM2 := Lib.hid hm2; have HB2 := Lib.hid hB2; clear hm2 hB2)
          | (refine (pop_ok HM2.out xs x rfl (by simp; omega)).mono ?_; rintro e w3 ⟨rfl, u3, hm3, hB3, hk3⟩; have hop3 := (blk_cell (((hk3 W.heap.size (Nat.ne_of_gt hgW)).trans HK2.out).trans HBX.out) 0); clear hk3; have HM3 := Lib.hid hm3; have HB3 := Lib.hid (HB2.out.trans hB3); clear hm3 hB3)))
    simp only [List.getElem?_toArray, List.getElem?_cons_zero] at hop3
    unfold binV at HV
    simp only [if_true, if_false, reduceIte, Int.reduceEq] at HV
    all_goals
      go_wp2_with (first
        | (go_at_call 57; refine (wrap_any _ _).mono ?_; rintro e w' ⟨rfl, rfl⟩)
        | (go_at_call 60; refine (truth_any _ _).mono ?_; rintro e w' ⟨rfl, rfl⟩)
        | (go_at_call 56; refine (HQ.out _ _ _ ?hz HM3.out).mono ?_; (case hz => first | exact HV.out | (rw [← HV.out]; rfl) | (rw [← HV.out]; unfold b2i; simp [*])); rintro e w' ⟨rfl, hR⟩; have HR := Lib.hid hR; clear hR))
      exact ⟨rfl, rfl, (HB.out.trans HB3.out).trans HR.out⟩
  · have HQ := Lib.hid (show ∀ (W' : World) (q' : Vs) (z : Int), z = v → Mach W' base g c { s with stack := xs } q' → Calls Tryd.prog 56 #[.pointer (some ⟨g, 0, none⟩), .int .i64 z] W' (Left_ base g c W' (.ok s')) from fun W' q' z hz h => by rw [← hr]; exact HP.out W' q' z hz h)
    clear HP hr
    go_enter Tryd.func49, Tryd.ntmps49
    go_upto_region 4 with (first
      | (go_at_call 22; refine (need_yes _ _ _ (by first | rfl | assumption | (simp; omega))).mono ?_; rintro e w' ⟨rfl, rfl⟩)
      | (go_at_call 59; first
          | (refine (pop_ok HM.out (xs ++ [x]) y HS.out h400).mono ?_; rintro e w2 ⟨rfl, u, hm2, hB2, hk2⟩; have HK2 := Lib.hid (hk2 W.heap.size (Nat.ne_of_gt hgW)); clear hk2; have HM2 := Lib.hid hm2; have HB2 := Lib.hid hB2; clear hm2 hB2)
          | (refine (pop_ok HM2.out xs x rfl (by simp; omega)).mono ?_; rintro e w3 ⟨rfl, u3, hm3, hB3, hk3⟩; have hop3 := (blk_cell (((hk3 W.heap.size (Nat.ne_of_gt hgW)).trans HK2.out).trans HBX.out) 0); clear hk3; have HM3 := Lib.hid hm3; have HB3 := Lib.hid (HB2.out.trans hB3); clear hm3 hB3)))
    simp only [List.getElem?_toArray, List.getElem?_cons_zero] at hop3
    unfold binV at HV
    simp only [if_true, if_false, reduceIte, Int.reduceEq] at HV
    all_goals
      go_wp2_with (first
        | (go_at_call 57; refine (wrap_any _ _).mono ?_; rintro e w' ⟨rfl, rfl⟩)
        | (go_at_call 60; refine (truth_any _ _).mono ?_; rintro e w' ⟨rfl, rfl⟩)
        | (go_at_call 56; refine (HQ.out _ _ _ ?hz HM3.out).mono ?_; (case hz => first | exact HV.out | (rw [← HV.out]; rfl) | (rw [← HV.out]; unfold b2i; simp [*])); rintro e w' ⟨rfl, hR⟩; have HR := Lib.hid hR; clear hR))
      go_end0
      obtain ⟨q', hm, hB⟩ := HR.out
      exact ⟨rfl, q', hm, (HB.out.trans HB3.out).trans hB⟩
set_option maxRecDepth 100000 in
set_option maxHeartbeats 4000000 in
theorem binary_9 {W : World} {base g : Nat} {c : Co} {s : St} {q : Vs} (h : Mach W base g c s q) (h400 : s.stack.length ≤ 400) (xs : List Int) (x y : Int) (hs : s.stack = xs ++ [x] ++ [y]) (a b : Int) :
    Calls Tryd.prog 49 #[.pointer (some ⟨g, 0, none⟩), insV 9 a b] W (Left_ base g c W (pushP { s with stack := xs } (binV 9 x y))) := by
  have hb := h.base_le
  have HB := Lib.hid ((Below.refl base W).alloc hb (.cells #[.int .i64 9, .int .i64 a, .int .i64 b] 42))
  have ha := h.alloc (.cells #[.int .i64 9, .int .i64 a, .int .i64 b] 42)
  obtain ⟨A, cap, k6⟩ := stack6 ha
  have hln : s.stack.length = xs.length + 2 := by rw [hs]; simp
  rw [hln] at k6
  have hd : decide (1 < (xs.length : Int) + 2) = true := decide_eq_true (by omega)
  have hd2 : decide (1 < xs.length + 2) = true := decide_eq_true (by omega)
  have HM := Lib.hid ha
  have HS := Lib.hid hs
  have hgW := blk_lt h.blk
  have hbx := heap_alloc_new W (.cells #[.int .i64 9, .int .i64 a, .int .i64 b] 42)
  have HBX := Lib.hid hbx
  have hlow := h.low
  clear h ha hbx hs
  obtain ⟨v, hv⟩ : ∃ v, binV 9 x y = v := ⟨_, rfl⟩
  rw [hv]
  have HP := Lib.hid (show ∀ (W' : World) (q' : Vs) (z : Int), z = v → Mach W' base g c { s with stack := xs } q' → Calls Tryd.prog 56 #[.pointer (some ⟨g, 0, none⟩), .int .i64 z] W' (Left_ base g c W' (pushP { s with stack := xs } v)) from fun W' q' z hz h => by rw [← hz]; exact push_any h z)
  have HV := Lib.hid hv
  clear hv
  rcases hr : pushP { s with stack := xs } v with code | s'
  · have HQ := Lib.hid (show ∀ (W' : World) (q' : Vs) (z : Int), z = v → Mach W' base g c { s with stack := xs } q' → Calls Tryd.prog 56 #[.pointer (some ⟨g, 0, none⟩), .int .i64 z] W' (Left_ base g c W' (.error code)) from fun W' q' z hz h => by rw [← hr]; exact HP.out W' q' z hz h)
    clear HP hr
    go_enter Tryd.func49, Tryd.ntmps49
    go_upto_region 4 with (first
      | (go_at_call 22; refine (need_yes _ _ _ (by first | rfl | assumption | (simp; omega))).mono ?_; rintro e w' ⟨rfl, rfl⟩)
      | (go_at_call 59; first
          | (refine (pop_ok HM.out (xs ++ [x]) y HS.out h400).mono ?_; rintro e w2 ⟨rfl, u, hm2, hB2, hk2⟩; have HK2 := Lib.hid (hk2 W.heap.size (Nat.ne_of_gt hgW)); clear hk2; have HM2 := Lib.hid hm2; have HB2 := Lib.hid hB2; clear hm2 hB2)
          | (refine (pop_ok HM2.out xs x rfl (by simp; omega)).mono ?_; rintro e w3 ⟨rfl, u3, hm3, hB3, hk3⟩; have hop3 := (blk_cell (((hk3 W.heap.size (Nat.ne_of_gt hgW)).trans HK2.out).trans HBX.out) 0); clear hk3; have HM3 := Lib.hid hm3; have HB3 := Lib.hid (HB2.out.trans hB3); clear hm3 hB3)))
    simp only [List.getElem?_toArray, List.getElem?_cons_zero] at hop3
    unfold binV at HV
    simp only [if_true, if_false, reduceIte, Int.reduceEq] at HV
    all_goals
      go_wp2_with (first
        | (go_at_call 57; refine (wrap_any _ _).mono ?_; rintro e w' ⟨rfl, rfl⟩)
        | (go_at_call 60; refine (truth_any _ _).mono ?_; rintro e w' ⟨rfl, rfl⟩)
        | (go_at_call 56; refine (HQ.out _ _ _ ?hz HM3.out).mono ?_; (case hz => first | exact HV.out | (rw [← HV.out]; rfl) | (rw [← HV.out]; unfold b2i; simp [*])); rintro e w' ⟨rfl, hR⟩; have HR := Lib.hid hR; clear hR))
      all_goals exact ⟨rfl, rfl, (HB.out.trans HB3.out).trans HR.out⟩
  · have HQ := Lib.hid (show ∀ (W' : World) (q' : Vs) (z : Int), z = v → Mach W' base g c { s with stack := xs } q' → Calls Tryd.prog 56 #[.pointer (some ⟨g, 0, none⟩), .int .i64 z] W' (Left_ base g c W' (.ok s')) from fun W' q' z hz h => by rw [← hr]; exact HP.out W' q' z hz h)
    clear HP hr
    go_enter Tryd.func49, Tryd.ntmps49
    go_upto_region 4 with (first
      | (go_at_call 22; refine (need_yes _ _ _ (by first | rfl | assumption | (simp; omega))).mono ?_; rintro e w' ⟨rfl, rfl⟩)
      | (go_at_call 59; first
          | (refine (pop_ok HM.out (xs ++ [x]) y HS.out h400).mono ?_; rintro e w2 ⟨rfl, u, hm2, hB2, hk2⟩; have HK2 := Lib.hid (hk2 W.heap.size (Nat.ne_of_gt hgW)); clear hk2; have HM2 := Lib.hid hm2; have HB2 := Lib.hid hB2; clear hm2 hB2)
          | (refine (pop_ok HM2.out xs x rfl (by simp; omega)).mono ?_; rintro e w3 ⟨rfl, u3, hm3, hB3, hk3⟩; have hop3 := (blk_cell (((hk3 W.heap.size (Nat.ne_of_gt hgW)).trans HK2.out).trans HBX.out) 0); clear hk3; have HM3 := Lib.hid hm3; have HB3 := Lib.hid (HB2.out.trans hB3); clear hm3 hB3)))
    simp only [List.getElem?_toArray, List.getElem?_cons_zero] at hop3
    unfold binV at HV
    simp only [if_true, if_false, reduceIte, Int.reduceEq] at HV
    all_goals
      go_wp2_with (first
        | (go_at_call 57; refine (wrap_any _ _).mono ?_; rintro e w' ⟨rfl, rfl⟩)
        | (go_at_call 60; refine (truth_any _ _).mono ?_; rintro e w' ⟨rfl, rfl⟩)
        | (go_at_call 56; refine (HQ.out _ _ _ ?hz HM3.out).mono ?_; (case hz => first | exact HV.out | (rw [← HV.out]; rfl) | (rw [← HV.out]; unfold b2i; simp [*])); rintro e w' ⟨rfl, hR⟩; have HR := Lib.hid hR; clear hR))
      all_goals (go_end0; obtain ⟨q', hm, hB⟩ := HR.out; exact ⟨rfl, q', hm, (HB.out.trans HB3.out).trans hB⟩)
set_option maxRecDepth 100000 in
set_option maxHeartbeats 4000000 in
theorem binary_10 {W : World} {base g : Nat} {c : Co} {s : St} {q : Vs} (h : Mach W base g c s q) (h400 : s.stack.length ≤ 400) (xs : List Int) (x y : Int) (hs : s.stack = xs ++ [x] ++ [y]) (a b : Int) :
    Calls Tryd.prog 49 #[.pointer (some ⟨g, 0, none⟩), insV 10 a b] W (Left_ base g c W (pushP { s with stack := xs } (binV 10 x y))) := by
  have hb := h.base_le
  have HB := Lib.hid ((Below.refl base W).alloc hb (.cells #[.int .i64 10, .int .i64 a, .int .i64 b] 42))
  have ha := h.alloc (.cells #[.int .i64 10, .int .i64 a, .int .i64 b] 42)
  obtain ⟨A, cap, k6⟩ := stack6 ha
  have hln : s.stack.length = xs.length + 2 := by rw [hs]; simp
  rw [hln] at k6
  have hd : decide (1 < (xs.length : Int) + 2) = true := decide_eq_true (by omega)
  have hd2 : decide (1 < xs.length + 2) = true := decide_eq_true (by omega)
  have HM := Lib.hid ha
  have HS := Lib.hid hs
  have hgW := blk_lt h.blk
  have hbx := heap_alloc_new W (.cells #[.int .i64 10, .int .i64 a, .int .i64 b] 42)
  have HBX := Lib.hid hbx
  have hlow := h.low
  clear h ha hbx hs
  obtain ⟨v, hv⟩ : ∃ v, binV 10 x y = v := ⟨_, rfl⟩
  rw [hv]
  have HP := Lib.hid (show ∀ (W' : World) (q' : Vs) (z : Int), z = v → Mach W' base g c { s with stack := xs } q' → Calls Tryd.prog 56 #[.pointer (some ⟨g, 0, none⟩), .int .i64 z] W' (Left_ base g c W' (pushP { s with stack := xs } v)) from fun W' q' z hz h => by rw [← hz]; exact push_any h z)
  have HV := Lib.hid hv
  clear hv
  rcases hr : pushP { s with stack := xs } v with code | s'
  · have HQ := Lib.hid (show ∀ (W' : World) (q' : Vs) (z : Int), z = v → Mach W' base g c { s with stack := xs } q' → Calls Tryd.prog 56 #[.pointer (some ⟨g, 0, none⟩), .int .i64 z] W' (Left_ base g c W' (.error code)) from fun W' q' z hz h => by rw [← hr]; exact HP.out W' q' z hz h)
    clear HP hr
    go_enter Tryd.func49, Tryd.ntmps49
    go_upto_region 4 with (first
      | (go_at_call 22; refine (need_yes _ _ _ (by first | rfl | assumption | (simp; omega))).mono ?_; rintro e w' ⟨rfl, rfl⟩)
      | (go_at_call 59; first
          | (refine (pop_ok HM.out (xs ++ [x]) y HS.out h400).mono ?_; rintro e w2 ⟨rfl, u, hm2, hB2, hk2⟩; have HK2 := Lib.hid (hk2 W.heap.size (Nat.ne_of_gt hgW)); clear hk2; have HM2 := Lib.hid hm2; have HB2 := Lib.hid hB2; clear hm2 hB2)
          | (refine (pop_ok HM2.out xs x rfl (by simp; omega)).mono ?_; rintro e w3 ⟨rfl, u3, hm3, hB3, hk3⟩; have hop3 := (blk_cell (((hk3 W.heap.size (Nat.ne_of_gt hgW)).trans HK2.out).trans HBX.out) 0); clear hk3; have HM3 := Lib.hid hm3; have HB3 := Lib.hid (HB2.out.trans hB3); clear hm3 hB3)))
    simp only [List.getElem?_toArray, List.getElem?_cons_zero] at hop3
    unfold binV at HV
    simp only [if_true, if_false, reduceIte, Int.reduceEq] at HV
    all_goals
      go_wp2_with (first
        | (go_at_call 57; refine (wrap_any _ _).mono ?_; rintro e w' ⟨rfl, rfl⟩)
        | (go_at_call 60; refine (truth_any _ _).mono ?_; rintro e w' ⟨rfl, rfl⟩)
        | (go_at_call 56; refine (HQ.out _ _ _ ?hz HM3.out).mono ?_; (case hz => first | exact HV.out | (rw [← HV.out]; rfl) | (rw [← HV.out]; unfold b2i; simp [*])); rintro e w' ⟨rfl, hR⟩; have HR := Lib.hid hR; clear hR))
      all_goals exact ⟨rfl, rfl, (HB.out.trans HB3.out).trans HR.out⟩
  · have HQ := Lib.hid (show ∀ (W' : World) (q' : Vs) (z : Int), z = v → Mach W' base g c { s with stack := xs } q' → Calls Tryd.prog 56 #[.pointer (some ⟨g, 0, none⟩), .int .i64 z] W' (Left_ base g c W' (.ok s')) from fun W' q' z hz h => by rw [← hr]; exact HP.out W' q' z hz h)
    clear HP hr
    go_enter Tryd.func49, Tryd.ntmps49
    go_upto_region 4 with (first
      | (go_at_call 22; refine (need_yes _ _ _ (by first | rfl | assumption | (simp; omega))).mono ?_; rintro e w' ⟨rfl, rfl⟩)
      | (go_at_call 59; first
          | (refine (pop_ok HM.out (xs ++ [x]) y HS.out h400).mono ?_; rintro e w2 ⟨rfl, u, hm2, hB2, hk2⟩; have HK2 := Lib.hid (hk2 W.heap.size (Nat.ne_of_gt hgW)); clear hk2; have HM2 := Lib.hid hm2; have HB2 := Lib.hid hB2; clear hm2 hB2)
          | (refine (pop_ok HM2.out xs x rfl (by simp; omega)).mono ?_; rintro e w3 ⟨rfl, u3, hm3, hB3, hk3⟩; have hop3 := (blk_cell (((hk3 W.heap.size (Nat.ne_of_gt hgW)).trans HK2.out).trans HBX.out) 0); clear hk3; have HM3 := Lib.hid hm3; have HB3 := Lib.hid (HB2.out.trans hB3); clear hm3 hB3)))
    simp only [List.getElem?_toArray, List.getElem?_cons_zero] at hop3
    unfold binV at HV
    simp only [if_true, if_false, reduceIte, Int.reduceEq] at HV
    all_goals
      go_wp2_with (first
        | (go_at_call 57; refine (wrap_any _ _).mono ?_; rintro e w' ⟨rfl, rfl⟩)
        | (go_at_call 60; refine (truth_any _ _).mono ?_; rintro e w' ⟨rfl, rfl⟩)
        | (go_at_call 56; refine (HQ.out _ _ _ ?hz HM3.out).mono ?_; (case hz => first | exact HV.out | (rw [← HV.out]; rfl) | (rw [← HV.out]; unfold b2i; simp [*])); rintro e w' ⟨rfl, hR⟩; have HR := Lib.hid hR; clear hR))
      all_goals (go_end0; obtain ⟨q', hm, hB⟩ := HR.out; exact ⟨rfl, q', hm, (HB.out.trans HB3.out).trans hB⟩)
theorem binary_two {W : World} {base g : Nat} {c : Co} {s : St} {q : Vs} (h : Mach W base g c s q) (h400 : s.stack.length ≤ 400) (xs : List Int) (x y : Int) (hs : s.stack = xs ++ [x] ++ [y]) (op a b : Int) (hop : op = 4 ∨ op = 5 ∨ op = 6 ∨ op = 7 ∨ op = 8 ∨ op = 9 ∨ op = 10) :
    Calls Tryd.prog 49 #[.pointer (some ⟨g, 0, none⟩), insV op a b] W (Left_ base g c W (pushP { s with stack := xs } (binV op x y))) := by
  rcases hop with rfl | rfl | rfl | rfl | rfl | rfl | rfl
  · exact binary_4 h h400 xs x y hs a b
  · exact binary_5 h h400 xs x y hs a b
  · exact binary_6 h h400 xs x y hs a b
  · exact binary_7 h h400 xs x y hs a b
  · exact binary_8 h h400 xs x y hs a b
  · exact binary_9 h h400 xs x y hs a b
  · exact binary_10 h h400 xs x y hs a b
theorem binary_any {W : World} {base g : Nat} {c : Co} {s : St} {q : Vs} (h : Mach W base g c s q) (h400 : s.stack.length ≤ 400) (op a b : Int) (hop : op = 4 ∨ op = 5 ∨ op = 6 ∨ op = 7 ∨ op = 8 ∨ op = 9 ∨ op = 10) :
    Calls Tryd.prog 49 #[.pointer (some ⟨g, 0, none⟩), insV op a b] W (Left_ base g c W (binaryP s op)) := by
  unfold binaryP
  by_cases hl : s.stack.length ≤ 1
  · rw [if_pos hl]
    exact binary_few h hl op a b
  · rw [if_neg hl]
    obtain ⟨xs, x, y, hs⟩ := stack_split2 s.stack hl
    have e1 : s.stack.dropLast = xs ++ [x] := by rw [hs]; simp
    have e2 : s.stack.getLastD 0 = y := by rw [hs]; simp
    have e3 : (xs ++ [x]).dropLast = xs := by simp
    have e4 : (xs ++ [x]).getLastD 0 = x := by simp
    rw [e1, e2, e3, e4]
    exact binary_two h h400 xs x y hs op a b hop
end Go.Proofs.YtbgfkepnlpgagaaDoor.P
