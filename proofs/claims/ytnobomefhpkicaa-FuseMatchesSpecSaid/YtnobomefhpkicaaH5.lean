import Derived.Test.YtnobomefhpkicaaH4
import Derived.WalkSpells
import Derived.RangeFuncBox
namespace Go.Proofs.Ytnobomefhpkicaa.P
open Go.RowKit Go.Proofs.YtnobomefhpkicaaW.PrintWords Go.Proofs.YtnobomefhpkicaaW.PrintLast Go.Proofs.YtnobomefhpkicaaW.PrintMore
attribute [local go_sem] max2_int min2_int max_two min_two max_three min_three max_four min_four
set_option linter.unusedVariables false
set_option linter.unusedSimpArgs false

/-! ### fuse_exists: function 32 -/
def fuse_exists.f (l0_0 : List (List Int)) (a1 : Int) (a2 : Int) : Option (Bool) := if a1 ≥ 0 then (if a1 < (l0_0.length : Int) then (if a2 ≥ 0 then (if 0 ≤ a1 then (some (decide (a2 < ((rd_L1 l0_0 a1).length : Int)))) else (none)) else (some false)) else (some false)) else (some false)
set_option maxHeartbeats 8000000 in
set_option maxRecDepth 100000 in
theorem fuse_exists.calls (A0_0 : Option Addr) (c0_0 : Nat) (l0_0 : List (List Int)) (a1 : Int) (a2 : Int) (r : Bool) (w : World) (hr0_0 : Kd.C (Kd.slice 5 (Kd.int .u8)) w A0_0 l0_0.length l0_0) (hc0_0 : l0_0.length ≤ c0_0) (h : fuse_exists.f l0_0 a1 a2 = some r) :
    Calls Try.prog 32 #[.agg #[.slice A0_0 l0_0.length c0_0], .int .i64 a1, .int .i64 a2] w fun e w' => e = .returned (.bool r) ∧ Below w.heap.size w w' := by
  have hu24 := Try.underlying24
  have HR0_0 := Aside0.mk hr0_0
  have HC0_0 := Aside0.mk hc0_0
  clear hr0_0 hc0_0
  have HB := Aside0.mk (Below.refl w.heap.size w)
  have H : (if a1 ≥ 0 then (if a1 < (l0_0.length : Int) then (if a2 ≥ 0 then (if 0 ≤ a1 then (some (decide (a2 < ((rd_L1 l0_0 a1).length : Int)))) else (none)) else (some false)) else (some false)) else (some false)) = some r := h
  clear h
  by_cases c4 : a1 ≥ 0
  · rw [if_pos c4] at H
    have c4b0 : decide (0 ≤ a1) = true := decide_eq_true c4
    clear c4
    by_cases c5 : a1 < (l0_0.length : Int)
    · rw [if_pos c5] at H
      have c5b0 : decide (a1 < (l0_0.length : Int)) = true := decide_eq_true c5
      clear c5
      by_cases c6 : a2 ≥ 0
      · rw [if_pos c6] at H
        have c6b0 : decide (0 ≤ a2) = true := decide_eq_true c6
        clear c6
        by_cases c7 : 0 ≤ a1
        · rw [if_pos c7] at H
          have c7b0 : decide (0 ≤ a1) = true := decide_eq_true c7
          clear c7
          obtain rfl := Option.some.inj H
          go_enter Try.func32, Try.ntmps32
          go_wp2_with (first | ((with_reducible refine gate_dst (N := 3) rfl ?_); (try (refine gate_guard (by rfl) ?_; dsimp only)); refine box_event ?hg (N := 3) ?hd (cs := #[.slice A0_0 l0_0.length c0_0]) (t := 24) ?hr ?_; (case hd => rfl); (case hg => rfl); (case hr => first | (go_simp; done) | (go_simp; rfl)); intro gb101 hg w8 hbox hb; have n0_ := Aside0.mk (below_step (by repeat (first | (with_reducible first | exact HB.out | apply below_alloc | apply pw_below_drewN | apply below_drew1) | exact HB.out)) hb); have n1_ := Aside0.mk (hbox); have n2_ := Aside0.mk ((by rw [hg]; exact (below_size (by repeat (first | (with_reducible first | exact HB.out | apply below_alloc | apply pw_below_drewN | apply below_drew1) | exact HB.out))) : w.heap.size ≤ gb101)); have n3_ := Aside0.mk ((by rw [hg]; exact (below_size (by repeat (first | (with_reducible first | exact HB.out | apply below_alloc | apply pw_below_drewN | apply below_drew1) | exact HB.out))) : w.heap.size ≤ gb101)); clear HB; have HB := n0_; have BK101 := n1_; have GW101 := n2_; have GE101 := n3_; clear n0_ n1_ n2_ n3_; clear hb hbox hg; have hcz9_0 : w8.cell? ⟨gb101, 0, none⟩ = some (.slice A0_0 l0_0.length c0_0) := (blk_cell BK101.out 0).trans rfl; have hfz9_0 := blk_frozen BK101.out 0; have p102 : 0 ≤ (a1 : Int) := of_decide_eq_true (by first | (with_reducible assumption) | assumption); have q102 : a1 < (l0_0.length : Int) := of_decide_eq_true (by first | (with_reducible assumption) | assumption); obtain ⟨ad102, A102_0, c102_0, e102, hx102_0, hl102_0, hi102_0⟩ := at_L1 HR0_0.out a1 p102 q102; cases e102; replace hx102_0 := (HB.out.cell (World.block_lt_of_cell? w _ hx102_0)).trans hx102_0; have HR102_0 := Aside0.mk hi102_0; have HC102_0 := Aside0.mk hl102_0; clear hi102_0 hl102_0; replace p102 := eq_true p102; replace q102 := eq_true q102))
          go_ret
          exact ⟨by first | rfl | (simp [errW_none, errW_some] <;> rfl) | (simp [*, errW_none, errW_some] <;> rfl), by repeat (first | (with_reducible first | exact HB.out | apply below_alloc | apply pw_below_drewN | apply below_drew1 | refine below_set ?_ GE101.out) | exact HB.out)⟩
        · rw [if_neg c7] at H
          exact absurd H (by simp)
      · rw [if_neg c6] at H
        have c6b0 : decide (0 ≤ a2) = false := decide_eq_false c6
        clear c6
        obtain rfl := Option.some.inj H
        go_enter Try.func32, Try.ntmps32
        go_wp2_with (first | ((with_reducible refine gate_dst (N := 3) rfl ?_); (try (refine gate_guard (by rfl) ?_; dsimp only)); refine box_event ?hg (N := 3) ?hd (cs := #[.slice A0_0 l0_0.length c0_0]) (t := 24) ?hr ?_; (case hd => rfl); (case hg => rfl); (case hr => first | (go_simp; done) | (go_simp; rfl)); intro gb101 hg w10 hbox hb; have n0_ := Aside0.mk (below_step (by repeat (first | (with_reducible first | exact HB.out | apply below_alloc | apply pw_below_drewN | apply below_drew1) | exact HB.out)) hb); have n1_ := Aside0.mk (hbox); have n2_ := Aside0.mk ((by rw [hg]; exact (below_size (by repeat (first | (with_reducible first | exact HB.out | apply below_alloc | apply pw_below_drewN | apply below_drew1) | exact HB.out))) : w.heap.size ≤ gb101)); have n3_ := Aside0.mk ((by rw [hg]; exact (below_size (by repeat (first | (with_reducible first | exact HB.out | apply below_alloc | apply pw_below_drewN | apply below_drew1) | exact HB.out))) : w.heap.size ≤ gb101)); clear HB; have HB := n0_; have BK101 := n1_; have GW101 := n2_; have GE101 := n3_; clear n0_ n1_ n2_ n3_; clear hb hbox hg; have hcz11_0 : w10.cell? ⟨gb101, 0, none⟩ = some (.slice A0_0 l0_0.length c0_0) := (blk_cell BK101.out 0).trans rfl; have hfz11_0 := blk_frozen BK101.out 0))
        go_ret
        exact ⟨by first | rfl | (simp [errW_none, errW_some] <;> rfl) | (simp [*, errW_none, errW_some] <;> rfl), by repeat (first | (with_reducible first | exact HB.out | apply below_alloc | apply pw_below_drewN | apply below_drew1 | refine below_set ?_ GE101.out) | exact HB.out)⟩
    · rw [if_neg c5] at H
      have c5b0 : decide (a1 < (l0_0.length : Int)) = false := decide_eq_false c5
      clear c5
      obtain rfl := Option.some.inj H
      go_enter Try.func32, Try.ntmps32
      go_wp2_with (first | ((with_reducible refine gate_dst (N := 3) rfl ?_); (try (refine gate_guard (by rfl) ?_; dsimp only)); refine box_event ?hg (N := 3) ?hd (cs := #[.slice A0_0 l0_0.length c0_0]) (t := 24) ?hr ?_; (case hd => rfl); (case hg => rfl); (case hr => first | (go_simp; done) | (go_simp; rfl)); intro gb101 hg w12 hbox hb; have n0_ := Aside0.mk (below_step (by repeat (first | (with_reducible first | exact HB.out | apply below_alloc | apply pw_below_drewN | apply below_drew1) | exact HB.out)) hb); have n1_ := Aside0.mk (hbox); have n2_ := Aside0.mk ((by rw [hg]; exact (below_size (by repeat (first | (with_reducible first | exact HB.out | apply below_alloc | apply pw_below_drewN | apply below_drew1) | exact HB.out))) : w.heap.size ≤ gb101)); have n3_ := Aside0.mk ((by rw [hg]; exact (below_size (by repeat (first | (with_reducible first | exact HB.out | apply below_alloc | apply pw_below_drewN | apply below_drew1) | exact HB.out))) : w.heap.size ≤ gb101)); clear HB; have HB := n0_; have BK101 := n1_; have GW101 := n2_; have GE101 := n3_; clear n0_ n1_ n2_ n3_; clear hb hbox hg; have hcz13_0 : w12.cell? ⟨gb101, 0, none⟩ = some (.slice A0_0 l0_0.length c0_0) := (blk_cell BK101.out 0).trans rfl; have hfz13_0 := blk_frozen BK101.out 0))
      go_ret
      exact ⟨by first | rfl | (simp [errW_none, errW_some] <;> rfl) | (simp [*, errW_none, errW_some] <;> rfl), by repeat (first | (with_reducible first | exact HB.out | apply below_alloc | apply pw_below_drewN | apply below_drew1 | refine below_set ?_ GE101.out) | exact HB.out)⟩
  · rw [if_neg c4] at H
    have c4b0 : decide (0 ≤ a1) = false := decide_eq_false c4
    clear c4
    obtain rfl := Option.some.inj H
    go_enter Try.func32, Try.ntmps32
    go_wp2_with (first | ((with_reducible refine gate_dst (N := 3) rfl ?_); (try (refine gate_guard (by rfl) ?_; dsimp only)); refine box_event ?hg (N := 3) ?hd (cs := #[.slice A0_0 l0_0.length c0_0]) (t := 24) ?hr ?_; (case hd => rfl); (case hg => rfl); (case hr => first | (go_simp; done) | (go_simp; rfl)); intro gb101 hg w14 hbox hb; have n0_ := Aside0.mk (below_step (by repeat (first | (with_reducible first | exact HB.out | apply below_alloc | apply pw_below_drewN | apply below_drew1) | exact HB.out)) hb); have n1_ := Aside0.mk (hbox); have n2_ := Aside0.mk ((by rw [hg]; exact (below_size (by repeat (first | (with_reducible first | exact HB.out | apply below_alloc | apply pw_below_drewN | apply below_drew1) | exact HB.out))) : w.heap.size ≤ gb101)); have n3_ := Aside0.mk ((by rw [hg]; exact (below_size (by repeat (first | (with_reducible first | exact HB.out | apply below_alloc | apply pw_below_drewN | apply below_drew1) | exact HB.out))) : w.heap.size ≤ gb101)); clear HB; have HB := n0_; have BK101 := n1_; have GW101 := n2_; have GE101 := n3_; clear n0_ n1_ n2_ n3_; clear hb hbox hg))
    go_ret
    exact ⟨by first | rfl | (simp [errW_none, errW_some] <;> rfl) | (simp [*, errW_none, errW_some] <;> rfl), by repeat (first | (with_reducible first | exact HB.out | apply below_alloc | apply pw_below_drewN | apply below_drew1 | refine below_set ?_ GE101.out) | exact HB.out)⟩


theorem exists_any (A0_0 : Option Addr) (c0_0 : Nat) (l0_0 : List (List Int)) (a1 : Int) (a2 : Int) (w : World) (hr0_0 : Kd.C (Kd.slice 5 (Kd.int .u8)) w A0_0 l0_0.length l0_0) (hc0_0 : l0_0.length ≤ c0_0) :
    Calls Try.prog 32 #[.agg #[.slice A0_0 l0_0.length c0_0], .int .i64 a1, .int .i64 a2] w fun e w' => e = .returned (.bool (decide (0 ≤ a1 ∧ a1 < (l0_0.length : Int) ∧ 0 ≤ a2 ∧ a2 < ((rd_L1 l0_0 a1).length : Int)))) ∧ Below w.heap.size w w' := by
  refine fuse_exists.calls A0_0 c0_0 l0_0 a1 a2 _ w hr0_0 hc0_0 ?_
  unfold fuse_exists.f
  by_cases h1 : a1 ≥ 0
  · by_cases h2 : a1 < (l0_0.length : Int)
    · by_cases h3 : a2 ≥ 0
      · rw [if_pos h1, if_pos h2, if_pos h3, if_pos h1]
        simp [h1, h2, h3]
      · rw [if_pos h1, if_pos h2, if_neg h3]; simp; omega
    · rw [if_pos h1, if_neg h2]; simp; omega
  · rw [if_neg h1]; simp; omega

theorem clone8_some (ad : Addr) (c : Nat) (cs : List Value) (w : World) (hl : cs.length ≤ 140737488355328) (hc : ∀ j u, cs[j]? = some u → w.cell? (ad.add j) = some u) (h1 : ∀ u ∈ cs, u.oneCell' = true) :
    Calls Try.prog 35 #[.slice (some ad) cs.length c] w fun e w' => ∃ v, e = .returned v ∧ w'.ownsRow w.heap.size 5 1 v cs.length cs ∧ Below w.heap.size w w' := by
  have he : ∀ w, (binOp .eql 26 (.slice (some ad) cs.length c) (.slice none 0 0)).run Try.prog w = .ok (.bool false) w := fun w => Lib.run_eql_slice_nil (P := Try.prog) w 26 5 (some ad) cs.length c 0 0 Try.underlying26
  obtain ⟨i0, hi, hz0, hz1, hz2⟩ := info_parts info5
  have HC := Lib.hid hc
  have H1 := Lib.hid h1
  have HI := Lib.hid hi
  have HZ0 := Lib.hid hz0
  have HZ1 := Lib.hid hz1
  have HZ2 := Lib.hid hz2
  have HL := Lib.hid (World.ownsRow_lit (base := w.heap.size) (e := 5) (size := 1) w #[] 0 (Nat.le_refl _) (by simp [maxLen]) rfl)
  clear hc h1 hi hz0 hz1 hz2
  go_enter Try.func35, Try.ntmps35
  go_wp2_with (at_builtin; refine wpList_append_own _ rfl (.tmp 5) (.tmp 6) 26 rfl w.heap.size 5 i0 (.int .u8 0) 1 1 Try.underlying26 HI.out HZ0.out HZ1.out HZ2.out rfl (by decide) _ 0 [] rfl HL.out ad cs.length c cs rfl ?d1 ?d2 H1.out ?d3 ?d4 ?d5 ?_; (case d1 => simp); (case d2 => exact fun j u hj => ((Below.refl w.heap.size w).alloc (Nat.le_refl _) _).cell (World.block_lt_of_cell? w _ (HC.out j u hj)) |>.trans (HC.out j u hj)); (case d3 => simp only [maxLen]; omega); (case d4 => omega); (case d5 => simp); intro v' w1 hown hgrow _; have HO := Lib.hid hown; have HG := Lib.hid hgrow; clear hown hgrow)
  go_ret
  refine ⟨v', rfl, by have := HO.out; rwa [Nat.zero_add, List.nil_append] at this, ?_⟩
  exact ((Below.refl w.heap.size w).alloc (Nat.le_refl _) _).grown HG.out (by simp) (fun k hk => by cases hk; exact Nat.le_refl _)
theorem clone22_some (ad : Addr) (c : Nat) (cs : List Value) (w : World) (hl : cs.length * 24 ≤ 140737488355328) (hc : ∀ j u, cs[j]? = some u → w.cell? (ad.add j) = some u) (h1 : ∀ u ∈ cs, u.oneCell' = true) :
    Calls Try.prog 34 #[.slice (some ad) cs.length c] w fun e w' => ∃ v, e = .returned v ∧ w'.ownsRow w.heap.size 26 1 v cs.length cs ∧ Below w.heap.size w w' := by
  have he : ∀ w, (binOp .eql 22 (.slice (some ad) cs.length c) (.slice none 0 0)).run Try.prog w = .ok (.bool false) w := fun w => Lib.run_eql_slice_nil (P := Try.prog) w 22 26 (some ad) cs.length c 0 0 Try.underlying22
  obtain ⟨i0, hi, hz0, hz1, hz2⟩ := info_parts info26
  have HC := Lib.hid hc
  have H1 := Lib.hid h1
  have HI := Lib.hid hi
  have HZ0 := Lib.hid hz0
  have HZ1 := Lib.hid hz1
  have HZ2 := Lib.hid hz2
  have HL := Lib.hid (World.ownsRow_lit (base := w.heap.size) (e := 26) (size := 1) w #[] 0 (Nat.le_refl _) (by simp [maxLen]) rfl)
  clear hc h1 hi hz0 hz1 hz2
  go_enter Try.func34, Try.ntmps34
  go_wp2_with (at_builtin; refine wpList_append_own _ rfl (.tmp 5) (.tmp 6) 22 rfl w.heap.size 26 i0 (.slice none 0 0) 1 24 Try.underlying22 HI.out HZ0.out HZ1.out HZ2.out rfl (by decide) _ 0 [] rfl HL.out ad cs.length c cs rfl ?d1 ?d2 H1.out ?d3 ?d4 ?d5 ?_; (case d1 => simp); (case d2 => exact fun j u hj => ((Below.refl w.heap.size w).alloc (Nat.le_refl _) _).cell (World.block_lt_of_cell? w _ (HC.out j u hj)) |>.trans (HC.out j u hj)); (case d3 => simp only [maxLen]; omega); (case d4 => omega); (case d5 => simp); intro v' w1 hown hgrow _; have HO := Lib.hid hown; have HG := Lib.hid hgrow; clear hown hgrow)
  go_ret
  refine ⟨v', rfl, by have := HO.out; rwa [Nat.zero_add, List.nil_append] at this, ?_⟩
  exact ((Below.refl w.heap.size w).alloc (Nat.le_refl _) _).grown HG.out (by simp) (fun k hk => by cases hk; exact Nat.le_refl _)

/-- What a cell becomes. -/
def nextV (c : Int) (cut : Bool) : Int := if c = 2 ∨ c = 3 then c else if cut = true then 1 else 2
def pulseL (l : List (List Int)) (a1 a2 : Int) (cut : Bool) : List (List Int) := l.set a1.toNat ((rd_L1 l a1).set a2.toNat (nextV (rd (rd_L1 l a1) a2) cut))
def fuse_Pulse.f (l0_0 : List (List Int)) (a1 : Int) (a2 : Int) (a3 : Bool) : Option (List (List Int) × Int) :=
  if 0 ≤ a1 ∧ a1 < (l0_0.length : Int) ∧ 0 ≤ a2 ∧ a2 < ((rd_L1 l0_0 a1).length : Int) then
    (if l0_0.length ≤ 4398046511104 ∧ (rd_L1 l0_0 a1).length ≤ 4398046511104 then some (pulseL l0_0 a1 a2 a3, 0) else none) else some (l0_0, 1)
theorem pulse_no (A : Option Addr) (c : Nat) (l0 : List (List Int)) (a1 a2 : Int) (a3 : Bool) (w : World) (hr : Kd.C (Kd.slice 5 (Kd.int .u8)) w A l0.length l0) (hc : l0.length ≤ c) (hne : ¬ (0 ≤ a1 ∧ a1 < (l0.length : Int) ∧ 0 ≤ a2 ∧ a2 < ((rd_L1 l0 a1).length : Int))) :
    Calls Try.prog 15 #[.agg #[.slice A l0.length c], .int .i64 a1, .int .i64 a2, .bool a3] w fun e w' => e = .returned (.tuple #[.agg #[.slice A l0.length c], .int .i64 1]) ∧ Below w.heap.size w w' := by
  have HR := Lib.hid hr
  have HD := Lib.hid (decide_eq_false hne)
  clear hr hne
  go_enter Try.func15, Try.ntmps15
  go_wp2_with fail
  refine (exists_any A c l0 a1 a2 _ (Kd.C_alloc (Kd.C_alloc HR.out _) _) hc).mono ?_
  rintro e W1 ⟨rfl, hB1⟩
  rw [HD.out]
  have hbx : W1.cell? ⟨w.heap.size, 0, none⟩ = some (.slice A l0.length c) := (hB1.cell (p := ⟨w.heap.size, 0, none⟩) (by simp; omega)).trans ((Boxed.new w 24 (.slice A l0.length c)).alloc _).cell
  have bN := Boxed.new (w.alloc (.cells #[.slice A l0.length c] 24)) 24 (.slice none 0 0)
  rw [World.size_alloc] at bN
  have hbr : W1.cell? ⟨w.heap.size + 1, 0, none⟩ = some (.slice none 0 0) := (hB1.cell (p := ⟨w.heap.size + 1, 0, none⟩) (by simp)).trans bN.cell
  have hfr : W1.frozen? ⟨w.heap.size + 1, 0, none⟩ = false := (hB1.frozen (p := ⟨w.heap.size + 1, 0, none⟩) (by simp)).trans bN.frozen
  have HB := Lib.hid (((Below.refl w.heap.size w).alloc (Nat.le_refl _) (.cells #[.slice A l0.length c] 24)).alloc (by simp) (.cells #[.slice none 0 0] 24) |>.trans (hB1.mono (by simp; omega)))
  clear hB1 bN
  go_wp2_with fail
  refine bodyPost_ret (v := .tuple #[.agg #[.slice A l0.length c], .int .i64 1]) ?_ rfl ⟨rfl, HB.out.setCell (p := ⟨w.heap.size + 1, 0, none⟩) (by simp) _⟩
  have hc := World.cell?_setCell_same' W1 ⟨w.heap.size + 1, 0, none⟩ (.slice A l0.length c) (by rw [hbr]; rfl)
  simp [results, Try.results15, go_sem, hc]
theorem cells_of_F {α : Type} {d : Kd α} (hd1 : d.sz = 1) {w : World} {P : Nat → Prop} {ad : Addr} {n : Nat} {xs : List α} (h : Kd.F d w P (some ad) n xs) :
    ∃ cs : List Value, cs.length = n ∧ (∀ j u, cs[j]? = some u → w.cell? (ad.add j) = some u) ∧ (∀ u ∈ cs, u.oneCell' = true) ∧ ∀ (j : Nat) (x : α) (u : Value), xs[j]? = some x → cs[j]? = some u → Kd.FK d w P x [u] := by
  obtain ⟨hl, _, hr⟩ := Kd.F_rows h
  have key : ∀ j : Fin n, ∃ u : Value, w.cell? (ad.add j.1) = some u ∧ u.oneCell' = true ∧ ∀ x, xs[j.1]? = some x → Kd.FK d w P x [u] := by
    intro j
    obtain ⟨ad', e, hc⟩ := hr (by have := j.2; omega)
    cases e
    obtain ⟨c, hcl, hk, hcell⟩ := hc j.1 (xs[j.1]'(by have := j.2; omega)) (List.getElem?_eq_getElem _)
    rw [hd1] at hcl
    match c, hcl with
    | [u], _ =>
      have h1 := hcell 0 u rfl
      rw [hd1, Nat.mul_one, Nat.add_zero] at h1
      refine ⟨u, h1, d.K_one (Kd.FK_now hk) u List.mem_cons_self, fun x hx => ?_⟩
      rw [List.getElem?_eq_getElem (by have := j.2; omega)] at hx
      cases hx
      exact hk
  obtain ⟨f, hf⟩ := Classical.axiomOfChoice key
  refine ⟨List.ofFn f, by simp, ?_, ?_, ?_⟩
  · intro j u hu
    obtain ⟨hj, e⟩ := List.getElem?_eq_some_iff.1 hu
    rw [List.getElem_ofFn] at e
    rw [← e]
    exact (hf ⟨j, by simpa using hj⟩).1
  · intro u hu
    obtain ⟨j, rfl⟩ := (List.mem_ofFn).1 hu
    exact (hf j).2.1
  · intro j x u hx hu
    obtain ⟨hj, e⟩ := List.getElem?_eq_some_iff.1 hu
    rw [List.getElem_ofFn] at e
    rw [← e]
    exact (hf ⟨j, by simpa using hj⟩).2.2 x hx
theorem V_of_cells {α : Type} {d : Kd α} (hd1 : d.sz = 1) {W : World} {base base' e g n cap : Nat} {ok : Nat → Prop} {xs : List α} {cs : List Value} (hl : xs.length = n) (hn : n ≤ 9223372036854775807) (ho : W.ownsRow base e 1 (.slice (some ⟨g, 0, none⟩) n cap) n cs) (hg : ok g)
    (hf : ∀ (j : Nat) (x : α) (u : Value), xs[j]? = some x → cs[j]? = some u → Kd.FK d W ok x [u]) : Kd.V d e W base' ok (.slice (some ⟨g, 0, none⟩) n cap) xs := by
  subst hl
  have hcap : xs.length ≤ cap := by
    rcases ho.2 with ⟨h, _⟩ | ⟨g', cap', cur, h, _, _, h3, _⟩
    · cases h
    · cases h; exact h3
  refine Kd.V_mk hcap (fun W' hW => ⟨rfl, hn, fun hp => ⟨⟨g, 0, none⟩, rfl, fun j p hj => ?_⟩⟩)
  have hjl : j < cs.length := by have := ho.1; have := (List.getElem?_eq_some_iff.1 hj).1; omega
  have hfk := hf j p cs[j] hj (List.getElem?_eq_getElem hjl)
  refine ⟨[cs[j]], by rw [hd1]; rfl, hfk W' hW, ?_⟩
  intro i u hi
  have hc := ho.cellAt j (by have := ho.1; omega)
  rw [List.getElem?_eq_getElem hjl] at hc
  have hlt := World.block_lt_of_cell? W _ hc
  obtain ⟨hi0, hu⟩ : i = 0 ∧ u = cs[j] := by
    cases i with
    | zero => exact ⟨rfl, by simpa using hi.symm⟩
    | succ i => simp at hi
  subst hi0
  rw [hu, hd1, Nat.mul_one, Nat.add_zero, add_plain, ← hc]
  exact World.cell?_of_block (w := W) (hW g hg hlt)
end Go.Proofs.Ytnobomefhpkicaa.P
