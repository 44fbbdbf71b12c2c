/- The law's sanity. -/
import Derived.Test.YtbgfkepnlpgagaaDoorV14
import Derived.Test.YtbgfkepnlpgagaaDoorP1
namespace Go.Proofs.YtbgfkepnlpgagaaDoor.P
open Go.RowKit Go.Proofs.YtbgfkepnlpgagaaDoorW.PrintWords Go.Proofs.YtbgfkepnlpgagaaDoorW.PrintLast Go.Proofs.YtbgfkepnlpgagaaDoorW.PrintMore
attribute [local go_sem] max2_int min2_int max_two min_two max_three min_three max_four min_four
set_option linter.unusedVariables false
set_option linter.unusedSimpArgs false

theorem ins_row (W : World) (l : List S42) (cells : Array Value) (hl : l.length ≤ 1000) (h : ∀ j x, l[j]? = some x → cells[j * 3]? = some (.int .i64 x.f0) ∧ cells[j * 3 + 1]? = some (.int .i64 x.f1) ∧ cells[j * 3 + 2]? = some (.int .i64 x.f2)) :
    Kd.C k42 (W.alloc (.cells cells 42)) (some ⟨W.heap.size, 0, none⟩) l.length l := by
  refine ⟨rfl, by omega, fun _ => ⟨_, rfl, fun j x hj => ⟨_, rfl, k42_mk _ x, ?_⟩⟩⟩
  obtain ⟨h0, h1, h2⟩ := h j x hj
  have hc : ∀ i, (W.alloc (.cells cells 42)).cell? ((⟨W.heap.size, 0, none⟩ : Addr).add i) = cells[i]? := by
    intro i
    rw [add_plain]
    exact (blk_cell (heap_alloc_new W (.cells cells 42)) i).trans rfl
  intro i u hi
  rw [hc]
  show cells[j * 3 + i]? = some u
  match i, hi with
  | 0, hi => rw [Nat.add_zero, h0]; exact hi
  | 1, hi => rw [h1]; exact hi
  | 2, hi => rw [h2]; exact hi
  | i + 3, hi => simp at hi
theorem lit_reads (W : World) (xs : List Int) (hm : xs.length ≤ 9223372036854775807) : Kd.C (Kd.int .i64) (W.alloc (.cells (n64 xs).toArray 3)) (some ⟨W.heap.size, 0, none⟩) xs.length xs := by
  have h := Kd.R_of_own (h1 := fun _ => rfl) (own_lit_of (enc := Value.int .i64) W W.heap.size 3 xs (Nat.le_refl _) hm) (ok := fun _ => True) (fun _ _ => trivial)
  obtain ⟨A, c, he, _, hr⟩ := Kd.R_reads h
  cases he
  exact hr
theorem nil_reads (W : World) : Kd.C (Kd.int .i64) W none 0 ([] : List Int) := ⟨rfl, Nat.zero_le _, fun h => absurd h (Nat.lt_irrefl _)⟩
theorem nil_ins (W : World) : Kd.C k42 W none 0 ([] : List S42) := ⟨rfl, Nat.zero_le _, fun h => absurd h (Nat.lt_irrefl _)⟩
def insA : List S42 := [⟨1, 65535, 0⟩, ⟨1, 2, 0⟩, ⟨4, 0, 0⟩, ⟨14, 0, 0⟩, ⟨16, 0, 0⟩]
def insD : List S42 := [⟨2, 0, 0⟩, ⟨12, 3, 0⟩, ⟨15, 7, 0⟩, ⟨16, 0, 0⟩]
set_option maxRecDepth 100000 in
theorem run_a : vm_Run.f insA 0 0 [] [] = some ([], [1], 0, 5, 0) := by decide +kernel
set_option maxRecDepth 100000 in
theorem run_b : vm_Run.f insD 1 1 [1] [] = some ([1], [], 7, 3, 0) := by decide +kernel
set_option maxRecDepth 100000 in
theorem run_g : vm_Run.f insD 1 1 [1] [0] = some ([2], [], 0, 3, 0) := by decide +kernel
set_option maxRecDepth 100000 in
theorem run_n : vm_Run.f [] 0 0 [] [] = some ([], [], 0, 0, 21) := by decide +kernel
set_option maxRecDepth 100000 in
theorem run_x : vm_Run.f insD 1 1 [1, 2] [] = some ([], [], 0, 0, 1) := by decide +kernel
theorem same_a : bootchainref17_Same.f 20 [] [1] 0 5 [] [1] 0 5 = some true := by decide +kernel
theorem same_b : bootchainref17_Same.f 20 [1] [] 7 3 [1] [] 7 3 = some true := by decide +kernel
theorem same_g : bootchainref17_Same.f 20 [2] [] 0 3 [2] [] 0 3 = some true := by decide +kernel
theorem ins_at (W : World) (b : Nat) (hb : W.heap.size = b) (l : List S42) (cells : Array Value) (hl : l.length ≤ 1000) (h : ∀ j x, l[j]? = some x → cells[j * 3]? = some (.int .i64 x.f0) ∧ cells[j * 3 + 1]? = some (.int .i64 x.f1) ∧ cells[j * 3 + 2]? = some (.int .i64 x.f2)) :
    Kd.C k42 (W.alloc (.cells cells 42)) (some ⟨b, 0, none⟩) l.length l := by subst hb; exact ins_row W l cells hl h
theorem lit_at (W : World) (b : Nat) (hb : W.heap.size = b) (xs : List Int) (hm : xs.length ≤ 9223372036854775807) : Kd.C (Kd.int .i64) (W.alloc (.cells (n64 xs).toArray 3)) (some ⟨b, 0, none⟩) xs.length xs := by subst hb; exact lit_reads W xs hm
theorem al1 (W : World) (o : Obj) : Below W.heap.size W (W.alloc o) := (Below.refl _ _).alloc (Nat.le_refl _) _
theorem al2 (W : World) (o p : Obj) : Below W.heap.size W ((W.alloc o).alloc p) := (al1 W o).alloc (by rw [World.size_alloc]; omega) _
theorem al3 (W : World) (o p q : Obj) : Below W.heap.size W (((W.alloc o).alloc p).alloc q) := (al2 W o p).alloc (by rw [World.size_alloc, World.size_alloc]; omega) _
theorem al4 (W : World) (o p q r : Obj) : Below W.heap.size W ((((W.alloc o).alloc p).alloc q).alloc r) := (al3 W o p q).alloc (by rw [World.size_alloc, World.size_alloc, World.size_alloc]; omega) _
theorem box_cell {W W' : World} {b t : Nat} {cs : Array Value} (h : W.heap[b]? = some (.cells cs t (0, 0))) (hb : Below W.heap.size W W') (i : Nat) : W'.cell? ⟨b, i, none⟩ = cs[i]? := blk_cell ((hb.block _ (blk_lt h)).trans h) i
set_option maxRecDepth 100000 in
set_option maxHeartbeats 4000000 in
theorem sanity_any (w : World) (htab : TabW w) : Calls Tryd.prog 9 #[] w fun e w' => e = .returned (.bool true) ∧ Below w.heap.size w w' := by
  have HT := Lib.hid htab
  clear htab
  have HB := Lib.hid (Below.refl w.heap.size w)
  go_enter Tryd.func9, Tryd.ntmps9
  go_wp2_with fail
  have hbe : Below w.heap.size w ((w.alloc (.cells #[.int .i64 1, .int .i64 65535, .int .i64 0, .int .i64 1, .int .i64 2, .int .i64 0, .int .i64 4, .int .i64 0, .int .i64 0, .int .i64 14, .int .i64 0, .int .i64 0, .int .i64 16, .int .i64 0, .int .i64 0] 42)).alloc (.cells #[.slice (some ⟨w.heap.size, 0, none⟩) 5 5, .int .i64 0, .int .i64 0] 24)) := ((Below.refl _ _).alloc (Nat.le_refl _) _).alloc (by rw [World.size_alloc]; omega) _
  refine (vm_Run.calls (some ⟨w.heap.size, 0, none⟩) 5 insA 0 0 none 0 [] none 0 [] [] [1] 0 5 0 _ (Kd.C_alloc (ins_row w insA _ (by decide) (by intro j x hj; match j, hj with | 0, hj => cases hj; exact ⟨rfl, rfl, rfl⟩ | 1, hj => cases hj; exact ⟨rfl, rfl, rfl⟩ | 2, hj => cases hj; exact ⟨rfl, rfl, rfl⟩ | 3, hj => cases hj; exact ⟨rfl, rfl, rfl⟩ | 4, hj => cases hj; exact ⟨rfl, rfl, rfl⟩ | j + 5, hj => simp [insA, insD] at hj)) _) (by decide) (nil_reads _) (by decide) (nil_reads _) (by decide) (HT.out.below hbe) run_a).mono ?_
  rintro e W1 ⟨u0, u1, rfl, hr0, hr1, hb⟩
  obtain ⟨A2, a2, rfl, ha2, hc2⟩ := Kd.R_reads hr0
  obtain ⟨A3, a3, rfl, ha3, hc3⟩ := Kd.R_reads hr1
  clear hr0 hr1
  have hBc : Below w.heap.size w W1 := hbe.trans (hb.mono hbe.size)
  have hx_ := Lib.hid (HB.out.trans (hBc.mono HB.out.size))
  clear HB
  have HB := hx_
  clear hx_ hBc
  clear hbe hb
  have HR_0 := Lib.hid hc2
  have HR_1 := Lib.hid hc3
  clear hc2 hc3
  go_wp2_with fail
  have hbe := al4 W1 (.cells #[.slice A2 0 a2, .slice A3 1 a3, .int .i64 0, .int .i64 5] 29) (.cells #[.int .i64 2, .int .i64 0, .int .i64 0, .int .i64 12, .int .i64 3, .int .i64 0, .int .i64 15, .int .i64 7, .int .i64 0, .int .i64 16, .int .i64 0, .int .i64 0] 42) (.cells #[.slice (some ⟨W1.heap.size + 1, 0, none⟩) 4 4, .int .i64 1, .int .i64 1] 24) (.cells #[.int .i64 1] 3)
  have hri : Kd.C k42 (((W1.alloc (.cells #[.slice A2 0 a2, .slice A3 1 a3, .int .i64 0, .int .i64 5] 29)).alloc (.cells #[.int .i64 2, .int .i64 0, .int .i64 0, .int .i64 12, .int .i64 3, .int .i64 0, .int .i64 15, .int .i64 7, .int .i64 0, .int .i64 16, .int .i64 0, .int .i64 0] 42)).alloc (.cells #[.slice (some ⟨W1.heap.size + 1, 0, none⟩) 4 4, .int .i64 1, .int .i64 1] 24)) (some ⟨W1.heap.size + 1, 0, none⟩) 4 insD := Kd.C_alloc (ins_at (W1.alloc (.cells #[.slice A2 0 a2, .slice A3 1 a3, .int .i64 0, .int .i64 5] 29)) _ (by rw [World.size_alloc]) insD _ (by decide) (by intro j x hj; match j, hj with | 0, hj => cases hj; exact ⟨rfl, rfl, rfl⟩ | 1, hj => cases hj; exact ⟨rfl, rfl, rfl⟩ | 2, hj => cases hj; exact ⟨rfl, rfl, rfl⟩ | 3, hj => cases hj; exact ⟨rfl, rfl, rfl⟩ | j + 4, hj => simp [insA, insD] at hj)) _
  refine (vm_Run.calls (some ⟨W1.heap.size + 1, 0, none⟩) 4 insD 1 1 (some ⟨W1.heap.size + 1 + 1 + 1, 0, none⟩) 1 [1] none 0 [] [1] [] 7 3 0 _ (Kd.C_alloc hri _) (by decide) (lit_at (((W1.alloc (.cells #[.slice A2 0 a2, .slice A3 1 a3, .int .i64 0, .int .i64 5] 29)).alloc (.cells #[.int .i64 2, .int .i64 0, .int .i64 0, .int .i64 12, .int .i64 3, .int .i64 0, .int .i64 15, .int .i64 7, .int .i64 0, .int .i64 16, .int .i64 0, .int .i64 0] 42)).alloc (.cells #[.slice (some ⟨W1.heap.size + 1, 0, none⟩) 4 4, .int .i64 1, .int .i64 1] 24)) _ (by rw [World.size_alloc, World.size_alloc, World.size_alloc]) [1] (by decide)) (by decide) (nil_reads _) (by decide) (HT.out.below (HB.out.trans (hbe.mono HB.out.size))) run_b).mono ?_
  rintro e W2 ⟨u0, u1, rfl, hr0, hr1, hb⟩
  obtain ⟨A4, a4, rfl, ha4, hc4⟩ := Kd.R_reads hr0
  obtain ⟨A5, a5, rfl, ha5, hc5⟩ := Kd.R_reads hr1
  clear hr0 hr1
  have hx2 : (((( W1.alloc (.cells #[.slice A2 0 a2, .slice A3 1 a3, .int .i64 0, .int .i64 5] 29)).alloc (.cells #[.int .i64 2, .int .i64 0, .int .i64 0, .int .i64 12, .int .i64 3, .int .i64 0, .int .i64 15, .int .i64 7, .int .i64 0, .int .i64 16, .int .i64 0, .int .i64 0] 42)).alloc (.cells #[.slice (some ⟨W1.heap.size + 1, 0, none⟩) 4 4, .int .i64 1, .int .i64 1] 24)).alloc (.cells #[.int .i64 1] 3)).heap[W1.heap.size]? = some (.cells #[.slice A2 0 a2, .slice A3 1 a3, .int .i64 0, .int .i64 5] 29) := by rw [Below.heap_alloc _ _ _ (by rw [World.size_alloc, World.size_alloc, World.size_alloc]; omega), Below.heap_alloc _ _ _ (by rw [World.size_alloc, World.size_alloc]; omega), Below.heap_alloc _ _ _ (by rw [World.size_alloc]; omega)]; exact heap_alloc_new _ _
  have hx4 : (((( W1.alloc (.cells #[.slice A2 0 a2, .slice A3 1 a3, .int .i64 0, .int .i64 5] 29)).alloc (.cells #[.int .i64 2, .int .i64 0, .int .i64 0, .int .i64 12, .int .i64 3, .int .i64 0, .int .i64 15, .int .i64 7, .int .i64 0, .int .i64 16, .int .i64 0, .int .i64 0] 42)).alloc (.cells #[.slice (some ⟨W1.heap.size + 1, 0, none⟩) 4 4, .int .i64 1, .int .i64 1] 24)).alloc (.cells #[.int .i64 1] 3)).heap[W1.heap.size + 1 + 1]? = some (.cells #[.slice (some ⟨W1.heap.size + 1, 0, none⟩) 4 4, .int .i64 1, .int .i64 1] 24) := by rw [Below.heap_alloc _ _ _ (by rw [World.size_alloc, World.size_alloc, World.size_alloc]; omega)]; have h := heap_alloc_new ((W1.alloc (.cells #[.slice A2 0 a2, .slice A3 1 a3, .int .i64 0, .int .i64 5] 29)).alloc (.cells #[.int .i64 2, .int .i64 0, .int .i64 0, .int .i64 12, .int .i64 3, .int .i64 0, .int .i64 15, .int .i64 7, .int .i64 0, .int .i64 16, .int .i64 0, .int .i64 0] 42)) (.cells #[.slice (some ⟨W1.heap.size + 1, 0, none⟩) 4 4, .int .i64 1, .int .i64 1] 24); rw [World.size_alloc, World.size_alloc] at h; exact h
  have HX_2 := Lib.hid ((hb.block _ (blk_lt hx2)).trans hx2)
  have HX_4 := Lib.hid ((hb.block _ (blk_lt hx4)).trans hx4)
  have HR_D := Lib.hid (Kd.C_below (Kd.C_alloc hri _) hb)
  clear hx2 hx4 hri
  have hBc : Below W1.heap.size W1 W2 := hbe.trans (hb.mono hbe.size)
  have hx_ := Lib.hid (Kd.C_below HR_0.out hBc)
  clear HR_0
  have HR_0 := hx_
  clear hx_
  have hx_ := Lib.hid (Kd.C_below HR_1.out hBc)
  clear HR_1
  have HR_1 := hx_
  clear hx_
  have hx_ := Lib.hid (HB.out.trans (hBc.mono HB.out.size))
  clear HB
  have HB := hx_
  clear hx_ hBc
  clear hbe hb
  have HR_2 := Lib.hid hc4
  have HR_3 := Lib.hid hc5
  clear hc4 hc5
  have hq0 : ∀ o, (W2.alloc o).cell? ⟨W1.heap.size + 1 + 1, 0, none⟩ = some (.slice (some ⟨W1.heap.size + 1, 0, none⟩) 4 4) := fun o => (box_cell HX_4.out (al1 W2 o) 0).trans rfl
  have hq1 : ∀ o, (W2.alloc o).cell? ⟨W1.heap.size + 1 + 1, 1, none⟩ = some (.int .i64 1) := fun o => (box_cell HX_4.out (al1 W2 o) 1).trans rfl
  have hq2 : ∀ o, (W2.alloc o).cell? ⟨W1.heap.size + 1 + 1, 2, none⟩ = some (.int .i64 1) := fun o => (box_cell HX_4.out (al1 W2 o) 2).trans rfl
  go_wp2_with fail
  clear hq0 hq1 hq2
  have hbe := al3 W2 (.cells #[.slice A4 1 a4, .slice A5 0 a5, .int .i64 7, .int .i64 3] 29) (.cells #[.int .i64 1] 3) (.cells #[.int .i64 0] 3)
  refine (vm_Run.calls (some ⟨W1.heap.size + 1, 0, none⟩) 4 insD 1 1 (some ⟨W2.heap.size + 1, 0, none⟩) 1 [1] (some ⟨W2.heap.size + 1 + 1, 0, none⟩) 1 [0] [2] [] 0 3 0 _ (Kd.C_below HR_D.out hbe) (by decide) (Kd.C_alloc (lit_at (W2.alloc (.cells #[.slice A4 1 a4, .slice A5 0 a5, .int .i64 7, .int .i64 3] 29)) _ (by rw [World.size_alloc]) [1] (by decide)) _) (by decide) (lit_at ((W2.alloc (.cells #[.slice A4 1 a4, .slice A5 0 a5, .int .i64 7, .int .i64 3] 29)).alloc (.cells #[.int .i64 1] 3)) _ (by rw [World.size_alloc, World.size_alloc]) [0] (by decide)) (by decide) (HT.out.below (HB.out.trans (hbe.mono HB.out.size))) run_g).mono ?_
  rintro e W3 ⟨u0, u1, rfl, hr0, hr1, hb⟩
  obtain ⟨A6, a6, rfl, ha6, hc6⟩ := Kd.R_reads hr0
  obtain ⟨A7, a7, rfl, ha7, hc7⟩ := Kd.R_reads hr1
  clear hr0 hr1
  have hx5 : (((W2.alloc (.cells #[.slice A4 1 a4, .slice A5 0 a5, .int .i64 7, .int .i64 3] 29)).alloc (.cells #[.int .i64 1] 3)).alloc (.cells #[.int .i64 0] 3)).heap[W2.heap.size]? = some (.cells #[.slice A4 1 a4, .slice A5 0 a5, .int .i64 7, .int .i64 3] 29) := by rw [Below.heap_alloc _ _ _ (by rw [World.size_alloc, World.size_alloc]; omega), Below.heap_alloc _ _ _ (by rw [World.size_alloc]; omega)]; exact heap_alloc_new _ _
  have HX_5 := Lib.hid ((hb.block _ (blk_lt hx5)).trans hx5)
  clear hx5
  have hBc : Below W2.heap.size W2 W3 := hbe.trans (hb.mono hbe.size)
  have hx_ := Lib.hid ((hBc.block _ (blk_lt HX_2.out)).trans HX_2.out)
  clear HX_2
  have HX_2 := hx_
  clear hx_
  have hx_ := Lib.hid ((hBc.block _ (blk_lt HX_4.out)).trans HX_4.out)
  clear HX_4
  have HX_4 := hx_
  clear hx_
  have hx_ := Lib.hid (Kd.C_below HR_0.out hBc)
  clear HR_0
  have HR_0 := hx_
  clear hx_
  have hx_ := Lib.hid (Kd.C_below HR_1.out hBc)
  clear HR_1
  have HR_1 := hx_
  clear hx_
  have hx_ := Lib.hid (Kd.C_below HR_2.out hBc)
  clear HR_2
  have HR_2 := hx_
  clear hx_
  have hx_ := Lib.hid (Kd.C_below HR_3.out hBc)
  clear HR_3
  have HR_3 := hx_
  clear hx_
  have hx_ := Lib.hid (Kd.C_below HR_D.out hBc)
  clear HR_D
  have HR_D := hx_
  clear hx_
  have hx_ := Lib.hid (HB.out.trans (hBc.mono HB.out.size))
  clear HB
  have HB := hx_
  clear hx_ hBc
  clear hbe hb
  have HR_4 := Lib.hid hc6
  have HR_5 := Lib.hid hc7
  clear hc6 hc7
  go_wp2_with fail
  have hbe := al1 W3 (.cells #[.slice A6 1 a6, .slice A7 0 a7, .int .i64 0, .int .i64 3] 29)
  refine (vm_Run.calls none 0 [] 0 0 none 0 [] none 0 [] [] [] 0 0 21 _ (nil_ins _) (by decide) (nil_reads _) (by decide) (nil_reads _) (by decide) (HT.out.below (HB.out.trans (hbe.mono HB.out.size))) run_n).mono ?_
  rintro e W4 ⟨u0, u1, rfl, hr0, hr1, hb⟩
  obtain ⟨A8, a8, rfl, ha8, hc8⟩ := Kd.R_reads hr0
  obtain ⟨A9, a9, rfl, ha9, hc9⟩ := Kd.R_reads hr1
  clear hr0 hr1
  have hx7 : (W3.alloc (.cells #[.slice A6 1 a6, .slice A7 0 a7, .int .i64 0, .int .i64 3] 29)).heap[W3.heap.size]? = some (.cells #[.slice A6 1 a6, .slice A7 0 a7, .int .i64 0, .int .i64 3] 29) := heap_alloc_new _ _
  have HX_7 := Lib.hid ((hb.block _ (blk_lt hx7)).trans hx7)
  clear hx7 hc8 hc9
  have hBc : Below W3.heap.size W3 W4 := hbe.trans (hb.mono hbe.size)
  have hx_ := Lib.hid ((hBc.block _ (blk_lt HX_2.out)).trans HX_2.out)
  clear HX_2
  have HX_2 := hx_
  clear hx_
  have hx_ := Lib.hid ((hBc.block _ (blk_lt HX_4.out)).trans HX_4.out)
  clear HX_4
  have HX_4 := hx_
  clear hx_
  have hx_ := Lib.hid ((hBc.block _ (blk_lt HX_5.out)).trans HX_5.out)
  clear HX_5
  have HX_5 := hx_
  clear hx_
  have hx_ := Lib.hid (Kd.C_below HR_0.out hBc)
  clear HR_0
  have HR_0 := hx_
  clear hx_
  have hx_ := Lib.hid (Kd.C_below HR_1.out hBc)
  clear HR_1
  have HR_1 := hx_
  clear hx_
  have hx_ := Lib.hid (Kd.C_below HR_2.out hBc)
  clear HR_2
  have HR_2 := hx_
  clear hx_
  have hx_ := Lib.hid (Kd.C_below HR_3.out hBc)
  clear HR_3
  have HR_3 := hx_
  clear hx_
  have hx_ := Lib.hid (Kd.C_below HR_D.out hBc)
  clear HR_D
  have HR_D := hx_
  clear hx_
  have hx_ := Lib.hid (Kd.C_below HR_4.out hBc)
  clear HR_4
  have HR_4 := hx_
  clear hx_
  have hx_ := Lib.hid (Kd.C_below HR_5.out hBc)
  clear HR_5
  have HR_5 := hx_
  clear hx_
  have hx_ := Lib.hid (HB.out.trans (hBc.mono HB.out.size))
  clear HB
  have HB := hx_
  clear hx_ hBc
  clear hbe hb
  have hq0 : ∀ o, (W4.alloc o).cell? ⟨W1.heap.size + 1 + 1, 0, none⟩ = some (.slice (some ⟨W1.heap.size + 1, 0, none⟩) 4 4) := fun o => (box_cell HX_4.out (al1 W4 o) 0).trans rfl
  have hq1 : ∀ o, (W4.alloc o).cell? ⟨W1.heap.size + 1 + 1, 1, none⟩ = some (.int .i64 1) := fun o => (box_cell HX_4.out (al1 W4 o) 1).trans rfl
  have hq2 : ∀ o, (W4.alloc o).cell? ⟨W1.heap.size + 1 + 1, 2, none⟩ = some (.int .i64 1) := fun o => (box_cell HX_4.out (al1 W4 o) 2).trans rfl
  go_wp2_with fail
  clear hq0 hq1 hq2
  have hbe := al2 W4 (.cells #[.slice A8 0 a8, .slice A9 0 a9, .int .i64 0, .int .i64 0] 29) (.cells #[.int .i64 1, .int .i64 2] 3)
  refine (vm_Run.calls (some ⟨W1.heap.size + 1, 0, none⟩) 4 insD 1 1 (some ⟨W4.heap.size + 1, 0, none⟩) 2 [1, 2] none 0 [] [] [] 0 0 1 _ (Kd.C_below HR_D.out hbe) (by decide) (lit_at (W4.alloc (.cells #[.slice A8 0 a8, .slice A9 0 a9, .int .i64 0, .int .i64 0] 29)) _ (by rw [World.size_alloc]) [1, 2] (by decide)) (by decide) (nil_reads _) (by decide) (HT.out.below (HB.out.trans (hbe.mono HB.out.size))) run_x).mono ?_
  rintro e W5 ⟨u0, u1, rfl, hr0, hr1, hb⟩
  obtain ⟨A10, a10, rfl, ha10, hc10⟩ := Kd.R_reads hr0
  obtain ⟨A11, a11, rfl, ha11, hc11⟩ := Kd.R_reads hr1
  clear hr0 hr1
  clear hc10 hc11
  have hBc : Below W4.heap.size W4 W5 := hbe.trans (hb.mono hbe.size)
  have hx_ := Lib.hid ((hBc.block _ (blk_lt HX_2.out)).trans HX_2.out)
  clear HX_2
  have HX_2 := hx_
  clear hx_
  have hx_ := Lib.hid ((hBc.block _ (blk_lt HX_4.out)).trans HX_4.out)
  clear HX_4
  have HX_4 := hx_
  clear hx_
  have hx_ := Lib.hid ((hBc.block _ (blk_lt HX_5.out)).trans HX_5.out)
  clear HX_5
  have HX_5 := hx_
  clear hx_
  have hx_ := Lib.hid ((hBc.block _ (blk_lt HX_7.out)).trans HX_7.out)
  clear HX_7
  have HX_7 := hx_
  clear hx_
  have hx_ := Lib.hid (Kd.C_below HR_0.out hBc)
  clear HR_0
  have HR_0 := hx_
  clear hx_
  have hx_ := Lib.hid (Kd.C_below HR_1.out hBc)
  clear HR_1
  have HR_1 := hx_
  clear hx_
  have hx_ := Lib.hid (Kd.C_below HR_2.out hBc)
  clear HR_2
  have HR_2 := hx_
  clear hx_
  have hx_ := Lib.hid (Kd.C_below HR_3.out hBc)
  clear HR_3
  have HR_3 := hx_
  clear hx_
  have hx_ := Lib.hid (Kd.C_below HR_D.out hBc)
  clear HR_D
  have HR_D := hx_
  clear hx_
  have hx_ := Lib.hid (Kd.C_below HR_4.out hBc)
  clear HR_4
  have HR_4 := hx_
  clear hx_
  have hx_ := Lib.hid (Kd.C_below HR_5.out hBc)
  clear HR_5
  have HR_5 := hx_
  clear hx_
  have hx_ := Lib.hid (HB.out.trans (hBc.mono HB.out.size))
  clear HB
  have HB := hx_
  clear hx_ hBc
  clear hbe hb
  have hq0 : ∀ o, (W5.alloc o).cell? ⟨W1.heap.size, 0, none⟩ = some (.slice A2 0 a2) := fun o => (box_cell HX_2.out (al1 W5 o) 0).trans rfl
  have hq1 : ∀ o, (W5.alloc o).cell? ⟨W1.heap.size, 1, none⟩ = some (.slice A3 1 a3) := fun o => (box_cell HX_2.out (al1 W5 o) 1).trans rfl
  have hq2 : ∀ o, (W5.alloc o).cell? ⟨W1.heap.size, 2, none⟩ = some (.int .i64 0) := fun o => (box_cell HX_2.out (al1 W5 o) 2).trans rfl
  have hq3 : ∀ o, (W5.alloc o).cell? ⟨W1.heap.size, 3, none⟩ = some (.int .i64 5) := fun o => (box_cell HX_2.out (al1 W5 o) 3).trans rfl
  go_wp2_with fail
  clear hq0 hq1 hq2 hq3
  have hbe := al2 W5 (.cells #[.slice A10 0 a10, .slice A11 0 a11, .int .i64 0, .int .i64 0] 29) (.cells #[.int .i64 1] 3)
  refine (bootchainref17_Same.calls 20 A2 a2 [] A3 a3 [1] 0 5 none 0 [] (some ⟨W5.heap.size + 1, 0, none⟩) 1 [1] 0 5 true _ (Kd.C_below HR_0.out hbe) ha2 (Kd.C_below HR_1.out hbe) ha3 (nil_reads _) (by decide) (lit_at (W5.alloc (.cells #[.slice A10 0 a10, .slice A11 0 a11, .int .i64 0, .int .i64 0] 29)) _ (by rw [World.size_alloc]) [1] (by decide)) (by decide) same_a).mono ?_
  rintro e W6 ⟨rfl, hb⟩
  have hBc : Below W5.heap.size W5 W6 := hbe.trans (hb.mono hbe.size)
  have hx_ := Lib.hid ((hBc.block _ (blk_lt HX_2.out)).trans HX_2.out)
  clear HX_2
  have HX_2 := hx_
  clear hx_
  have hx_ := Lib.hid ((hBc.block _ (blk_lt HX_4.out)).trans HX_4.out)
  clear HX_4
  have HX_4 := hx_
  clear hx_
  have hx_ := Lib.hid ((hBc.block _ (blk_lt HX_5.out)).trans HX_5.out)
  clear HX_5
  have HX_5 := hx_
  clear hx_
  have hx_ := Lib.hid ((hBc.block _ (blk_lt HX_7.out)).trans HX_7.out)
  clear HX_7
  have HX_7 := hx_
  clear hx_
  have hx_ := Lib.hid (Kd.C_below HR_0.out hBc)
  clear HR_0
  have HR_0 := hx_
  clear hx_
  have hx_ := Lib.hid (Kd.C_below HR_1.out hBc)
  clear HR_1
  have HR_1 := hx_
  clear hx_
  have hx_ := Lib.hid (Kd.C_below HR_2.out hBc)
  clear HR_2
  have HR_2 := hx_
  clear hx_
  have hx_ := Lib.hid (Kd.C_below HR_3.out hBc)
  clear HR_3
  have HR_3 := hx_
  clear hx_
  have hx_ := Lib.hid (Kd.C_below HR_D.out hBc)
  clear HR_D
  have HR_D := hx_
  clear hx_
  have hx_ := Lib.hid (Kd.C_below HR_4.out hBc)
  clear HR_4
  have HR_4 := hx_
  clear hx_
  have hx_ := Lib.hid (Kd.C_below HR_5.out hBc)
  clear HR_5
  have HR_5 := hx_
  clear hx_
  have hx_ := Lib.hid (HB.out.trans (hBc.mono HB.out.size))
  clear HB
  have HB := hx_
  clear hx_ hBc
  clear hbe hb
  have hq0 : W6.cell? ⟨W2.heap.size, 0, none⟩ = some (.slice A4 1 a4) := (blk_cell HX_5.out 0).trans rfl
  have hq1 : W6.cell? ⟨W2.heap.size, 1, none⟩ = some (.slice A5 0 a5) := (blk_cell HX_5.out 1).trans rfl
  have hq2 : W6.cell? ⟨W2.heap.size, 2, none⟩ = some (.int .i64 7) := (blk_cell HX_5.out 2).trans rfl
  have hq3 : W6.cell? ⟨W2.heap.size, 3, none⟩ = some (.int .i64 3) := (blk_cell HX_5.out 3).trans rfl
  go_wp2_with fail
  clear hq0 hq1 hq2 hq3
  have hbe := al1 W6 (.cells #[.int .i64 1] 3)
  refine (bootchainref17_Same.calls 20 A4 a4 [1] A5 a5 [] 7 3 (some ⟨W6.heap.size, 0, none⟩) 1 [1] none 0 [] 7 3 true _ (Kd.C_below HR_2.out hbe) ha4 (Kd.C_below HR_3.out hbe) ha5 (lit_reads W6 [1] (by decide)) (by decide) (nil_reads _) (by decide) same_b).mono ?_
  rintro e W7 ⟨rfl, hb⟩
  have hBc : Below W6.heap.size W6 W7 := hbe.trans (hb.mono hbe.size)
  have hx_ := Lib.hid ((hBc.block _ (blk_lt HX_2.out)).trans HX_2.out)
  clear HX_2
  have HX_2 := hx_
  clear hx_
  have hx_ := Lib.hid ((hBc.block _ (blk_lt HX_4.out)).trans HX_4.out)
  clear HX_4
  have HX_4 := hx_
  clear hx_
  have hx_ := Lib.hid ((hBc.block _ (blk_lt HX_5.out)).trans HX_5.out)
  clear HX_5
  have HX_5 := hx_
  clear hx_
  have hx_ := Lib.hid ((hBc.block _ (blk_lt HX_7.out)).trans HX_7.out)
  clear HX_7
  have HX_7 := hx_
  clear hx_
  have hx_ := Lib.hid (Kd.C_below HR_0.out hBc)
  clear HR_0
  have HR_0 := hx_
  clear hx_
  have hx_ := Lib.hid (Kd.C_below HR_1.out hBc)
  clear HR_1
  have HR_1 := hx_
  clear hx_
  have hx_ := Lib.hid (Kd.C_below HR_2.out hBc)
  clear HR_2
  have HR_2 := hx_
  clear hx_
  have hx_ := Lib.hid (Kd.C_below HR_3.out hBc)
  clear HR_3
  have HR_3 := hx_
  clear hx_
  have hx_ := Lib.hid (Kd.C_below HR_D.out hBc)
  clear HR_D
  have HR_D := hx_
  clear hx_
  have hx_ := Lib.hid (Kd.C_below HR_4.out hBc)
  clear HR_4
  have HR_4 := hx_
  clear hx_
  have hx_ := Lib.hid (Kd.C_below HR_5.out hBc)
  clear HR_5
  have HR_5 := hx_
  clear hx_
  have hx_ := Lib.hid (HB.out.trans (hBc.mono HB.out.size))
  clear HB
  have HB := hx_
  clear hx_ hBc
  clear hbe hb
  have hq0 : W7.cell? ⟨W3.heap.size, 0, none⟩ = some (.slice A6 1 a6) := (blk_cell HX_7.out 0).trans rfl
  have hq1 : W7.cell? ⟨W3.heap.size, 1, none⟩ = some (.slice A7 0 a7) := (blk_cell HX_7.out 1).trans rfl
  have hq2 : W7.cell? ⟨W3.heap.size, 2, none⟩ = some (.int .i64 0) := (blk_cell HX_7.out 2).trans rfl
  have hq3 : W7.cell? ⟨W3.heap.size, 3, none⟩ = some (.int .i64 3) := (blk_cell HX_7.out 3).trans rfl
  go_wp2_with fail
  clear hq0 hq1 hq2 hq3
  have hbe := al1 W7 (.cells #[.int .i64 2] 3)
  refine (bootchainref17_Same.calls 20 A6 a6 [2] A7 a7 [] 0 3 (some ⟨W7.heap.size, 0, none⟩) 1 [2] none 0 [] 0 3 true _ (Kd.C_below HR_4.out hbe) ha6 (Kd.C_below HR_5.out hbe) ha7 (lit_reads W7 [2] (by decide)) (by decide) (nil_reads _) (by decide) same_g).mono ?_
  rintro e W8 ⟨rfl, hb⟩
  have hBc : Below W7.heap.size W7 W8 := hbe.trans (hb.mono hbe.size)
  have hx_ := Lib.hid ((hBc.block _ (blk_lt HX_2.out)).trans HX_2.out)
  clear HX_2
  have HX_2 := hx_
  clear hx_
  have hx_ := Lib.hid ((hBc.block _ (blk_lt HX_4.out)).trans HX_4.out)
  clear HX_4
  have HX_4 := hx_
  clear hx_
  have hx_ := Lib.hid ((hBc.block _ (blk_lt HX_5.out)).trans HX_5.out)
  clear HX_5
  have HX_5 := hx_
  clear hx_
  have hx_ := Lib.hid ((hBc.block _ (blk_lt HX_7.out)).trans HX_7.out)
  clear HX_7
  have HX_7 := hx_
  clear hx_
  have hx_ := Lib.hid (Kd.C_below HR_0.out hBc)
  clear HR_0
  have HR_0 := hx_
  clear hx_
  have hx_ := Lib.hid (Kd.C_below HR_1.out hBc)
  clear HR_1
  have HR_1 := hx_
  clear hx_
  have hx_ := Lib.hid (Kd.C_below HR_2.out hBc)
  clear HR_2
  have HR_2 := hx_
  clear hx_
  have hx_ := Lib.hid (Kd.C_below HR_3.out hBc)
  clear HR_3
  have HR_3 := hx_
  clear hx_
  have hx_ := Lib.hid (Kd.C_below HR_D.out hBc)
  clear HR_D
  have HR_D := hx_
  clear hx_
  have hx_ := Lib.hid (Kd.C_below HR_4.out hBc)
  clear HR_4
  have HR_4 := hx_
  clear hx_
  have hx_ := Lib.hid (Kd.C_below HR_5.out hBc)
  clear HR_5
  have HR_5 := hx_
  clear hx_
  have hx_ := Lib.hid (HB.out.trans (hBc.mono HB.out.size))
  clear HB
  have HB := hx_
  clear hx_ hBc
  clear hbe hb
  go_wp2_with fail
  go_ret
  exact ⟨rfl, HB.out⟩
def bootchainlaw17_sanity.f : Option Bool := some true
theorem bootchainlaw17_sanity.calls (r : Bool) (w : World) (htab : TabW w) (h : bootchainlaw17_sanity.f = some r) :
    Calls Tryd.prog 9 #[] w fun e w' => e = .returned (.bool r) ∧ Below w.heap.size w w' := by
  obtain rfl := Option.some.inj h
  exact sanity_any w htab
end Go.Proofs.YtbgfkepnlpgagaaDoor.P
