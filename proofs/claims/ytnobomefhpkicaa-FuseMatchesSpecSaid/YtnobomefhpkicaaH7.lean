import Derived.Test.YtnobomefhpkicaaP1
import Derived.Test.YtnobomefhpkicaaH4
namespace Go.Proofs.Ytnobomefhpkicaa.P
open Go.RowKit Go.Proofs.YtnobomefhpkicaaW.PrintWords Go.Proofs.YtnobomefhpkicaaW.PrintLast Go.Proofs.YtnobomefhpkicaaW.PrintMore
set_option linter.unusedVariables false
set_option linter.unusedSimpArgs false

theorem lit_reads {α : Type} {enc : α → Value} {h1 : ∀ x, (enc x).oneCell' = true} (W : World) (e : Nat) (xs : List α) (hm : xs.length ≤ 9223372036854775807) :
    (Kd.scalar enc h1).C (W.alloc (.cells (encs enc xs).toArray e)) (some ⟨W.heap.size, 0, none⟩) xs.length xs := by
  have h := Kd.R_of_own (h1 := h1) (own_lit_of (enc := enc) W W.heap.size e xs (Nat.le_refl _) hm) (ok := fun _ => True) (fun _ _ => trivial)
  obtain ⟨A, c, he, _, hr⟩ := Kd.R_reads h
  cases he
  exact hr
theorem V_of_C {W : World} {A : Option Addr} {c : Nat} {l : List (List Int)} (hr : Kd.C (Kd.slice 5 (Kd.int .u8)) W A l.length l) (hc : l.length ≤ c) :
    Kd.V (Kd.slice 5 (Kd.int .u8)) 26 W W.heap.size (fun k => k < W.heap.size) (.slice A l.length c) l :=
  Kd.V_mk hc (Kd.C_F (Kd.heap_slice 5 (Kd.heap_int .u8)) hr)
/-- A literal of hits, read. -/
theorem hit_row (W : World) (l : List S47) (cells : Array Value) (hl : l.length ≤ 1000) (h : ∀ j x, l[j]? = some x → cells[j * 3]? = some (.int .i64 x.f0) ∧ cells[j * 3 + 1]? = some (.int .i64 x.f1) ∧ cells[j * 3 + 2]? = some (.bool x.f2)) :
    Kd.C k47 (W.alloc (.cells cells 47)) (some ⟨W.heap.size, 0, none⟩) l.length l := by
  refine ⟨rfl, by omega, fun _ => ⟨_, rfl, fun j x hj => ⟨_, rfl, k47_mk _ x, ?_⟩⟩⟩
  obtain ⟨h0, h1, h2⟩ := h j x hj
  have hc : ∀ i, (W.alloc (.cells cells 47)).cell? ((⟨W.heap.size, 0, none⟩ : Addr).add i) = cells[i]? := by
    intro i
    rw [add_plain]
    exact (blk_cell (heap_alloc_new W (.cells cells 47)) i).trans rfl
  intro i u hi
  rw [hc]
  show cells[j * 3 + i]? = some u
  match i, hi with
  | 0, hi => rw [Nat.add_zero, h0]; exact hi
  | 1, hi => rw [h1]; exact hi
  | 2, hi => rw [h2]; exact hi
  | i + 3, hi => simp at hi
def fS : List (List Int) := [[0, 0, 0, 0, 0, 0], []]
def gS : List (List Int) := [[2, 1, 0, 0, 0, 0], []]
def hS : List (List Int) := [[2, 1, 2, 0, 0, 0], []]
theorem new_f : fuse_New.f 20 [2, 0] = some (fS, 0) := by decide +kernel
theorem new_no : fuse_New.f 20 [17] = some ([], 1) := by decide +kernel
theorem hits_g : bootchainlaw07_hits.f 20 fS [⟨0, 0, false⟩, ⟨0, 1, true⟩, ⟨0, 1, true⟩] = some gS := by decide +kernel
theorem hits_h : bootchainlaw07_hits.f 20 gS [⟨0, 2, false⟩] = some hS := by decide +kernel
theorem lit2_reads (W : World) (xs : List Int) (hm : xs.length ≤ 1000) :
    Kd.C (Kd.slice 5 (Kd.int .u8)) ((W.alloc (.cells (encs (Value.int .u8) xs).toArray 5)).alloc (.cells #[.slice (some ⟨W.heap.size, 0, none⟩) xs.length xs.length] 26)) (some ⟨W.heap.size + 1, 0, none⟩) 1 [xs] := by
  have h0 := lit_reads (enc := Value.int .u8) (h1 := fun _ => rfl) W 5 xs (by omega)
  refine ⟨rfl, by omega, fun _ => ⟨_, rfl, fun j x hj => ?_⟩⟩
  have hj0 : j = 0 := by have := (List.getElem?_eq_some_iff.1 hj).1; simp at this; omega
  subst hj0
  cases hj
  refine ⟨[.slice (some ⟨W.heap.size, 0, none⟩) xs.length xs.length], rfl, ⟨_, _, rfl, Nat.le_refl _, Kd.C_alloc h0 _⟩, ?_⟩
  intro i u hi
  have hi0 : i = 0 := by have := (List.getElem?_eq_some_iff.1 hi).1; simp at this; omega
  subst hi0
  cases hi
  have hh := heap_alloc_new (W.alloc (.cells (encs (Value.int .u8) xs).toArray 5)) (.cells #[.slice (some ⟨W.heap.size, 0, none⟩) xs.length xs.length] 26)
  rw [World.size_alloc] at hh
  rw [add_plain]
  exact (blk_cell hh 0).trans rfl
theorem read_1 : fuse_Read.f gS 0 1 true = some (1, 0) := by decide +kernel
theorem read_2 : fuse_Read.f gS 0 1 false = some (0, 0) := by decide +kernel
theorem read_3 : fuse_Read.f gS 1 0 true = some (0, 1) := by decide +kernel
theorem width_1 : fuse_Width.f fS 0 = some 2 := by decide +kernel
theorem width_2 : fuse_Width.f fS 2 = some (-1) := by decide +kernel
theorem least_f : fuse_Least.f fS 0 = some 0 := by decide +kernel
theorem most_f : fuse_Most.f fS 0 = some 0 := by decide +kernel
theorem least_g : fuse_Least.f gS 0 = some 0 := by decide +kernel
theorem most_g : fuse_Most.f gS 0 = some 1 := by decide +kernel
theorem least_h : fuse_Least.f hS 0 = some 1 := by decide +kernel
theorem valid_h : fuse_Valid.f hS = some true := by decide +kernel
theorem sound_h : fuse_Sound.f hS = some true := by decide +kernel
theorem sound_x : fuse_Sound.f [[3, 3, 0]] = some false := by decide +kernel
theorem valid_x : fuse_Valid.f [[4, 0, 0]] = some false := by decide +kernel
set_option maxRecDepth 100000 in
set_option maxHeartbeats 8000000 in
theorem sanity_any (w : World) : Calls Try.prog 10 #[] w fun e w' => e = .returned (.bool true) ∧ Below w.heap.size w w' := by
  have HB := Lib.hid (Below.refl w.heap.size w)
  go_enter Try.func10, Try.ntmps10
  go_wp2_with fail
  refine (fuse_New.calls 20 (some ⟨w.heap.size, 0, none⟩) 2 [2, 0] fS 0 _ (lit_reads (enc := Value.int .i64) (h1 := fun _ => rfl) w 3 [2, 0] (by decide)) (by decide) new_f).mono ?_
  rintro e W1 ⟨v1, rfl, hS, hB1⟩
  obtain ⟨A1, c1, rfl, hc1, hr1⟩ := Kd.S_reads hS
  clear hS
  have hBc : Below w.heap.size w W1 := ((Below.refl w.heap.size w).alloc (Nat.le_refl _) _).trans (hB1.mono (by simp))
  have HBx := Lib.hid (HB.out.trans (hBc.mono HB.out.size))
  clear HB
  have HB := HBx
  clear HBx hBc
  clear hB1
  have HR1 := Lib.hid hr1
  clear hr1
  go_wp2_with fail
  refine (fuse_New.calls 20 (some ⟨W1.heap.size + 1, 0, none⟩) 1 [17] [] 1 _ (by have h := lit_reads (enc := Value.int .i64) (h1 := fun _ => rfl) (W1.alloc (.cells #[.slice A1 fS.length c1] 24)) 3 [17] (by decide); rw [World.size_alloc] at h; exact h) (by decide) new_no).mono ?_
  rintro e W2 ⟨v2, rfl, hS, hB2⟩
  obtain ⟨A2, c2, rfl, hc2, hr2⟩ := Kd.S_reads hS
  clear hS hr2
  have hc_f : W2.cell? ⟨W1.heap.size, 0, none⟩ = some (.slice A1 fS.length c1) := (hB2.cell (p := ⟨W1.heap.size, 0, none⟩) (by simp; omega)).trans ((Boxed.new W1 24 (.slice A1 fS.length c1)).alloc _).cell
  have hBc : Below W1.heap.size W1 W2 := (((Below.refl W1.heap.size W1).alloc (Nat.le_refl _) _).alloc (by simp) _).trans (hB2.mono (by simp; omega))
  have HR_f := Lib.hid (Kd.C_below HR1.out hBc)
  have hl_f : W1.heap.size < W2.heap.size := by have := hB2.size; simp at this; omega
  have HBx := Lib.hid (HB.out.trans (hBc.mono HB.out.size))
  clear HB
  have HB := HBx
  clear HBx hBc hB2 HR1
  have ha_f : ∀ o, (W2.alloc o).cell? ⟨W1.heap.size, 0, none⟩ = some (.slice A1 fS.length c1) := fun o => (((Below.refl W2.heap.size W2).alloc (Nat.le_refl _) o).cell (p := ⟨W1.heap.size, 0, none⟩) hl_f).trans hc_f
  go_wp2_with fail
  clear ha_f
  refine (bootchainlaw07_hits.calls 20 (fun k => k < _) A1 c1 fS (some ⟨W2.heap.size + 1, 0, none⟩) 3 [⟨0, 0, false⟩, ⟨0, 1, true⟩, ⟨0, 1, true⟩] gS _ (V_of_C (Kd.C_alloc (Kd.C_alloc HR_f.out _) _) hc1) (by have h := hit_row (W2.alloc (.cells #[.slice A2 0 c2] 24)) [⟨0, 0, false⟩, ⟨0, 1, true⟩, ⟨0, 1, true⟩] #[.int .i64 0, .int .i64 0, .bool false, .int .i64 0, .int .i64 1, .bool true, .int .i64 0, .int .i64 1, .bool true] (by decide) (by intro j x hj; match j, hj with | 0, hj => cases hj; exact ⟨rfl, rfl, rfl⟩ | 1, hj => cases hj; exact ⟨rfl, rfl, rfl⟩ | 2, hj => cases hj; exact ⟨rfl, rfl, rfl⟩ | j + 3, hj => simp at hj); rw [World.size_alloc] at h; exact h) (by decide) hits_g).mono ?_
  rintro e W3 ⟨v3, rfl, hV, hB3⟩
  obtain ⟨A3, c3, rfl⟩ := Kd.V_slice hV
  obtain ⟨_, hc3, hr3⟩ := Kd.V_reads' hV
  clear hV
  have HR3 := Lib.hid hr3
  clear hr3
  have hBc : Below W2.heap.size W2 W3 := (((Below.refl W2.heap.size W2).alloc (Nat.le_refl _) _).alloc (by simp) _).trans (hB3.mono (by simp; omega))
  have hcx := (hBc.cell (p := ⟨W1.heap.size, 0, none⟩) hl_f).trans hc_f
  clear hc_f
  have hc_f := hcx
  clear hcx
  have HRx := Lib.hid (Kd.C_below HR_f.out hBc)
  clear HR_f
  have HR_f := HRx
  clear HRx
  have hlx : W1.heap.size < W3.heap.size := by have := hBc.size; omega
  clear hl_f
  have hl_f := hlx
  clear hlx
  have HBx := Lib.hid (HB.out.trans (hBc.mono HB.out.size))
  clear HB
  have HB := HBx
  clear HBx hBc
  clear hB3
  go_wp2_with fail
  refine (bootchainlaw07_hits.calls 20 (fun k => k < _) A3 c3 gS (some ⟨W3.heap.size + 1, 0, none⟩) 1 [⟨0, 2, false⟩] hS _ (V_of_C (Kd.C_alloc (Kd.C_alloc HR3.out _) _) hc3) (by have h := hit_row (W3.alloc (.cells #[.slice A3 gS.length c3] 24)) [⟨0, 2, false⟩] #[.int .i64 0, .int .i64 2, .bool false] (by decide) (by intro j x hj; match j, hj with | 0, hj => cases hj; exact ⟨rfl, rfl, rfl⟩ | j + 1, hj => simp at hj); rw [World.size_alloc] at h; exact h) (by decide) hits_h).mono ?_
  rintro e W4 ⟨v4, rfl, hV, hB4⟩
  obtain ⟨A4, c4, rfl⟩ := Kd.V_slice hV
  obtain ⟨_, hc4, hr4⟩ := Kd.V_reads' hV
  clear hV
  have HR4 := Lib.hid hr4
  clear hr4
  have hc_g : W4.cell? ⟨W3.heap.size, 0, none⟩ = some (.slice A3 gS.length c3) := (hB4.cell (p := ⟨W3.heap.size, 0, none⟩) (by simp; omega)).trans ((Boxed.new W3 24 (.slice A3 gS.length c3)).alloc _).cell
  have HR_g := Lib.hid (Kd.C_below (Kd.C_alloc (Kd.C_alloc HR3.out _) _) hB4)
  have hl_g : W3.heap.size < W4.heap.size := by have := hB4.size; simp at this; omega
  clear HR3
  have hBc : Below W3.heap.size W3 W4 := (((Below.refl W3.heap.size W3).alloc (Nat.le_refl _) _).alloc (by simp) _).trans (hB4.mono (by simp; omega))
  have hcx := (hBc.cell (p := ⟨W1.heap.size, 0, none⟩) hl_f).trans hc_f
  clear hc_f
  have hc_f := hcx
  clear hcx
  have HRx := Lib.hid (Kd.C_below HR_f.out hBc)
  clear HR_f
  have HR_f := HRx
  clear HRx
  have hlx : W1.heap.size < W4.heap.size := by have := hBc.size; omega
  clear hl_f
  have hl_f := hlx
  clear hlx
  have HBx := Lib.hid (HB.out.trans (hBc.mono HB.out.size))
  clear HB
  have HB := HBx
  clear HBx hBc
  clear hB4
  have ha_f : ∀ o, (W4.alloc o).cell? ⟨W1.heap.size, 0, none⟩ = some (.slice A1 fS.length c1) := fun o => (((Below.refl W4.heap.size W4).alloc (Nat.le_refl _) o).cell (p := ⟨W1.heap.size, 0, none⟩) hl_f).trans hc_f
  have ha_g : ∀ o, (W4.alloc o).cell? ⟨W3.heap.size, 0, none⟩ = some (.slice A3 gS.length c3) := fun o => (((Below.refl W4.heap.size W4).alloc (Nat.le_refl _) o).cell (p := ⟨W3.heap.size, 0, none⟩) hl_g).trans hc_g
  go_wp2_with fail
  clear ha_f ha_g
  refine (fuse_Read.calls A3 c3 gS 0 1 true 1 0 _ (Kd.C_alloc HR_g.out _) hc3 read_1).mono ?_
  rintro e W5 ⟨rfl, hB5⟩
  have hc_h : W5.cell? ⟨W4.heap.size, 0, none⟩ = some (.slice A4 hS.length c4) := (hB5.cell (p := ⟨W4.heap.size, 0, none⟩) (by simp)).trans (Boxed.new W4 24 (.slice A4 hS.length c4)).cell
  have HR_h := Lib.hid (Kd.C_below (Kd.C_alloc HR4.out _) hB5)
  have hl_h : W4.heap.size < W5.heap.size := by have := hB5.size; simp at this; omega
  clear HR4
  have hBc : Below W4.heap.size W4 W5 := ((Below.refl W4.heap.size W4).alloc (Nat.le_refl _) _).trans (hB5.mono (by simp))
  have hcx := (hBc.cell (p := ⟨W1.heap.size, 0, none⟩) hl_f).trans hc_f
  clear hc_f
  have hc_f := hcx
  clear hcx
  have HRx := Lib.hid (Kd.C_below HR_f.out hBc)
  clear HR_f
  have HR_f := HRx
  clear HRx
  have hlx : W1.heap.size < W5.heap.size := by have := hBc.size; omega
  clear hl_f
  have hl_f := hlx
  clear hlx
  have hcx := (hBc.cell (p := ⟨W3.heap.size, 0, none⟩) hl_g).trans hc_g
  clear hc_g
  have hc_g := hcx
  clear hcx
  have HRx := Lib.hid (Kd.C_below HR_g.out hBc)
  clear HR_g
  have HR_g := HRx
  clear HRx
  have hlx : W3.heap.size < W5.heap.size := by have := hBc.size; omega
  clear hl_g
  have hl_g := hlx
  clear hlx
  have HBx := Lib.hid (HB.out.trans (hBc.mono HB.out.size))
  clear HB
  have HB := HBx
  clear HBx hBc
  clear hB5
  go_wp2_with fail
  refine (fuse_Read.calls A3 c3 gS 0 1 false 0 0 _ HR_g.out hc3 read_2).mono ?_
  rintro e W6 ⟨rfl, hBn⟩
  have hBc : Below W5.heap.size W5 W6 := hBn
  have hcx := (hBc.cell (p := ⟨W1.heap.size, 0, none⟩) hl_f).trans hc_f
  clear hc_f
  have hc_f := hcx
  clear hcx
  have HRx := Lib.hid (Kd.C_below HR_f.out hBc)
  clear HR_f
  have HR_f := HRx
  clear HRx
  have hlx : W1.heap.size < W6.heap.size := by have := hBc.size; omega
  clear hl_f
  have hl_f := hlx
  clear hlx
  have hcx := (hBc.cell (p := ⟨W3.heap.size, 0, none⟩) hl_g).trans hc_g
  clear hc_g
  have hc_g := hcx
  clear hcx
  have HRx := Lib.hid (Kd.C_below HR_g.out hBc)
  clear HR_g
  have HR_g := HRx
  clear HRx
  have hlx : W3.heap.size < W6.heap.size := by have := hBc.size; omega
  clear hl_g
  have hl_g := hlx
  clear hlx
  have hcx := (hBc.cell (p := ⟨W4.heap.size, 0, none⟩) hl_h).trans hc_h
  clear hc_h
  have hc_h := hcx
  clear hcx
  have HRx := Lib.hid (Kd.C_below HR_h.out hBc)
  clear HR_h
  have HR_h := HRx
  clear HRx
  have hlx : W4.heap.size < W6.heap.size := by have := hBc.size; omega
  clear hl_h
  have hl_h := hlx
  clear hlx
  have HBx := Lib.hid (HB.out.trans (hBc.mono HB.out.size))
  clear HB
  have HB := HBx
  clear HBx hBc
  clear hBn
  go_wp2_with fail
  refine (fuse_Read.calls A3 c3 gS 1 0 true 0 1 _ HR_g.out hc3 read_3).mono ?_
  rintro e W7 ⟨rfl, hBn⟩
  have hBc : Below W6.heap.size W6 W7 := hBn
  have hcx := (hBc.cell (p := ⟨W1.heap.size, 0, none⟩) hl_f).trans hc_f
  clear hc_f
  have hc_f := hcx
  clear hcx
  have HRx := Lib.hid (Kd.C_below HR_f.out hBc)
  clear HR_f
  have HR_f := HRx
  clear HRx
  have hlx : W1.heap.size < W7.heap.size := by have := hBc.size; omega
  clear hl_f
  have hl_f := hlx
  clear hlx
  have hcx := (hBc.cell (p := ⟨W3.heap.size, 0, none⟩) hl_g).trans hc_g
  clear hc_g
  have hc_g := hcx
  clear hcx
  have HRx := Lib.hid (Kd.C_below HR_g.out hBc)
  clear HR_g
  have HR_g := HRx
  clear HRx
  have hlx : W3.heap.size < W7.heap.size := by have := hBc.size; omega
  clear hl_g
  have hl_g := hlx
  clear hlx
  have hcx := (hBc.cell (p := ⟨W4.heap.size, 0, none⟩) hl_h).trans hc_h
  clear hc_h
  have hc_h := hcx
  clear hcx
  have HRx := Lib.hid (Kd.C_below HR_h.out hBc)
  clear HR_h
  have HR_h := HRx
  clear HRx
  have hlx : W4.heap.size < W7.heap.size := by have := hBc.size; omega
  clear hl_h
  have hl_h := hlx
  clear hlx
  have HBx := Lib.hid (HB.out.trans (hBc.mono HB.out.size))
  clear HB
  have HB := HBx
  clear HBx hBc
  clear hBn
  go_wp2_with fail
  refine (fuse_Width.calls A1 c1 fS 0 2 _ HR_f.out hc1 width_1).mono ?_
  rintro e W8 ⟨rfl, hBn⟩
  have hBc : Below W7.heap.size W7 W8 := hBn
  have hcx := (hBc.cell (p := ⟨W1.heap.size, 0, none⟩) hl_f).trans hc_f
  clear hc_f
  have hc_f := hcx
  clear hcx
  have HRx := Lib.hid (Kd.C_below HR_f.out hBc)
  clear HR_f
  have HR_f := HRx
  clear HRx
  have hlx : W1.heap.size < W8.heap.size := by have := hBc.size; omega
  clear hl_f
  have hl_f := hlx
  clear hlx
  have hcx := (hBc.cell (p := ⟨W3.heap.size, 0, none⟩) hl_g).trans hc_g
  clear hc_g
  have hc_g := hcx
  clear hcx
  have HRx := Lib.hid (Kd.C_below HR_g.out hBc)
  clear HR_g
  have HR_g := HRx
  clear HRx
  have hlx : W3.heap.size < W8.heap.size := by have := hBc.size; omega
  clear hl_g
  have hl_g := hlx
  clear hlx
  have hcx := (hBc.cell (p := ⟨W4.heap.size, 0, none⟩) hl_h).trans hc_h
  clear hc_h
  have hc_h := hcx
  clear hcx
  have HRx := Lib.hid (Kd.C_below HR_h.out hBc)
  clear HR_h
  have HR_h := HRx
  clear HRx
  have hlx : W4.heap.size < W8.heap.size := by have := hBc.size; omega
  clear hl_h
  have hl_h := hlx
  clear hlx
  have HBx := Lib.hid (HB.out.trans (hBc.mono HB.out.size))
  clear HB
  have HB := HBx
  clear HBx hBc
  clear hBn
  go_wp2_with fail
  refine (fuse_Width.calls A1 c1 fS 2 (-1) _ HR_f.out hc1 width_2).mono ?_
  rintro e W9 ⟨rfl, hBn⟩
  have hBc : Below W8.heap.size W8 W9 := hBn
  have hcx := (hBc.cell (p := ⟨W1.heap.size, 0, none⟩) hl_f).trans hc_f
  clear hc_f
  have hc_f := hcx
  clear hcx
  have HRx := Lib.hid (Kd.C_below HR_f.out hBc)
  clear HR_f
  have HR_f := HRx
  clear HRx
  have hlx : W1.heap.size < W9.heap.size := by have := hBc.size; omega
  clear hl_f
  have hl_f := hlx
  clear hlx
  have hcx := (hBc.cell (p := ⟨W3.heap.size, 0, none⟩) hl_g).trans hc_g
  clear hc_g
  have hc_g := hcx
  clear hcx
  have HRx := Lib.hid (Kd.C_below HR_g.out hBc)
  clear HR_g
  have HR_g := HRx
  clear HRx
  have hlx : W3.heap.size < W9.heap.size := by have := hBc.size; omega
  clear hl_g
  have hl_g := hlx
  clear hlx
  have hcx := (hBc.cell (p := ⟨W4.heap.size, 0, none⟩) hl_h).trans hc_h
  clear hc_h
  have hc_h := hcx
  clear hcx
  have HRx := Lib.hid (Kd.C_below HR_h.out hBc)
  clear HR_h
  have HR_h := HRx
  clear HRx
  have hlx : W4.heap.size < W9.heap.size := by have := hBc.size; omega
  clear hl_h
  have hl_h := hlx
  clear hlx
  have HBx := Lib.hid (HB.out.trans (hBc.mono HB.out.size))
  clear HB
  have HB := HBx
  clear HBx hBc
  clear hBn
  go_wp2_with fail
  refine (fuse_Least.calls A1 c1 fS 0 0 _ HR_f.out hc1 least_f).mono ?_
  rintro e W10 ⟨rfl, hBn⟩
  have hBc : Below W9.heap.size W9 W10 := hBn
  have hcx := (hBc.cell (p := ⟨W1.heap.size, 0, none⟩) hl_f).trans hc_f
  clear hc_f
  have hc_f := hcx
  clear hcx
  have HRx := Lib.hid (Kd.C_below HR_f.out hBc)
  clear HR_f
  have HR_f := HRx
  clear HRx
  have hlx : W1.heap.size < W10.heap.size := by have := hBc.size; omega
  clear hl_f
  have hl_f := hlx
  clear hlx
  have hcx := (hBc.cell (p := ⟨W3.heap.size, 0, none⟩) hl_g).trans hc_g
  clear hc_g
  have hc_g := hcx
  clear hcx
  have HRx := Lib.hid (Kd.C_below HR_g.out hBc)
  clear HR_g
  have HR_g := HRx
  clear HRx
  have hlx : W3.heap.size < W10.heap.size := by have := hBc.size; omega
  clear hl_g
  have hl_g := hlx
  clear hlx
  have hcx := (hBc.cell (p := ⟨W4.heap.size, 0, none⟩) hl_h).trans hc_h
  clear hc_h
  have hc_h := hcx
  clear hcx
  have HRx := Lib.hid (Kd.C_below HR_h.out hBc)
  clear HR_h
  have HR_h := HRx
  clear HRx
  have hlx : W4.heap.size < W10.heap.size := by have := hBc.size; omega
  clear hl_h
  have hl_h := hlx
  clear hlx
  have HBx := Lib.hid (HB.out.trans (hBc.mono HB.out.size))
  clear HB
  have HB := HBx
  clear HBx hBc
  clear hBn
  go_wp2_with fail
  refine (fuse_Most.calls A1 c1 fS 0 0 _ HR_f.out hc1 most_f).mono ?_
  rintro e W11 ⟨rfl, hBn⟩
  have hBc : Below W10.heap.size W10 W11 := hBn
  have hcx := (hBc.cell (p := ⟨W1.heap.size, 0, none⟩) hl_f).trans hc_f
  clear hc_f
  have hc_f := hcx
  clear hcx
  have HRx := Lib.hid (Kd.C_below HR_f.out hBc)
  clear HR_f
  have HR_f := HRx
  clear HRx
  have hlx : W1.heap.size < W11.heap.size := by have := hBc.size; omega
  clear hl_f
  have hl_f := hlx
  clear hlx
  have hcx := (hBc.cell (p := ⟨W3.heap.size, 0, none⟩) hl_g).trans hc_g
  clear hc_g
  have hc_g := hcx
  clear hcx
  have HRx := Lib.hid (Kd.C_below HR_g.out hBc)
  clear HR_g
  have HR_g := HRx
  clear HRx
  have hlx : W3.heap.size < W11.heap.size := by have := hBc.size; omega
  clear hl_g
  have hl_g := hlx
  clear hlx
  have hcx := (hBc.cell (p := ⟨W4.heap.size, 0, none⟩) hl_h).trans hc_h
  clear hc_h
  have hc_h := hcx
  clear hcx
  have HRx := Lib.hid (Kd.C_below HR_h.out hBc)
  clear HR_h
  have HR_h := HRx
  clear HRx
  have hlx : W4.heap.size < W11.heap.size := by have := hBc.size; omega
  clear hl_h
  have hl_h := hlx
  clear hlx
  have HBx := Lib.hid (HB.out.trans (hBc.mono HB.out.size))
  clear HB
  have HB := HBx
  clear HBx hBc
  clear hBn
  go_wp2_with fail
  refine (fuse_Least.calls A3 c3 gS 0 0 _ HR_g.out hc3 least_g).mono ?_
  rintro e W12 ⟨rfl, hBn⟩
  have hBc : Below W11.heap.size W11 W12 := hBn
  have hcx := (hBc.cell (p := ⟨W1.heap.size, 0, none⟩) hl_f).trans hc_f
  clear hc_f
  have hc_f := hcx
  clear hcx
  have HRx := Lib.hid (Kd.C_below HR_f.out hBc)
  clear HR_f
  have HR_f := HRx
  clear HRx
  have hlx : W1.heap.size < W12.heap.size := by have := hBc.size; omega
  clear hl_f
  have hl_f := hlx
  clear hlx
  have hcx := (hBc.cell (p := ⟨W3.heap.size, 0, none⟩) hl_g).trans hc_g
  clear hc_g
  have hc_g := hcx
  clear hcx
  have HRx := Lib.hid (Kd.C_below HR_g.out hBc)
  clear HR_g
  have HR_g := HRx
  clear HRx
  have hlx : W3.heap.size < W12.heap.size := by have := hBc.size; omega
  clear hl_g
  have hl_g := hlx
  clear hlx
  have hcx := (hBc.cell (p := ⟨W4.heap.size, 0, none⟩) hl_h).trans hc_h
  clear hc_h
  have hc_h := hcx
  clear hcx
  have HRx := Lib.hid (Kd.C_below HR_h.out hBc)
  clear HR_h
  have HR_h := HRx
  clear HRx
  have hlx : W4.heap.size < W12.heap.size := by have := hBc.size; omega
  clear hl_h
  have hl_h := hlx
  clear hlx
  have HBx := Lib.hid (HB.out.trans (hBc.mono HB.out.size))
  clear HB
  have HB := HBx
  clear HBx hBc
  clear hBn
  go_wp2_with fail
  refine (fuse_Most.calls A3 c3 gS 0 1 _ HR_g.out hc3 most_g).mono ?_
  rintro e W13 ⟨rfl, hBn⟩
  have hBc : Below W12.heap.size W12 W13 := hBn
  have hcx := (hBc.cell (p := ⟨W1.heap.size, 0, none⟩) hl_f).trans hc_f
  clear hc_f
  have hc_f := hcx
  clear hcx
  have HRx := Lib.hid (Kd.C_below HR_f.out hBc)
  clear HR_f
  have HR_f := HRx
  clear HRx
  have hlx : W1.heap.size < W13.heap.size := by have := hBc.size; omega
  clear hl_f
  have hl_f := hlx
  clear hlx
  have hcx := (hBc.cell (p := ⟨W3.heap.size, 0, none⟩) hl_g).trans hc_g
  clear hc_g
  have hc_g := hcx
  clear hcx
  have HRx := Lib.hid (Kd.C_below HR_g.out hBc)
  clear HR_g
  have HR_g := HRx
  clear HRx
  have hlx : W3.heap.size < W13.heap.size := by have := hBc.size; omega
  clear hl_g
  have hl_g := hlx
  clear hlx
  have hcx := (hBc.cell (p := ⟨W4.heap.size, 0, none⟩) hl_h).trans hc_h
  clear hc_h
  have hc_h := hcx
  clear hcx
  have HRx := Lib.hid (Kd.C_below HR_h.out hBc)
  clear HR_h
  have HR_h := HRx
  clear HRx
  have hlx : W4.heap.size < W13.heap.size := by have := hBc.size; omega
  clear hl_h
  have hl_h := hlx
  clear hlx
  have HBx := Lib.hid (HB.out.trans (hBc.mono HB.out.size))
  clear HB
  have HB := HBx
  clear HBx hBc
  clear hBn
  go_wp2_with fail
  refine (fuse_Least.calls A4 c4 hS 0 1 _ HR_h.out hc4 least_h).mono ?_
  rintro e W14 ⟨rfl, hBn⟩
  have hBc : Below W13.heap.size W13 W14 := hBn
  have hcx := (hBc.cell (p := ⟨W1.heap.size, 0, none⟩) hl_f).trans hc_f
  clear hc_f
  have hc_f := hcx
  clear hcx
  have HRx := Lib.hid (Kd.C_below HR_f.out hBc)
  clear HR_f
  have HR_f := HRx
  clear HRx
  have hlx : W1.heap.size < W14.heap.size := by have := hBc.size; omega
  clear hl_f
  have hl_f := hlx
  clear hlx
  have hcx := (hBc.cell (p := ⟨W3.heap.size, 0, none⟩) hl_g).trans hc_g
  clear hc_g
  have hc_g := hcx
  clear hcx
  have HRx := Lib.hid (Kd.C_below HR_g.out hBc)
  clear HR_g
  have HR_g := HRx
  clear HRx
  have hlx : W3.heap.size < W14.heap.size := by have := hBc.size; omega
  clear hl_g
  have hl_g := hlx
  clear hlx
  have hcx := (hBc.cell (p := ⟨W4.heap.size, 0, none⟩) hl_h).trans hc_h
  clear hc_h
  have hc_h := hcx
  clear hcx
  have HRx := Lib.hid (Kd.C_below HR_h.out hBc)
  clear HR_h
  have HR_h := HRx
  clear HRx
  have hlx : W4.heap.size < W14.heap.size := by have := hBc.size; omega
  clear hl_h
  have hl_h := hlx
  clear hlx
  have HBx := Lib.hid (HB.out.trans (hBc.mono HB.out.size))
  clear HB
  have HB := HBx
  clear HBx hBc
  clear hBn
  go_wp2_with fail
  refine (fuse_Valid.calls A4 c4 hS true _ HR_h.out hc4 valid_h).mono ?_
  rintro e W15 ⟨rfl, hBn⟩
  have hBc : Below W14.heap.size W14 W15 := hBn
  have hcx := (hBc.cell (p := ⟨W1.heap.size, 0, none⟩) hl_f).trans hc_f
  clear hc_f
  have hc_f := hcx
  clear hcx
  have HRx := Lib.hid (Kd.C_below HR_f.out hBc)
  clear HR_f
  have HR_f := HRx
  clear HRx
  have hlx : W1.heap.size < W15.heap.size := by have := hBc.size; omega
  clear hl_f
  have hl_f := hlx
  clear hlx
  have hcx := (hBc.cell (p := ⟨W3.heap.size, 0, none⟩) hl_g).trans hc_g
  clear hc_g
  have hc_g := hcx
  clear hcx
  have HRx := Lib.hid (Kd.C_below HR_g.out hBc)
  clear HR_g
  have HR_g := HRx
  clear HRx
  have hlx : W3.heap.size < W15.heap.size := by have := hBc.size; omega
  clear hl_g
  have hl_g := hlx
  clear hlx
  have hcx := (hBc.cell (p := ⟨W4.heap.size, 0, none⟩) hl_h).trans hc_h
  clear hc_h
  have hc_h := hcx
  clear hcx
  have HRx := Lib.hid (Kd.C_below HR_h.out hBc)
  clear HR_h
  have HR_h := HRx
  clear HRx
  have hlx : W4.heap.size < W15.heap.size := by have := hBc.size; omega
  clear hl_h
  have hl_h := hlx
  clear hlx
  have HBx := Lib.hid (HB.out.trans (hBc.mono HB.out.size))
  clear HB
  have HB := HBx
  clear HBx hBc
  clear hBn
  go_wp2_with fail
  refine (fuse_Sound.calls A4 c4 hS true _ HR_h.out hc4 sound_h).mono ?_
  rintro e W16 ⟨rfl, hBn⟩
  have hBc : Below W15.heap.size W15 W16 := hBn
  have hcx := (hBc.cell (p := ⟨W1.heap.size, 0, none⟩) hl_f).trans hc_f
  clear hc_f
  have hc_f := hcx
  clear hcx
  have HRx := Lib.hid (Kd.C_below HR_f.out hBc)
  clear HR_f
  have HR_f := HRx
  clear HRx
  have hlx : W1.heap.size < W16.heap.size := by have := hBc.size; omega
  clear hl_f
  have hl_f := hlx
  clear hlx
  have hcx := (hBc.cell (p := ⟨W3.heap.size, 0, none⟩) hl_g).trans hc_g
  clear hc_g
  have hc_g := hcx
  clear hcx
  have HRx := Lib.hid (Kd.C_below HR_g.out hBc)
  clear HR_g
  have HR_g := HRx
  clear HRx
  have hlx : W3.heap.size < W16.heap.size := by have := hBc.size; omega
  clear hl_g
  have hl_g := hlx
  clear hlx
  have hcx := (hBc.cell (p := ⟨W4.heap.size, 0, none⟩) hl_h).trans hc_h
  clear hc_h
  have hc_h := hcx
  clear hcx
  have HRx := Lib.hid (Kd.C_below HR_h.out hBc)
  clear HR_h
  have HR_h := HRx
  clear HRx
  have hlx : W4.heap.size < W16.heap.size := by have := hBc.size; omega
  clear hl_h
  have hl_h := hlx
  clear hlx
  have HBx := Lib.hid (HB.out.trans (hBc.mono HB.out.size))
  clear HB
  have HB := HBx
  clear HBx hBc
  clear hBn
  go_wp2_with fail
  refine (fuse_Sound.calls (some ⟨W16.heap.size + 1, 0, none⟩) 1 [[3, 3, 0]] false _ (lit2_reads W16 [3, 3, 0] (by decide)) (by decide) sound_x).mono ?_
  rintro e W20 ⟨rfl, hBn⟩
  have hBc : Below W16.heap.size W16 W20 := (((Below.refl W16.heap.size W16).alloc (Nat.le_refl _) _).alloc (by simp) _).trans (hBn.mono (by simp; omega))
  have hcx := (hBc.cell (p := ⟨W1.heap.size, 0, none⟩) hl_f).trans hc_f
  clear hc_f
  have hc_f := hcx
  clear hcx
  have HRx := Lib.hid (Kd.C_below HR_f.out hBc)
  clear HR_f
  have HR_f := HRx
  clear HRx
  have hlx : W1.heap.size < W20.heap.size := by have := hBc.size; omega
  clear hl_f
  have hl_f := hlx
  clear hlx
  have hcx := (hBc.cell (p := ⟨W3.heap.size, 0, none⟩) hl_g).trans hc_g
  clear hc_g
  have hc_g := hcx
  clear hcx
  have HRx := Lib.hid (Kd.C_below HR_g.out hBc)
  clear HR_g
  have HR_g := HRx
  clear HRx
  have hlx : W3.heap.size < W20.heap.size := by have := hBc.size; omega
  clear hl_g
  have hl_g := hlx
  clear hlx
  have hcx := (hBc.cell (p := ⟨W4.heap.size, 0, none⟩) hl_h).trans hc_h
  clear hc_h
  have hc_h := hcx
  clear hcx
  have HRx := Lib.hid (Kd.C_below HR_h.out hBc)
  clear HR_h
  have HR_h := HRx
  clear HRx
  have hlx : W4.heap.size < W20.heap.size := by have := hBc.size; omega
  clear hl_h
  have hl_h := hlx
  clear hlx
  have HBx := Lib.hid (HB.out.trans (hBc.mono HB.out.size))
  clear HB
  have HB := HBx
  clear HBx hBc
  clear hBn
  go_wp2_with fail
  refine (fuse_Valid.calls (some ⟨W20.heap.size + 1, 0, none⟩) 1 [[4, 0, 0]] false _ (lit2_reads W20 [4, 0, 0] (by decide)) (by decide) valid_x).mono ?_
  rintro e W21 ⟨rfl, hBn⟩
  have hBc : Below W20.heap.size W20 W21 := (((Below.refl W20.heap.size W20).alloc (Nat.le_refl _) _).alloc (by simp) _).trans (hBn.mono (by simp; omega))
  have hcx := (hBc.cell (p := ⟨W1.heap.size, 0, none⟩) hl_f).trans hc_f
  clear hc_f
  have hc_f := hcx
  clear hcx
  have HRx := Lib.hid (Kd.C_below HR_f.out hBc)
  clear HR_f
  have HR_f := HRx
  clear HRx
  have hlx : W1.heap.size < W21.heap.size := by have := hBc.size; omega
  clear hl_f
  have hl_f := hlx
  clear hlx
  have hcx := (hBc.cell (p := ⟨W3.heap.size, 0, none⟩) hl_g).trans hc_g
  clear hc_g
  have hc_g := hcx
  clear hcx
  have HRx := Lib.hid (Kd.C_below HR_g.out hBc)
  clear HR_g
  have HR_g := HRx
  clear HRx
  have hlx : W3.heap.size < W21.heap.size := by have := hBc.size; omega
  clear hl_g
  have hl_g := hlx
  clear hlx
  have hcx := (hBc.cell (p := ⟨W4.heap.size, 0, none⟩) hl_h).trans hc_h
  clear hc_h
  have hc_h := hcx
  clear hcx
  have HRx := Lib.hid (Kd.C_below HR_h.out hBc)
  clear HR_h
  have HR_h := HRx
  clear HRx
  have hlx : W4.heap.size < W21.heap.size := by have := hBc.size; omega
  clear hl_h
  have hl_h := hlx
  clear hlx
  have HBx := Lib.hid (HB.out.trans (hBc.mono HB.out.size))
  clear HB
  have HB := HBx
  clear HBx hBc
  clear hBn
  go_wp2_with fail
  go_ret
  exact ⟨rfl, HB.out⟩
def bootchainlaw07_sanity.f : Option Bool := some true
theorem bootchainlaw07_sanity.calls (r : Bool) (w : World) (h : bootchainlaw07_sanity.f = some r) :
    Calls Try.prog 10 #[] w fun e w' => e = .returned (.bool r) ∧ Below w.heap.size w w' := by
  cases h
  exact sanity_any w
end Go.Proofs.Ytnobomefhpkicaa.P
