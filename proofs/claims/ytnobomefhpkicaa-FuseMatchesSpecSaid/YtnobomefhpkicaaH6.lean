import Derived.Test.YtnobomefhpkicaaH5
import Derived.Deep.RegionWith
import Derived.Deep.DeepCutAuto
namespace Go.Proofs.Ytnobomefhpkicaa.P
open Go.RowKit Go.Proofs.YtnobomefhpkicaaW.PrintWords Go.Proofs.YtnobomefhpkicaaW.PrintLast Go.Proofs.YtnobomefhpkicaaW.PrintMore
attribute [local go_sem] max2_int min2_int max_two min_two max_three min_three max_four min_four
set_option linter.unusedVariables false
set_option linter.unusedSimpArgs false

theorem own_form {W : World} {base e n : Nat} {v : Value} {xs : List Value} (h : W.ownsRow base e 1 v n xs) (hn : 0 < n) : ∃ cap g, v = .slice (some ⟨g, 0, none⟩) n cap := by
  rcases h.2 with ⟨_, h⟩ | ⟨g, cap, cur, h, _⟩
  · omega
  · exact ⟨cap, g, h⟩
theorem heap_drew_ (W : World) : W.drew.heap = W.heap := rfl
theorem heap_drewN_ (W : World) (n : Nat) : (W.drewN n).heap = W.heap := rfl
/-- What the region of the inner clone leaves. -/
def PulseMid (w W3 W1 : World) (g cap n1 : Nat) (l0 : List (List Int)) (cs : List Value) (W : World) : Prop :=
  ∃ g2 cap2, Below w.heap.size w W ∧ W.cell? ⟨w.heap.size, 0, none⟩ = some (.slice (some ⟨g, 0, none⟩) l0.length cap) ∧ W.cell? ⟨w.heap.size + 1, 0, none⟩ = some (.slice none 0 0) ∧ W.frozen? ⟨w.heap.size + 1, 0, none⟩ = false ∧
    W.ownsRow W1.heap.size 26 1 (.slice (some ⟨g, 0, none⟩) l0.length cap) l0.length (cs.set n1 (.slice (some ⟨g2, 0, none⟩) (rd_L1 l0 n1).length cap2)) ∧
    W.ownsRow W3.heap.size 5 1 (.slice (some ⟨g2, 0, none⟩) (rd_L1 l0 n1).length cap2) (rd_L1 l0 n1).length ((rd_L1 l0 n1).map (Value.int .u8))
theorem pulse_mid (w W3 W1 W4 : World) (g cap n1 : Nat) (l0 : List (List Int)) (cs : List Value) (g2 cap2 : Nat) (hB3 : Below w.heap.size w W3) (hb4 : Below W3.heap.size W3 W4)
    (hv3 : W3.ownsRow W1.heap.size 26 1 (.slice (some ⟨g, 0, none⟩) l0.length cap) l0.length cs) (hv2 : W4.ownsRow W3.heap.size 5 1 (.slice (some ⟨g2, 0, none⟩) (rd_L1 l0 n1).length cap2) (rd_L1 l0 n1).length ((rd_L1 l0 n1).map (Value.int .u8)))
    (hg : w.heap.size + 2 ≤ g) (hg3 : g < W3.heap.size) (hn : n1 < cs.length)
    (h3x : W3.cell? ⟨w.heap.size, 0, none⟩ = some (.slice (some ⟨g, 0, none⟩) l0.length cap)) (h3r : W3.cell? ⟨w.heap.size + 1, 0, none⟩ = some (.slice none 0 0)) (h3f : W3.frozen? ⟨w.heap.size + 1, 0, none⟩ = false) :
    PulseMid w W3 W1 g cap n1 l0 cs (W4.setCell ⟨g, n1, none⟩ (.slice (some ⟨g2, 0, none⟩) (rd_L1 l0 n1).length cap2)) := by
  have hv4 : W4.ownsRow W1.heap.size 26 1 (.slice (some ⟨g, 0, none⟩) l0.length cap) l0.length cs := own_move hv3 (fun k hk => by cases hk; exact hb4.block g hg3)
  refine ⟨g2, cap2, (hB3.trans (hb4.mono (by omega))).setCell (p := ⟨g, n1, none⟩) (by simp; omega) _, ?_, ?_, ?_, (hv4.stored n1 _).1, ownsRow_setCell_below hv2 hg3 _⟩
  · exact (World.cell?_of_block (w := W4) (Below.heap_setCell W4 _ _ _ (by simp; omega))).trans ((hb4.cell (p := ⟨w.heap.size, 0, none⟩) (by simp; omega)).trans h3x)
  · exact (World.cell?_of_block (w := W4) (Below.heap_setCell W4 _ _ _ (by simp; omega))).trans ((hb4.cell (p := ⟨w.heap.size + 1, 0, none⟩) (by simp; omega)).trans h3r)
  · rw [World.frozen?_setCell]; exact (hb4.frozen (p := ⟨w.heap.size + 1, 0, none⟩) (by simp; omega)).trans h3f
theorem pulse_end (w W : World) (P : Nat → Prop) (ad : Addr) (g cap g2 cap2 n1 n2 : Nat) (nx : Int) (l0 : List (List Int)) (cs : List Value) (b1 b3 c : Nat) (T : Array Value)
    (hF : Kd.F (Kd.slice 5 (Kd.int .u8)) w P (some ad) l0.length l0) (hB : Below w.heap.size w W) (hcl : cs.length = l0.length)
    (hck : ∀ (j : Nat) (x : List Int) (u : Value), l0[j]? = some x → cs[j]? = some u → Kd.FK (Kd.slice 5 (Kd.int .u8)) w P x [u]) (h1 : n1 < l0.length) (h2 : n2 < (rd_L1 l0 n1).length) (hn : l0.length ≤ 9223372036854775807)
    (hv : W.ownsRow b1 26 1 (.slice (some ⟨g, 0, none⟩) l0.length cap) l0.length (cs.set n1 (.slice (some ⟨g2, 0, none⟩) (rd_L1 l0 n1).length cap2)))
    (hw : W.ownsRow b3 5 1 (.slice (some ⟨g2, 0, none⟩) (rd_L1 l0 n1).length cap2) (rd_L1 l0 n1).length ((rd_L1 l0 n1).map (Value.int .u8)))
    (hg : w.heap.size + 2 ≤ g) (hg2 : w.heap.size + 2 ≤ g2) (hne : g ≠ g2) (hb3 : w.heap.size + 2 ≤ b3) (hr : W.cell? ⟨w.heap.size + 1, 0, none⟩ = some (.slice none 0 0))
    (hres : ∀ W' : World, W'.cell? ⟨w.heap.size + 1, 0, none⟩ = some (.slice (some ⟨g, 0, none⟩) l0.length cap) → (results Try.f15 T).run Try.prog W' = .ok (.tuple #[.agg #[.slice (some ⟨g, 0, none⟩) l0.length cap], .int .i64 0]) W') :
    bodyPost Try.prog Try.f15 (fun e w' => ∃ v0_, e = Ending.returned (.tuple #[.agg #[v0_], .int .i64 0]) ∧ Kd.V (Kd.slice 5 (Kd.int .u8)) 26 w' w.heap.size (fun k_ => P k_ ∨ w.heap.size ≤ k_) v0_ (l0.set n1 ((rd_L1 l0 n1).set n2 nx)) ∧ Below w.heap.size w w') Exit.ret
      { tmps := T, defers := [] } ((W.setCell ⟨g2, n2, none⟩ (.int .u8 nx)).setCell ⟨w.heap.size + 1, 0, none⟩ (.slice (some ⟨g, 0, none⟩) l0.length cap)) := by
  have hB7 : Below w.heap.size w ((W.setCell ⟨g2, n2, none⟩ (.int .u8 nx)).setCell ⟨w.heap.size + 1, 0, none⟩ (.slice (some ⟨g, 0, none⟩) l0.length cap)) := (hB.setCell (p := ⟨g2, n2, none⟩) (by simp; omega) _).setCell (p := ⟨w.heap.size + 1, 0, none⟩) (by simp) _
  have hcell : ((W.setCell ⟨g2, n2, none⟩ (.int .u8 nx)).setCell ⟨w.heap.size + 1, 0, none⟩ (.slice (some ⟨g, 0, none⟩) l0.length cap)).cell? ⟨w.heap.size + 1, 0, none⟩ = some (.slice (some ⟨g, 0, none⟩) l0.length cap) :=
    World.cell?_setCell_same' _ _ _ (by rw [World.cell?_of_block (w := W) (Below.heap_setCell W _ _ _ (by simp; omega)), hr]; rfl)
  refine bodyPost_ret (hres _ hcell) rfl ⟨_, rfl, ?_, hB7⟩
  have hv7 : ((W.setCell ⟨g2, n2, none⟩ (.int .u8 nx)).setCell ⟨w.heap.size + 1, 0, none⟩ (.slice (some ⟨g, 0, none⟩) l0.length cap)).ownsRow b1 26 1 (.slice (some ⟨g, 0, none⟩) l0.length cap) l0.length (cs.set n1 (.slice (some ⟨g2, 0, none⟩) (rd_L1 l0 n1).length cap2)) :=
    own_move hv (fun k hk => by
      cases hk
      rw [Below.heap_setCell _ _ _ _ (by simp; omega), Below.heap_setCell _ _ _ _ (by simpa using hne)])
  have hw7 := ownsRow_setCell_below (hw.stored n2 (.int .u8 nx)).1 (a := ⟨w.heap.size + 1, 0, none⟩) (by simp; omega) (.slice (some ⟨g, 0, none⟩) l0.length cap)
  refine V_of_cells rfl (by rw [List.length_set]) hn hv7 (.inr (by omega)) ?_
  intro j x u hx hu
  by_cases hj : j = n1
  · subst hj
    rw [List.getElem?_set_self h1] at hx
    rw [List.getElem?_set_self (by omega)] at hu
    cases hx
    cases hu
    refine Kd.FK_of_M (base := b3) ⟨_, rfl, ?_⟩
    have h9 : ((rd_L1 l0 j).set n2 nx).map (Value.int .u8) = ((rd_L1 l0 j).map (Value.int .u8)).set n2 (.int .u8 nx) := by rw [List.map_set]
    refine Kd.R_of_own ?_ (fun k hk => ?_)
    · rw [List.length_set]
      show World.ownsRow _ _ _ _ _ _ (((rd_L1 l0 j).set n2 nx).map (Value.int .u8))
      rw [h9]
      exact hw7
    · cases hk; exact .inr (show w.heap.size ≤ g2 by omega)
  · rw [List.getElem?_set_ne (by omega)] at hx hu
    refine Kd.FK_mono (Kd.FK_step (hck j x u hx hu) (fun k _ hlt => hB7.block k hlt)) (fun k hk => .inl hk)
set_option maxRecDepth 100000 in
set_option maxHeartbeats 2000000 in
theorem pulse_yes (nx : Int) (ad : Addr) (c : Nat) (l0 : List (List Int)) (n1 n2 : Nat) (a3 : Bool) (P : Nat → Prop) (w : World) (hF : Kd.F (Kd.slice 5 (Kd.int .u8)) w P (some ad) l0.length l0) (hc : l0.length ≤ c)
    (h1 : n1 < l0.length) (h2 : n2 < (rd_L1 l0 n1).length) (hl1 : l0.length ≤ 4398046511104) (hl2 : (rd_L1 l0 n1).length ≤ 4398046511104)
    (hcase : ((rd (rd_L1 l0 n1) n2 = 2 ∨ rd (rd_L1 l0 n1) n2 = 3) ∧ nx = rd (rd_L1 l0 n1) n2) ∨ (¬ rd (rd_L1 l0 n1) n2 = 2 ∧ ¬ rd (rd_L1 l0 n1) n2 = 3 ∧ nx = if a3 = true then 1 else 2)) :
    Calls Try.prog 15 #[.agg #[.slice (some ad) l0.length c], .int .i64 n1, .int .i64 n2, .bool a3] w fun e w' => ∃ v0_ : Value, e = .returned (.tuple #[.agg #[v0_], .int .i64 0]) ∧ Kd.V (Kd.slice 5 (Kd.int .u8)) 26 w' w.heap.size (fun k_ => P k_ ∨ w.heap.size ≤ k_) v0_ (l0.set n1 ((rd_L1 l0 n1).set n2 nx)) ∧ Below w.heap.size w w' := by
  have hr := Kd.F_now hF
  have HD := Lib.hid (decide_eq_true (show 0 ≤ (n1 : Int) ∧ (n1 : Int) < (l0.length : Int) ∧ 0 ≤ (n2 : Int) ∧ (n2 : Int) < ((rd_L1 l0 n1).length : Int) by omega))
  obtain ⟨ad', A1, c1, e, hx, hlc, hi⟩ := at_L1 hr n1 (by omega) (by omega)
  cases e
  rw [Int.toNat_natCast] at hx
  obtain ⟨ad1, e1, hy⟩ := Kd.at_int hi n2 (by omega) (by omega)
  subst e1
  rw [Int.toNat_natCast] at hy
  obtain ⟨cs, hcl, hcc, hco, hck⟩ := cells_of_F rfl hF
  have HCC := Lib.hid hcc
  have HCO := Lib.hid hco
  have HCK := Lib.hid hck
  have HCL := Lib.hid hcl
  have HR := Lib.hid hr
  have HI := Lib.hid hi
  have HX := Lib.hid hx
  have HY := Lib.hid hy
  have HF := Lib.hid hF
  have HCASE := Lib.hid hcase
  clear hr hF hi hcc hco hck hcl hx hy hcase
  go_enter Try.func15, Try.ntmps15
  go_wp2_with fail
  refine (exists_any (some ad) c l0 n1 n2 _ (Kd.C_alloc (Kd.C_alloc HR.out _) _) hc).mono ?_
  rintro e W1 ⟨rfl, hB1⟩
  rw [HD.out]
  have hbx : W1.cell? ⟨w.heap.size, 0, none⟩ = some (.slice (some ad) l0.length c) := (hB1.cell (p := ⟨w.heap.size, 0, none⟩) (by simp; omega)).trans ((Boxed.new w 24 (.slice (some ad) l0.length c)).alloc _).cell
  have hbf : W1.frozen? ⟨w.heap.size, 0, none⟩ = false := (hB1.frozen (p := ⟨w.heap.size, 0, none⟩) (by simp; omega)).trans ((Boxed.new w 24 (.slice (some ad) l0.length c)).alloc _).frozen
  have bN := Boxed.new (w.alloc (.cells #[.slice (some ad) l0.length c] 24)) 24 (.slice none 0 0)
  rw [World.size_alloc] at bN
  have hbr : W1.cell? ⟨w.heap.size + 1, 0, none⟩ = some (.slice none 0 0) := (hB1.cell (p := ⟨w.heap.size + 1, 0, none⟩) (by simp)).trans bN.cell
  have hfr : W1.frozen? ⟨w.heap.size + 1, 0, none⟩ = false := (hB1.frozen (p := ⟨w.heap.size + 1, 0, none⟩) (by simp)).trans bN.frozen
  have hB : Below w.heap.size w W1 := (((Below.refl w.heap.size w).alloc (Nat.le_refl _) (.cells #[.slice (some ad) l0.length c] 24)).alloc (by simp) (.cells #[.slice none 0 0] 24) |>.trans (hB1.mono (by simp; omega)))
  have hs1 : w.heap.size + 2 ≤ W1.heap.size := by have := hB1.size; simp at this; omega
  have hx1 : W1.cell? (ad.add n1) = some (.slice (some ad1) (rd_L1 l0 n1).length c1) := (hB.cell (World.block_lt_of_cell? w _ HX.out)).trans HX.out
  have hy1 : W1.cell? (ad1.add n2) = some (.int .u8 (rd (rd_L1 l0 n1) n2)) := (hB.cell (World.block_lt_of_cell? w _ HY.out)).trans HY.out
  have HB := Lib.hid hB
  obtain ⟨cc, hcc⟩ : ∃ cc, rd (rd_L1 l0 n1) n2 = cc := ⟨_, rfl⟩
  rw [hcc] at hy1
  have HCASE2 : ∃ (g2 g3 : Bool), (cc == 2) = g2 ∧ (cc == 3) = g3 ∧ nx = (if g2 || g3 then cc else if a3 then 1 else 2) := by
    refine ⟨_, _, rfl, rfl, ?_⟩
    rcases HCASE.out with ⟨h, rfl⟩ | ⟨h3, h4, rfl⟩
    · rw [hcc] at h ⊢
      rcases h with h | h <;> simp [h]
    · rw [hcc] at h3 h4
      simp [h3, h4]
  have hcl22 := clone22_some ad c cs W1 (by have := HCL.out; omega) (fun j u hj => (hB.cell (World.block_lt_of_cell? w _ (HCC.out j u hj))).trans (HCC.out j u hj)) HCO.out
  rw [HCL.out] at hcl22
  have HC22 := Lib.hid hcl22
  clear hB1 bN hB HCASE hcc hcl22
  obtain ⟨g2, g3, hg2, hg3, hnx⟩ := HCASE2
  obtain ⟨nb, hnb⟩ : ∃ nb : Int, (if a3 then 1 else 2) = nb := ⟨_, rfl⟩
  rw [hnb] at hnx
  have HNB := Lib.hid hnb
  have HNX := Lib.hid hnx
  clear hnx hnb
  go_upto_if 18 with (fail)
  go_cut [10] (fun s wx => s = .int .u8 nb ∧ wx = W1)
  case first =>
    cases a3
    all_goals
      go_wp2_with fail
      go_meet
      exact ⟨by rw [← HNB.out]; rfl, rfl⟩
  case rest =>
  obtain ⟨rfl, rfl⟩ := hcut
  go_upto_region 7 with (fail)
  go_cut [32] (fun s wx => s = .bool (g2 || g3) ∧ wx = wc)
  case first =>
    cases g2 <;> cases g3
    all_goals
      go_wp2_with fail
      go_meet
      exact ⟨rfl, rfl⟩
  case rest =>
  obtain ⟨rfl, rfl⟩ := hcut
  go_upto_if 32 with (fail)
  go_cut [10] (fun s wx => s = .int .u8 nx ∧ wx = wc)
  case first =>
    cases g2 <;> cases g3
    all_goals
      go_wp2_with fail
      go_meet
      exact ⟨by rw [HNX.out]; rfl, rfl⟩
  case rest =>
  obtain ⟨rfl, rfl⟩ := hcut
  go_wp2_with fail
  refine HC22.out.mono ?_
  rintro e W2 ⟨v, rfl, hv, hB2⟩
  obtain ⟨cap, g, rfl⟩ := own_form hv (by omega)
  have hgl := hv.lt g rfl
  obtain ⟨hgl1, hgl2⟩ := hgl
  have hb2x : W2.cell? ⟨w.heap.size, 0, none⟩ = some (.slice (some ad) l0.length c) := (hB2.cell (p := ⟨w.heap.size, 0, none⟩) (by simp; omega)).trans hbx
  have hb2f : W2.frozen? ⟨w.heap.size, 0, none⟩ = false := (hB2.frozen (p := ⟨w.heap.size, 0, none⟩) (by simp; omega)).trans hbf
  have hb2r : W2.cell? ⟨w.heap.size + 1, 0, none⟩ = some (.slice none 0 0) := (hB2.cell (p := ⟨w.heap.size + 1, 0, none⟩) (by simp; omega)).trans hbr
  have hf2r : W2.frozen? ⟨w.heap.size + 1, 0, none⟩ = false := (hB2.frozen (p := ⟨w.heap.size + 1, 0, none⟩) (by simp; omega)).trans hfr
  have HB2 := Lib.hid (HB.out.trans (hB2.mono (by omega)))
  have HV := Lib.hid hv
  clear hB2 hv hbx hbf hbr hfr HC22 hx1 hy1
  go_upto_region 10 with fail
  obtain ⟨W3, hW3⟩ : ∃ W3, W2.setCell ⟨w.heap.size, 0, none⟩ (.slice (some ⟨g, 0, none⟩) l0.length cap) = W3 := ⟨_, rfl⟩
  have hne : g ≠ w.heap.size := by omega
  have hv3 : W3.ownsRow wc.heap.size 26 1 (.slice (some ⟨g, 0, none⟩) l0.length cap) l0.length cs := by
    rw [← hW3]; exact ownsRow_setCell_below HV.out (by simp; omega) _
  have hB3 : Below w.heap.size w W3 := hW3 ▸ HB2.out.setCell (p := ⟨w.heap.size, 0, none⟩) (Nat.le_refl _) _
  have h3x : W3.cell? ⟨w.heap.size, 0, none⟩ = some (.slice (some ⟨g, 0, none⟩) l0.length cap) := by rw [← hW3]; exact World.cell?_setCell_same' _ _ _ (by rw [hb2x]; rfl)
  have h3r : W3.cell? ⟨w.heap.size + 1, 0, none⟩ = some (.slice none 0 0) := by rw [← hW3]; exact (World.cell?_of_block (w := W2) (Below.heap_setCell W2 _ _ _ (by simp))).trans hb2r
  have h3f : W3.frozen? ⟨w.heap.size + 1, 0, none⟩ = false := by rw [← hW3, World.frozen?_setCell]; exact hf2r
  have h3s : W3.heap.size = W2.heap.size := by rw [← hW3]; simp
  rw [hW3]
  have hcs1 : cs[n1]? = some (.slice (some ad1) (rd_L1 l0 n1).length c1) := by
    have h := HCC.out n1 (cs[n1]'(by have := HCL.out; omega)) (List.getElem?_eq_getElem _)
    rw [HX.out] at h
    rw [List.getElem?_eq_getElem (by have := HCL.out; omega), ← Option.some.inj h]
  have h3c : W3.cell? ⟨g, n1, none⟩ = some (.slice (some ad1) (rd_L1 l0 n1).length c1) := (hv3.cellAt n1 (by omega)).trans hcs1
  have h3g : W3.frozen? ⟨g, n1, none⟩ = false := hv3.frozenAt n1
  have hcl8 : ∀ W', W'.heap = W3.heap → Calls Try.prog 35 #[.slice (some ad1) (rd_L1 l0 n1).length c1] W' fun e w' => ∃ v, e = .returned v ∧ w'.ownsRow W'.heap.size 5 1 v (rd_L1 l0 n1).length ((rd_L1 l0 n1).map (Value.int .u8)) ∧ Below W'.heap.size W' w' := by
    intro W' hW'
    have h := clone8_some ad1 c1 ((rd_L1 l0 n1).map (Value.int .u8)) W' (by rw [List.length_map]; omega) ?_ (by intro u hu; obtain ⟨x, _, rfl⟩ := List.mem_map.1 hu; rfl)
    · rwa [List.length_map] at h
    · intro j u hu
      rw [List.getElem?_map] at hu
      obtain ⟨x, hx, rfl⟩ := Option.map_eq_some_iff.1 hu
      have hj := (List.getElem?_eq_some_iff.1 hx).1
      obtain ⟨ad2, e2, h2⟩ := Kd.at_int HI.out j (by omega) (by omega)
      cases e2
      rw [Int.toNat_natCast] at h2
      have e3 : W'.cell? (ad1.add j) = W3.cell? (ad1.add j) := World.cell?_of_block (w := W3) (by rw [hW'])
      rw [e3, hB3.cell (World.block_lt_of_cell? w _ h2), h2]
      have : rd (rd_L1 l0 n1) j = x := by unfold rd; rw [Int.toNat_natCast, List.getD_eq_getElem?_getD, hx]; rfl
      rw [this]
  have HC8 := Lib.hid hcl8
  have HV3 := Lib.hid hv3
  have HB3 := Lib.hid hB3
  have HCS1 := Lib.hid hcs1
  have h3lt : W2.heap.size ≤ W3.heap.size := by omega
  clear hcl8 hv3 hB3 hcs1 hW3 hb2x hb2f hb2r hf2r h3s
  go_cut [] (fun wx => PulseMid w W3 wc g cap n1 l0 cs wx)
  case first =>
    go_region_with (go_at_call 35; refine (HC8.out _ ?_).mono ?_; (first | rfl | exact rfl); rintro e W4 ⟨v2, rfl, hv2, hB4⟩; obtain ⟨cap2, g2, rfl⟩ := own_form hv2 (by omega); have h4x := (hB4.cell (p := ⟨w.heap.size, 0, none⟩) (by simp; omega)).trans h3x; have h4c := (hB4.cell (p := ⟨g, n1, none⟩) (by simp; omega)).trans h3c; have h4g := (hB4.frozen (p := ⟨g, n1, none⟩) (by simp; omega)).trans h3g; have HV2 := Lib.hid hv2; have HB4 := Lib.hid hB4; clear hv2 hB4)
    all_goals
      go_wp2_with fail
      go_meet
      have hb4 : Below W3.heap.size W3 W4 := (Below.refl _ W3).drew.trans HB4.out
      exact pulse_mid w W3 wc W4 g cap n1 l0 cs _ _ HB3.out hb4 HV3.out HV2.out (by omega) (by omega) (by have := HCL.out; omega) h3x h3r h3f
  case rest =>
  obtain ⟨g2, cap2, hb5, h5x, h5r, h5f, hv5, hw5⟩ := hcut
  have h5c : wc.cell? ⟨g, n1, none⟩ = some (.slice (some ⟨g2, 0, none⟩) (rd_L1 l0 n1).length cap2) := (hv5.cellAt n1 (by omega)).trans (by rw [List.getElem?_set_self (by have := HCL.out; omega)])
  have hcl : ((rd_L1 l0 n1).map (Value.int .u8))[n2]? = some (.int .u8 ((rd_L1 l0 n1)[n2]'h2)) := by rw [List.getElem?_map, List.getElem?_eq_getElem h2]; rfl
  have h6c : wc.cell? ⟨g2, n2, none⟩ = some (.int .u8 ((rd_L1 l0 n1)[n2]'h2)) := (hw5.cellAt n2 (by omega)).trans hcl
  have h6f : wc.frozen? ⟨g2, n2, none⟩ = false := hw5.frozenAt n2
  have hg2 := hw5.lt g2 rfl
  have HB5 := Lib.hid hb5
  have HV5 := Lib.hid hv5
  have HW5 := Lib.hid hw5
  have hq1 : w.heap.size + 2 ≤ g2 := by omega
  have hq2 : g ≠ g2 := by omega
  clear hcl hb5 hv5 hw5 h3x h3r h3f h3c h3g
  go_wp2_with fail
  exact pulse_end w wc P ad g cap g2 cap2 n1 n2 nx l0 cs _ W3.heap.size c _ HF.out HB5.out HCL.out HCK.out h1 h2 (by omega) HV5.out HW5.out (by omega) hq1 hq2 (by omega) h5r (fun W' hW' => by have hc := hW'; simp [results, Try.results15, go_sem, hc])
theorem fuse_Pulse.calls (P0_0_ : Nat → Prop) (A0_0 : Option Addr) (c0_0 : Nat) (l0_0 : List (List Int)) (a1 : Int) (a2 : Int) (a3 : Bool) (r1 : List (List Int)) (r2 : Int) (w : World) (hs0_0 : Kd.V (Kd.slice 5 (Kd.int .u8)) 26 w w.heap.size (fun k_ => P0_0_ k_) (.slice A0_0 l0_0.length c0_0) l0_0) (h : fuse_Pulse.f l0_0 a1 a2 a3 = some (r1, r2)) :
    Calls Try.prog 15 #[.agg #[.slice A0_0 l0_0.length c0_0], .int .i64 a1, .int .i64 a2, .bool a3] w fun e w' => ∃ v0_ : Value, e = .returned (.tuple #[.agg #[v0_], .int .i64 r2]) ∧ Kd.V (Kd.slice 5 (Kd.int .u8)) 26 w' w.heap.size (fun k_ => (P0_0_ k_ ∨ w.heap.size ≤ k_)) v0_ r1 ∧ Below w.heap.size w w' := by
  unfold fuse_Pulse.f at h
  obtain ⟨_, hc, hF⟩ := Kd.V_at hs0_0
  by_cases hy : 0 ≤ a1 ∧ a1 < (l0_0.length : Int) ∧ 0 ≤ a2 ∧ a2 < ((rd_L1 l0_0 a1).length : Int)
  · rw [if_pos hy] at h
    by_cases hz : l0_0.length ≤ 4398046511104 ∧ (rd_L1 l0_0 a1).length ≤ 4398046511104
    · rw [if_pos hz] at h
      injection h with h
      injection h with h1 h2
      obtain ⟨n1, rfl⟩ := Int.eq_ofNat_of_zero_le hy.1
      obtain ⟨n2, rfl⟩ := Int.eq_ofNat_of_zero_le hy.2.2.1
      obtain ⟨ad, A1, c1, e, _⟩ := at_L1 (Kd.F_now hF) n1 (by omega) (by omega)
      subst e
      rw [← h1, ← h2]
      unfold pulseL
      rw [Int.toNat_natCast, Int.toNat_natCast]
      refine pulse_yes _ ad c0_0 l0_0 n1 n2 a3 P0_0_ w hF hc (by omega) (by omega) hz.1 hz.2 ?_
      unfold nextV
      by_cases hc : rd (rd_L1 l0_0 n1) n2 = 2 ∨ rd (rd_L1 l0_0 n1) n2 = 3
      · exact .inl ⟨hc, by rw [if_pos hc]⟩
      · exact .inr ⟨fun h => hc (.inl h), fun h => hc (.inr h), by rw [if_neg hc]⟩
    · rw [if_neg hz] at h
      cases h
  · rw [if_neg hy] at h
    injection h with h
    injection h with h1 h2
    rw [← h1, ← h2]
    refine (pulse_no A0_0 c0_0 l0_0 a1 a2 a3 w (Kd.F_now hF) hc hy).mono ?_
    rintro e w' ⟨rfl, hb⟩
    exact ⟨_, rfl, Kd.V_mono (Kd.V_below hs0_0 hb) (fun k hk => .inl hk), hb⟩
end Go.Proofs.Ytnobomefhpkicaa.P
