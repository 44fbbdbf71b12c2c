/- The walk of the reference's Pulse: new rows, one cell of them written. No condition but the lengths. -/
import Derived.Test.YtnobomefhpkicaaH6
import Derived.Test.YtnobomefhpkicaaP2
namespace Go.Proofs.Ytnobomefhpkicaa.P
open Go.RowKit Go.Proofs.YtnobomefhpkicaaW.PrintWords Go.Proofs.YtnobomefhpkicaaW.PrintLast Go.Proofs.YtnobomefhpkicaaW.PrintMore
set_option linter.unusedVariables false
set_option linter.unusedSimpArgs false

/-- Rows of the call's own, each in a block of its own: the cells of the outer row. -/
structure GridC (W : World) (base : Nat) (v : Value) (ls : List (List Int)) (cs : List Value) : Prop where
  own : W.ownsRow base 26 1 v ls.length cs
  len : cs.length = ls.length
  row : ∀ (j : Nat) (l : List Int) (u : Value), ls[j]? = some l → cs[j]? = some u → W.ownsRow base 5 1 u l.length (l.map (Value.int .u8))
  apart : ∀ (j j' : Nat) (u u' : Value) (k : Nat), cs[j]? = some u → cs[j']? = some u' → u.ownBlock = some k → u'.ownBlock = some k → j = j'
theorem grid_nil (W : World) (base : Nat) : GridC W base (.slice none 0 0) [] [] :=
  ⟨⟨rfl, .inl ⟨rfl, rfl⟩⟩, rfl, fun j l u h => by simp at h, fun j j' u u' k h => by simp at h⟩
theorem own_types_ne {W : World} {b b' n n' k : Nat} {v u : Value} {xs ys : List Value} (hv : W.ownsRow b 26 1 v n xs) (hu : W.ownsRow b' 5 1 u n' ys) (hk : u.ownBlock = some k) : some k ≠ v.ownBlock := by
  intro he
  obtain ⟨c1, h1⟩ := own_typed hv k he.symm
  obtain ⟨c2, h2⟩ := own_typed hu k hk
  rw [h1] at h2
  injection h2 with h2
  injection h2 with _ h2
  cases h2
theorem GridC.move {W W2 : World} {base : Nat} {v : Value} {ls : List (List Int)} {cs : List Value} (h : GridC W base v ls cs) (hb : Below W.heap.size W W2) : GridC W2 base v ls cs :=
  ⟨own_move h.own (fun k hk => hb.block k (own_lt h.own k hk)), h.len, fun j l u h1 h2 => own_move (h.row j l u h1 h2) (fun k hk => hb.block k (own_lt (h.row j l u h1 h2) k hk)), h.apart⟩
theorem GridC.push {W W2 W3 : World} {base : Nat} {v v1 u : Value} {ls : List (List Int)} {cs : List Value} {l : List Int} (h : GridC W base v ls cs) (hbase : base ≤ W.heap.size) (hB : Below W.heap.size W W2)
    (hu : W2.ownsRow W.heap.size 5 1 u l.length (l.map (Value.int .u8))) (h3 : W3.ownsRow base 26 1 v1 (ls.length + 1) (cs ++ [u]))
    (hg : ∀ k, k < W2.heap.size → some k ≠ v.ownBlock → W3.heap[k]? = W2.heap[k]?) : GridC W3 base v1 (ls ++ [l]) (cs ++ [u]) := by
  have hlt : ∀ (j : Nat) (l' : List Int) (u' : Value), ls[j]? = some l' → cs[j]? = some u' → ∀ k, u'.ownBlock = some k → k < W.heap.size := fun j l' u' h1 h2 k hk => own_lt (h.row j l' u' h1 h2) k hk
  have hsz := hB.size
  have hget : ∀ (j : Nat) (u' : Value), cs[j]? = some u' → ∃ l', ls[j]? = some l' := by
    intro j u' hj
    have := (List.getElem?_eq_some_iff.1 hj).1
    exact ⟨_, List.getElem?_eq_getElem (by rw [← h.len]; exact this)⟩
  refine ⟨by rw [List.length_append]; exact h3, by rw [List.length_append, List.length_append, h.len]; rfl, ?_, ?_⟩
  · intro j l' u' h1 h2
    rcases Nat.lt_or_ge j ls.length with hj | hj
    · rw [List.getElem?_append_left hj] at h1
      rw [List.getElem?_append_left (by rw [h.len]; exact hj)] at h2
      have hr := h.row j l' u' h1 h2
      refine own_move hr (fun k hk => ?_)
      have hk' := own_lt hr k hk
      rw [hg k (by omega) (own_types_ne h.own hr hk), hB.block k hk']
    · rw [List.getElem?_append_right hj] at h1
      rw [List.getElem?_append_right (by rw [h.len]; exact hj)] at h2
      have hj0 : j - ls.length = 0 := by have := (List.getElem?_eq_some_iff.1 h1).1; simp at this; omega
      rw [hj0] at h1
      rw [h.len, hj0] at h2
      cases h1
      cases h2
      refine own_move (own_weaken hu hbase) (fun k hk => ?_)
      have hk1 := own_base hu k hk
      refine hg k (own_lt hu k hk) (fun he => ?_)
      have := own_lt h.own k he.symm
      omega
  · have key : ∀ (j : Nat) (u' : Value), (cs ++ [u])[j]? = some u' → ∀ k, u'.ownBlock = some k → (cs[j]? = some u' ∧ k < W.heap.size) ∨ (j = cs.length ∧ W.heap.size ≤ k) := by
      intro j u' hj k hk
      rcases Nat.lt_or_ge j cs.length with hl | hl
      · rw [List.getElem?_append_left hl] at hj
        obtain ⟨l', hl'⟩ := hget j u' hj
        exact .inl ⟨hj, hlt j l' u' hl' hj k hk⟩
      · rw [List.getElem?_append_right hl] at hj
        have hj0 : j - cs.length = 0 := by have := (List.getElem?_eq_some_iff.1 hj).1; simp at this; omega
        rw [hj0] at hj
        cases hj
        exact .inr ⟨by omega, own_base hu k hk⟩
    intro j j' u1 u2 k h1 h2 hk1 hk2
    rcases key j u1 h1 k hk1 with ⟨a1, b1⟩ | ⟨a1, b1⟩ <;> rcases key j' u2 h2 k hk2 with ⟨a2, b2⟩ | ⟨a2, b2⟩
    · exact h.apart j j' u1 u2 k a1 a2 hk1 hk2
    · omega
    · omega
    · omega
theorem GridC.put {W : World} {base g2 cap2 n1 n2 : Nat} {v : Value} {ls : List (List Int)} {cs : List Value} {l : List Int} (h : GridC W base v ls cs) (hl : ls[n1]? = some l) (hc : cs[n1]? = some (.slice (some ⟨g2, 0, none⟩) l.length cap2)) (x : Int) :
    GridC (W.setCell ⟨g2, n2, none⟩ (.int .u8 x)) base v (ls.set n1 (l.set n2 x)) cs := by
  have hr := h.row n1 l _ hl hc
  refine ⟨?_, by rw [List.length_set]; exact h.len, ?_, h.apart⟩
  · rw [List.length_set]
    exact own_move h.own (fun k hk => Below.heap_setCell _ _ _ _ (fun e => own_types_ne h.own hr (k := g2) rfl (by rw [hk]; exact congrArg some e.symm)))
  · intro j l' u' h1 h2
    by_cases hj : j = n1
    · subst hj
      rw [hc] at h2
      cases h2
      rw [List.getElem?_set_self (List.getElem?_eq_some_iff.1 hl).1] at h1
      cases h1
      rw [List.length_set, List.map_set]
      exact (hr.stored n2 (.int .u8 x)).1
    · rw [List.getElem?_set_ne (by omega)] at h1
      have hr' := h.row j l' u' h1 h2
      refine own_move hr' (fun k hk => Below.heap_setCell _ _ _ _ (fun e => hj ?_))
      exact h.apart j n1 u' _ k h2 hc hk (by rw [show k = g2 from e]; rfl)
theorem GridC.V {W : World} {base base' : Nat} {v : Value} {ls : List (List Int)} {cs : List Value} {ok : Nat → Prop} (h : GridC W base v ls cs) (hok : ∀ k, base ≤ k → ok k) (hn : ls.length ≤ 9223372036854775807) :
    Kd.V (Kd.slice 5 (Kd.int .u8)) 26 W base' ok v ls := by
  rcases h.own.2 with ⟨hv, h0⟩ | ⟨g, cap, cur, hv, hg, _⟩
  · subst hv
    have : ls = [] := List.eq_nil_of_length_eq_zero (by have := h.len; simp_all)
    subst this
    exact Kd.V_nil _ _ _ _ _
  · subst hv
    refine V_of_cells rfl rfl hn h.own (hok g hg) (fun j x u hx hu => Kd.FK_of_M (base := base) ⟨_, rfl, ?_⟩)
    have hr := h.row j x u hx hu
    exact Kd.R_of_own hr (fun k hk => hok k (own_base hr k hk))

theorem refExists_any (A0_0 : Option Addr) (c0_0 : Nat) (l0_0 : List (List Int)) (a1 : Int) (a2 : Int) (w : World) (hr0_0 : Kd.C (Kd.slice 5 (Kd.int .u8)) w A0_0 l0_0.length l0_0) (hc0_0 : l0_0.length ≤ c0_0) :
    Calls Try.prog 29 #[.agg #[.slice A0_0 l0_0.length c0_0], .int .i64 a1, .int .i64 a2] w fun e w' => e = .returned (.bool (decide (0 ≤ a1 ∧ a1 < (l0_0.length : Int) ∧ 0 ≤ a2 ∧ a2 < ((rd_L1 l0_0 a1).length : Int)))) ∧ Below w.heap.size w w' := by
  refine bootchainref07_Exists.calls A0_0 c0_0 l0_0 a1 a2 _ w hr0_0 hc0_0 ?_
  unfold bootchainref07_Exists.f
  by_cases h1 : a1 < 0
  · rw [if_pos h1]; simp; omega
  · rw [if_neg h1]
    by_cases h2 : a1 ≥ (l0_0.length : Int)
    · rw [if_pos h2]; simp; omega
    · rw [if_neg h2]
      by_cases h3 : a2 ≥ 0
      · rw [if_pos h3, if_pos (by omega), if_pos (by omega)]
        have h4 : 0 ≤ a1 := by omega
        have h5 : a1 < (l0_0.length : Int) := by omega
        simp [h3, h4, h5]
      · rw [if_neg h3]; simp; omega
/-- What the rounds of the copying loop keep. -/
structure RP (w W1 : World) (A : Option Addr) (l0 : List (List Int)) (c n : Nat) (v : Value) (cs : List Value) (W : World) : Prop where
  bx : W.cell? ⟨w.heap.size, 0, none⟩ = some (.slice A l0.length c)
  br : W.cell? ⟨w.heap.size + 1, 0, none⟩ = some (.slice none 0 0)
  fr : W.frozen? ⟨w.heap.size + 1, 0, none⟩ = false
  bo : W.cell? ⟨W1.heap.size, 0, none⟩ = some v
  fo : W.frozen? ⟨W1.heap.size, 0, none⟩ = false
  grid : GridC W (W1.heap.size + 1) v (l0.take n) cs
  below : Below w.heap.size w W
  size : W1.heap.size + 1 ≤ W.heap.size
theorem RP.move {w W1 : World} {A : Option Addr} {l0 : List (List Int)} {c n : Nat} {v : Value} {cs : List Value} {W W' : World} (h : RP w W1 A l0 c n v cs W) (hw : w.heap.size + 2 ≤ W1.heap.size) (hb : Below W.heap.size W W') : RP w W1 A l0 c n v cs W' := by
  have hs := h.size
  exact ⟨(hb.cell (p := ⟨w.heap.size, 0, none⟩) (by simp; omega)).trans h.bx, (hb.cell (p := ⟨w.heap.size + 1, 0, none⟩) (by simp; omega)).trans h.br, (hb.frozen (p := ⟨w.heap.size + 1, 0, none⟩) (by simp; omega)).trans h.fr,
    (hb.cell (p := ⟨W1.heap.size, 0, none⟩) (by simp; omega)).trans h.bo, (hb.frozen (p := ⟨W1.heap.size, 0, none⟩) (by simp; omega)).trans h.fo, h.grid.move hb, h.below.trans (hb.mono h.below.size), Nat.le_trans hs hb.size⟩
/-- One round's end. -/
theorem RP.next {w W1 : World} {A : Option Addr} {l0 : List (List Int)} {c n : Nat} {v u : Value} {cs : List Value} {W W2 W3 : World} (h : RP w W1 A l0 c n v cs W) (hw : w.heap.size + 2 ≤ W1.heap.size) (hn : n < l0.length) (hb : Below W.heap.size W W2)
    (hu : W2.ownsRow W.heap.size 5 1 u (rd_L1 l0 n).length ((rd_L1 l0 n).map (Value.int .u8))) {v1 : Value} (h3 : W3.ownsRow (W1.heap.size + 1) 26 1 v1 (n + 1) (cs ++ [u])) (hb3 : Below (W1.heap.size + 1) W2 W3) (hg : ∀ k, k < W2.heap.size → some k ≠ v.ownBlock → W3.heap[k]? = W2.heap[k]?) :
    RP w W1 A l0 c (n + 1) v1 (cs ++ [u]) (W3.setCell ⟨W1.heap.size, 0, none⟩ v1) := by
  have h2 := h.move hw hb
  have hs := h2.size
  have hlen : (l0.take n).length = n := by rw [List.length_take]; omega
  have hg3 : GridC W3 (W1.heap.size + 1) v1 (l0.take n ++ [rd_L1 l0 n]) (cs ++ [u]) := h.grid.push h.size hb hu (by rw [hlen]; exact h3) hg
  have he : l0.take n ++ [rd_L1 l0 n] = l0.take (n + 1) := by
    rw [List.take_add_one, List.getElem?_eq_getElem hn]
    unfold rd_L1
    rw [Int.toNat_natCast, List.getD_eq_getElem?_getD, List.getElem?_eq_getElem hn]
    rfl
  rw [he] at hg3
  have hk : ∀ p : Addr, p.block < W1.heap.size → (W3.setCell ⟨W1.heap.size, 0, none⟩ v1).cell? p = W2.cell? p := fun p hp =>
    (World.cell?_of_block (w := W3) (Below.heap_setCell W3 _ _ _ (by simp; omega))).trans (hb3.cell (p := p) (by omega))
  have hbo : W3.cell? ⟨W1.heap.size, 0, none⟩ = some v := (hb3.cell (p := ⟨W1.heap.size, 0, none⟩) (by simp)).trans h2.bo
  refine ⟨(hk _ (by simp; omega)).trans h2.bx, (hk _ (by simp; omega)).trans h2.br, ?_, World.cell?_setCell_same' _ _ _ (by rw [hbo]; rfl), ?_, ?_, ?_, ?_⟩
  · rw [World.frozen?_setCell]; exact (hb3.frozen (p := ⟨w.heap.size + 1, 0, none⟩) (by simp; omega)).trans h2.fr
  · rw [World.frozen?_setCell]; exact (hb3.frozen (p := ⟨W1.heap.size, 0, none⟩) (by simp)).trans h2.fo
  · have hm : ∀ k, W1.heap.size + 1 ≤ k → (W3.setCell ⟨W1.heap.size, 0, none⟩ v1).heap[k]? = W3.heap[k]? := fun k hk => Below.heap_setCell W3 _ _ _ (by simp; omega)
    exact ⟨own_move hg3.own (fun k hk => hm k (own_base hg3.own k hk)), hg3.len, fun j l u' h1 h4 => own_move (hg3.row j l u' h1 h4) (fun k hk => hm k (own_base (hg3.row j l u' h1 h4) k hk)), hg3.apart⟩
  · exact (h2.below.trans (hb3.mono (by omega))).setCell (p := ⟨W1.heap.size, 0, none⟩) (by simp; omega) _
  · rw [World.size_setCell]; exact Nat.le_trans hs hb3.size

theorem refPulse_end (w W : World) (b g cap : Nat) (ls : List (List Int)) (cs : List Value) (T : Array Value) (hG : GridC W b (.slice (some ⟨g, 0, none⟩) ls.length cap) ls cs) (hb : w.heap.size + 2 ≤ b) (hn : ls.length ≤ 1000) (hB : Below w.heap.size w W)
    (hr : W.cell? ⟨w.heap.size + 1, 0, none⟩ = some (.slice none 0 0))
    (hres : ∀ W' : World, W'.cell? ⟨w.heap.size + 1, 0, none⟩ = some (.slice (some ⟨g, 0, none⟩) ls.length cap) → (results Try.f16 T).run Try.prog W' = .ok (.tuple #[.agg #[.slice (some ⟨g, 0, none⟩) ls.length cap], .int .i64 0]) W') :
    bodyPost Try.prog Try.f16 (fun e w' => ∃ v0_, e = Ending.returned (.tuple #[.agg #[v0_], .int .i64 0]) ∧ Kd.V (Kd.slice 5 (Kd.int .u8)) 26 w' w.heap.size (fun k_ => w.heap.size ≤ k_) v0_ ls ∧ Below w.heap.size w w') Exit.ret
      { tmps := T, defers := [] } (W.setCell ⟨w.heap.size + 1, 0, none⟩ (.slice (some ⟨g, 0, none⟩) ls.length cap)) := by
  have hm : ∀ k, b ≤ k → (W.setCell ⟨w.heap.size + 1, 0, none⟩ (.slice (some ⟨g, 0, none⟩) ls.length cap)).heap[k]? = W.heap[k]? := fun k hk => Below.heap_setCell W _ _ _ (by simp; omega)
  have hG' : GridC (W.setCell ⟨w.heap.size + 1, 0, none⟩ (.slice (some ⟨g, 0, none⟩) ls.length cap)) b (.slice (some ⟨g, 0, none⟩) ls.length cap) ls cs :=
    ⟨own_move hG.own (fun k hk => hm k (own_base hG.own k hk)), hG.len, fun j l u h1 h2 => own_move (hG.row j l u h1 h2) (fun k hk => hm k (own_base (hG.row j l u h1 h2) k hk)), hG.apart⟩
  refine bodyPost_ret (hres _ (World.cell?_setCell_same' _ _ _ (by rw [hr]; rfl))) rfl ⟨_, rfl, hG'.V (fun k hk => by omega) (by omega), hB.setCell (p := ⟨w.heap.size + 1, 0, none⟩) (by simp) _⟩
def refPulse.T7 : Bool × List (List Nat × List Nat) := (true, [([], []), ([0], [0]), ([], []), ([], []), ([3], [3]), ([], []), ([4, 5], [4, 5]), ([6], [6]), ([2, 7], [2, 7]), ([8], [8]), ([1, 9, 8], [1, 9]), ([0, 1, 2, 3, 4, 5, 6, 7, 8, 9, 10], []), ([11, 10, 10, 0, 1, 2, 3, 4, 5, 6, 7, 8, 9, 10], [10, 11])])
def refPulse.B7 : List Nat := [0, 1, 0, 0, 8, 0, 56, 120, 252, 508, 1023, 2047, 4095]
theorem refPulse.tab7 : rtab .any (opsOf Try.f16 7) = refPulse.T7 := by kernel_rfl
theorem refPulse.bits7 : waitsOk refPulse.T7.2 refPulse.B7 = true := by kernel_rfl
set_option maxRecDepth 100000 in
set_option maxHeartbeats 2000000 in
theorem refPulse_yes (ad : Addr) (c : Nat) (l0 : List (List Int)) (n1 n2 : Nat) (a3 : Bool) (w : World) (hr : Kd.C (Kd.slice 5 (Kd.int .u8)) w (some ad) l0.length l0) (hc : l0.length ≤ c)
    (h1 : n1 < l0.length) (h2 : n2 < (rd_L1 l0 n1).length) (hl1 : l0.length ≤ 1000) (hl2 : ∀ l ∈ l0, l.length ≤ 1000) :
    Calls Try.prog 16 #[.agg #[.slice (some ad) l0.length c], .int .i64 n1, .int .i64 n2, .bool a3] w fun e w' => ∃ v0_ : Value, e = .returned (.tuple #[.agg #[v0_], .int .i64 0]) ∧
      Kd.V (Kd.slice 5 (Kd.int .u8)) 26 w' w.heap.size (fun k_ => w.heap.size ≤ k_) v0_ (if rd (rd_L1 l0 n1) n2 ≤ 1 then l0.set n1 ((rd_L1 l0 n1).set n2 (if a3 = true then 1 else 2)) else l0) ∧ Below w.heap.size w w' := by
  have HD := Lib.hid (decide_eq_true (show 0 ≤ (n1 : Int) ∧ (n1 : Int) < (l0.length : Int) ∧ 0 ≤ (n2 : Int) ∧ (n2 : Int) < ((rd_L1 l0 n1).length : Int) by omega))
  have HR := Lib.hid hr
  have HL2 := Lib.hid hl2
  clear hr hl2
  go_enter Try.func16, Try.ntmps16
  go_wp2_with fail
  refine (refExists_any (some ad) c l0 n1 n2 _ (Kd.C_alloc (Kd.C_alloc HR.out _) _) hc).mono ?_
  rintro e W1 ⟨rfl, hB1⟩
  rw [HD.out]
  have hbx : W1.cell? ⟨w.heap.size, 0, none⟩ = some (.slice (some ad) l0.length c) := (hB1.cell (p := ⟨w.heap.size, 0, none⟩) (by simp; omega)).trans ((Boxed.new w 24 (.slice (some ad) l0.length c)).alloc _).cell
  have hbf : W1.frozen? ⟨w.heap.size, 0, none⟩ = false := (hB1.frozen (p := ⟨w.heap.size, 0, none⟩) (by simp; omega)).trans ((Boxed.new w 24 (.slice (some ad) l0.length c)).alloc _).frozen
  have bN := Boxed.new (w.alloc (.cells #[.slice (some ad) l0.length c] 24)) 24 (.slice none 0 0)
  rw [World.size_alloc] at bN
  have hbr : W1.cell? ⟨w.heap.size + 1, 0, none⟩ = some (.slice none 0 0) := (hB1.cell (p := ⟨w.heap.size + 1, 0, none⟩) (by simp)).trans bN.cell
  have hfr : W1.frozen? ⟨w.heap.size + 1, 0, none⟩ = false := (hB1.frozen (p := ⟨w.heap.size + 1, 0, none⟩) (by simp)).trans bN.frozen
  have HB := Lib.hid (((Below.refl w.heap.size w).alloc (Nat.le_refl _) (.cells #[.slice (some ad) l0.length c] 24)).alloc (by simp) (.cells #[.slice none 0 0] 24) |>.trans (hB1.mono (by simp; omega)))
  have hs1 : w.heap.size + 2 ≤ W1.heap.size := by have := hB1.size; simp at this; omega
  have HI := Lib.hid (show RP w W1 (some ad) l0 c 0 (.slice none 0 0) [] (W1.alloc (.cells #[.slice none 0 0] 24)) from by
    have b0 := Boxed.new W1 24 (.slice none 0 0)
    have hb := (Below.refl W1.heap.size W1).alloc (Nat.le_refl _) (.cells #[.slice none 0 0] 24)
    exact ⟨(hb.cell (p := ⟨w.heap.size, 0, none⟩) (by simp; omega)).trans hbx, (hb.cell (p := ⟨w.heap.size + 1, 0, none⟩) (by simp; omega)).trans hbr, (hb.frozen (p := ⟨w.heap.size + 1, 0, none⟩) (by simp; omega)).trans hfr, b0.cell, b0.frozen, grid_nil _ _, HB.out.trans (hb.mono (by omega)), by simp⟩)
  clear hB1 bN hbx hbf hbr hfr
  go_wp2_with fail
  go_loopw [11] (fun i W => ∃ (n : Nat) (v : Value) (cs : List Value), n ≤ l0.length ∧ i = .int .i64 n ∧ RP w W1 (some ad) l0 c n v cs W) (fun i _ => l0.length - (intOf i).toNat)
  case atStart => exact ⟨0, _, _, Nat.zero_le _, rfl, HI.out⟩
  case round =>
    obtain ⟨n, v, cs, hn, rfl, hI⟩ := hrel
    obtain ⟨bx, br, fr, bo, fo, hg, hB, hs⟩ := hI
    have HG := Lib.hid hg
    have HB2 := Lib.hid hB
    clear hg hB HI
    have hI := (show RP w W1 (some ad) l0 c n v cs wr from ⟨bx, br, fr, bo, fo, HG.out, HB2.out, hs⟩)
    by_cases hlt : n < l0.length
    · have hd : decide ((n : Int) < (l0.length : Int)) = true := by simp; omega
      have hI2 := Lib.hid (hI.move hs1 (Below.refl wr.heap.size wr).drew)
      obtain ⟨ad', A1, c1, e, hx, hlc, hi⟩ := at_L1 HR.out n (by omega) (by omega)
      cases e
      rw [Int.toNat_natCast] at hx
      have hxl : (ad.add n).block < w.heap.size := World.block_lt_of_cell? w _ hx
      have hx2 : wr.drew.cell? (ad.add n) = some (.slice A1 (rd_L1 l0 n).length c1) := (HB2.out.cell hxl).trans hx
      have HC2 := Lib.hid (Kd.C_below hi HB2.out.drew)
      have ha2 : ∀ o, Below wr.drew.heap.size wr.drew (wr.drew.alloc o) := fun o => (Below.refl _ _).alloc (Nat.le_refl _) o
      have ha3 : ∀ (w3 : World) o, Below w3.heap.size w3 (w3.alloc o) := fun w3 o => (Below.refl _ _).alloc (Nat.le_refl _) o
      have hrow : (rd_L1 l0 n).length ≤ 1000 := HL2.out _ (by unfold rd_L1; rw [Int.toNat_natCast, List.getD_eq_getElem?_getD, List.getElem?_eq_getElem hlt]; exact List.getElem_mem hlt)
      clear hi hx
      go_upto_region 7 with (fail)
      refine start_ (n := 13) (S := fun w' => w'.cell? ⟨W1.heap.size, 0, none⟩ = some v ∧ w'.cell? ⟨w.heap.size, 0, none⟩ = some (.slice (some ad) l0.length c) ∧ w'.cell? (ad.add n) = some (.slice A1 (rd_L1 l0 n).length c1)) (ds := [12]) #[false, false, false, false, false, false, false, false, false, false, false, false, false] (by kernel_rfl) rfl rfl ⟨hI2.out.bo, hI2.out.bx, hx2⟩ (fun hHeld => ?_)
      refine with_tabW refPulse.tab7 refPulse.bits7 (fun HT_ HW_ => ?_)
      generalize hwd : wr.drew = w2 at hI2 hx2 HC2 ha2 hHeld ⊢
      refine pure_ (i := 0) (N := some 26) (v := ?_) (a' := ?_) #[true, false, false, false, false, false, false, false, false, false, false, false, false] rfl rfl (any_of HT_.out (by kernel_rfl)) (fun _ _ _ h => h) (Or.inl ⟨by rfl, ?_⟩) ?_ ?_
      rotate_left
      · intro w'
        go_simp
        first | done | (with_reducible rfl)
      rotate_left
      · simp only [Act.put, List.setIfInBounds_toArray, List.set_cons_zero, List.set_cons_succ, i64_w, i32_w]
        rfl
      refine pure_ (i := 3) (N := some 29) (v := ?_) (a' := ?_) #[true, false, false, true, false, false, false, false, false, false, false, false, false] rfl rfl (any_of HT_.out (by kernel_rfl)) (fun _ _ _ h => h) (Or.inl ⟨by rfl, ?_⟩) ?_ ?_
      rotate_left
      · intro w'
        go_simp
        first | done | (with_reducible rfl)
      rotate_left
      · simp only [Act.put, List.setIfInBounds_toArray, List.set_cons_zero, List.set_cons_succ, i64_w, i32_w]
        rfl
      refine pure_ (i := 5) (N := some 31) (v := ?_) (a' := ?_) #[true, false, false, true, false, true, false, false, false, false, false, false, false] rfl rfl (any_of HT_.out (by kernel_rfl)) (fun _ _ _ h => h) (Or.inl ⟨by rfl, ?_⟩) ?_ ?_
      rotate_left
      · intro w'
        go_simp
        first | done | (with_reducible rfl)
      rotate_left
      · simp only [Act.put, List.setIfInBounds_toArray, List.set_cons_zero, List.set_cons_succ, i64_w, i32_w]
        rfl
      refine take_ (i := 1) (N := some 27) (v := ?_) (a' := ?_) #[true, true, false, true, false, true, false, false, false, false, false, false, false] rfl rfl (take_ofW HT_.out HW_.out (by kernel_rfl)) (fun _ _ _ h => h) (Or.inl ⟨by rfl, ?_⟩) hHeld ?_ ?_
      rotate_left
      · rintro w' ⟨s0, s1, s2⟩
        go_simp
        first | done | (with_reducible rfl)
      rotate_left
      · simp only [Act.put, List.setIfInBounds_toArray, List.set_cons_zero, List.set_cons_succ, i64_w, i32_w]
        rfl
      refine take_ (i := 4) (N := some 30) (v := ?_) (a' := ?_) #[true, true, false, true, true, true, false, false, false, false, false, false, false] rfl rfl (take_ofW HT_.out HW_.out (by kernel_rfl)) (fun _ _ _ h => h) (Or.inl ⟨by rfl, ?_⟩) hHeld ?_ ?_
      rotate_left
      · rintro w' ⟨s0, s1, s2⟩
        go_simp
        first | done | (with_reducible rfl)
      rotate_left
      · simp only [Act.put, List.setIfInBounds_toArray, List.set_cons_zero, List.set_cons_succ, i64_w, i32_w]
        rfl
      refine pure_ (i := 6) (N := some 32) (v := ?_) (a' := ?_) #[true, true, false, true, true, true, true, false, false, false, false, false, false] rfl rfl (any_of HT_.out (by kernel_rfl)) (fun _ _ _ h => h) (Or.inl ⟨by rfl, ?_⟩) ?_ ?_
      rotate_left
      · intro w'
        go_simp
        first | done | (with_reducible rfl)
      rotate_left
      · simp only [Act.put, List.setIfInBounds_toArray, List.set_cons_zero, List.set_cons_succ, i64_w, i32_w]
        rfl
      refine take_ (i := 7) (N := some 33) (v := ?_) (a' := ?_) #[true, true, false, true, true, true, true, true, false, false, false, false, false] rfl rfl (take_ofW HT_.out HW_.out (by kernel_rfl)) (fun _ _ _ h => h) (Or.inl ⟨by rfl, ?_⟩) hHeld ?_ ?_
      rotate_left
      · rintro w' ⟨s0, s1, s2⟩
        go_simp
        first | done | (with_reducible rfl)
      rotate_left
      · simp only [Act.put, List.setIfInBounds_toArray, List.set_cons_zero, List.set_cons_succ, i64_w, i32_w]
        rfl
      refine one_ (i := 2) (N := some 28) #[true, true, true, true, true, true, true, true, false, false, false, false, false] rfl rfl (one_of HT_.out (by kernel_rfl)) (by decide) (fun K hK => ?_)
      refine value_ (w1 := ?_) (v := ?_) (by rfl) rfl ?_ ?_
      rotate_left 2
      · go_simp
        constructor
        · rfl
        · rfl
      refine hK.out _ _ ⟨(hI2.out.move hs1 (ha2 _)).bo, (hI2.out.move hs1 (ha2 _)).bx, ((ha2 _).cell (World.block_lt_of_cell? w2 _ hx2)).trans hx2⟩ (fun hHeld => ?_)
      clear hK K
      refine norm_ (a' := ?_) ?_ ?_
      rotate_left
      · show Act.put _ (some 28) _ = _
        simp only [Act.put, List.setIfInBounds_toArray, List.set_cons_zero, List.set_cons_succ, i64_w, i32_w]
        rfl
      refine one_ (i := 8) (N := some 34) #[true, true, true, true, true, true, true, true, true, false, false, false, false] rfl rfl (one_of HT_.out (by kernel_rfl)) (by decide) (fun K hK => ?_)
      refine Kd.R_append_rows_step (Kd.int .u8) (Rr := (Kd.int .u8).K (w2.alloc (.cells #[] 5))) (w0 := w2) w2.heap.size (by rfl) (.tmp 28) (.tmp 33) 26 5 (.int .u8 0) 1 rfl Try.underlying26 info5 rfl (by decide) (by decide) (.slice (some ⟨w2.heap.size, 0, none⟩) 0 0) [] (rd_L1 l0 n) A1 _ c1 (fun _ => True) (fun _ => False) rfl rfl ?aO ?aR (fun _ _ h => h) (fun _ h => h.elim) (fun _ _ => trivial) (ha2 _) (by simp) ?aL ?_
      (case aO => exact Kd.R_of_own (World.ownsRow_lit w2 #[] 0 (Nat.le_refl _) (by simp [maxLen]) rfl) (fun _ _ => trivial))
      (case aR => exact Kd.C_below (HC2.out) (ha2 _))
      (case aL => simp; omega)
      intro u w3 hu hb3 _ _
      rw [List.nil_append] at hu
      obtain ⟨A2, c2, rfl⟩ := Kd.R_slice hu
      have hu2 := Kd.own_of_R hu
      have HU := Lib.hid hu2
      have HB3 := Lib.hid hb3
      clear hu hu2 hb3
      refine hK.out _ _ ⟨(hI2.out.move hs1 HB3.out).bo, (hI2.out.move hs1 HB3.out).bx, (HB3.out.cell (World.block_lt_of_cell? w2 _ hx2)).trans hx2⟩ (fun hHeld => ?_)
      clear hK K
      refine norm_ (a' := ?_) ?_ ?_
      rotate_left
      · show Act.put _ (some 34) _ = _
        simp only [Act.put, List.setIfInBounds_toArray, List.set_cons_zero, List.set_cons_succ, i64_w, i32_w]
        rfl
      refine one_ (i := 9) (N := some 35) #[true, true, true, true, true, true, true, true, true, true, false, false, false] rfl rfl (one_of HT_.out (by kernel_rfl)) (by decide) (fun K hK => ?_)
      refine value_ (w1 := ?_) (v := ?_) (by rfl) rfl ?_ ?_
      rotate_left 2
      · go_simp
        constructor
        · rfl
        · rfl
      refine hK.out _ _ ⟨((hI2.out.move hs1 HB3.out).move hs1 (ha3 w3 _)).bo, ((hI2.out.move hs1 HB3.out).move hs1 (ha3 w3 _)).bx, ((HB3.out.trans ((ha3 w3 _).mono HB3.out.size)).cell (World.block_lt_of_cell? w2 _ hx2)).trans hx2⟩ (fun hHeld => ?_)
      clear hK K
      refine norm_ (a' := ?_) ?_ ?_
      rotate_left
      · show Act.put _ (some 35) _ = _
        simp only [Act.put, List.setIfInBounds_toArray, List.set_cons_zero, List.set_cons_succ, i64_w, i32_w]
        rfl
      refine one_ (i := 10) (N := some 36) #[true, true, true, true, true, true, true, true, true, true, true, false, false] rfl rfl (one_of HT_.out (by kernel_rfl)) (by decide) (fun K hK => ?_)
      refine step_append_cells (w0 := w3) (W1.heap.size + 1) (by rfl) (.tmp 27) (.tmp 35) 22 26 (.slice none 0 0) 1 24 rfl Try.underlying22 info26 rfl (by decide) (by decide) v n cs [.slice A2 (rd_L1 l0 n).length c2] rfl rfl rfl (by simp [Value.oneCell']) ?aO (Below.refl _ _) (Nat.le_trans hI2.out.size HB3.out.size) (by omega) ?_
      (case aO => have h9 := (hI2.out.move hs1 HB3.out).grid.own; rwa [List.length_take, Nat.min_eq_left (by omega)] at h9)
      intro v1 w4 hv1 hb4 hg4 _
      obtain ⟨cap4, g4, rfl⟩ := own_form hv1 (by omega)
      have HV1 := Lib.hid hv1
      have HB4 := Lib.hid hb4
      have HG4 := Lib.hid hg4
      clear hv1 hb4 hg4
      refine hK.out _ _ ⟨(HB4.out.cell (p := ⟨W1.heap.size, 0, none⟩) (by simp)).trans (hI2.out.move hs1 HB3.out).bo, (HB4.out.cell (p := ⟨w.heap.size, 0, none⟩) (by simp; omega)).trans (hI2.out.move hs1 HB3.out).bx, (HB4.out.cell (p := ad.add n) (by omega)).trans ((HB3.out.cell (World.block_lt_of_cell? w2 _ hx2)).trans hx2)⟩ (fun hHeld => ?_)
      clear hK K
      refine norm_ (a' := ?_) ?_ ?_
      rotate_left
      · show Act.put _ (some 36) _ = _
        simp only [Act.put, List.setIfInBounds_toArray, List.set_cons_zero, List.set_cons_succ, i64_w, i32_w]
        rfl
      refine pure_ (i := 11) (N := some 37) (v := ?_) (a' := ?_) #[true, true, true, true, true, true, true, true, true, true, true, true, false] rfl rfl (any_of HT_.out (by kernel_rfl)) (fun _ _ _ h => h) (Or.inl ⟨by rfl, ?_⟩) ?_ ?_
      rotate_left
      · intro w'
        go_simp
        first | done | (with_reducible rfl)
      rotate_left
      · simp only [Act.put, List.setIfInBounds_toArray, List.set_cons_zero, List.set_cons_succ, i64_w, i32_w]
        rfl
      have hst : w4.cell? ⟨W1.heap.size, 0, none⟩ = some v := (HB4.out.cell (p := ⟨W1.heap.size, 0, none⟩) (by simp)).trans (hI2.out.move hs1 HB3.out).bo
      have hfz : w4.frozen? ⟨W1.heap.size, 0, none⟩ = false := (HB4.out.frozen (p := ⟨W1.heap.size, 0, none⟩) (by simp)).trans (hI2.out.move hs1 HB3.out).fo
      refine last_ (i := 12) (N := none) #[true, true, true, true, true, true, true, true, true, true, true, true, true] rfl rfl (one_of HT_.out (by kernel_rfl)) (by decide) (fun K hK => ?_)
      refine skip_ (w1 := ?_) (by rfl) rfl ?_ ?_
      rotate_left
      · go_simp
        rfl
      refine hK.out _ _ ?_
      clear hK K
      refine done_ (done_of HT_.out (by kernel_rfl)) ?_
      have HN := Lib.hid (RP.next (w := w) (W1 := W1) hI hs1 hlt (by rw [← hwd] at HB3; exact (Below.refl wr.heap.size wr).drew.trans HB3.out) (by rw [← hwd] at HU; exact HU.out) HV1.out HB4.out (fun k hk hv => HG4.out.block k hk hv))
      clear hst hfz hHeld
      go_wp2_with fail
      go_round
      case rel => exact ⟨n + 1, _, _, by omega, by go_num, HN.out⟩
      case measure => simp [intOf]; omega
    · have hn' : n = l0.length := by omega
      subst hn'
      have hG2 := HG.out
      rw [List.take_length] at hG2
      obtain ⟨l, hl⟩ : ∃ l, rd_L1 l0 n1 = l := ⟨_, rfl⟩
      have hl1' : l0[n1]? = some l := by rw [← hl]; unfold rd_L1; rw [Int.toNat_natCast, List.getD_eq_getElem?_getD, List.getElem?_eq_getElem h1]; rfl
      have hcl : n1 < cs.length := by rw [hG2.len]; exact h1
      have hr1 := hG2.row n1 l _ hl1' (List.getElem?_eq_getElem hcl)
      rw [hl] at h2
      obtain ⟨cap2, g2, hu2⟩ := own_form hr1 (by omega)
      obtain ⟨cap, g, rfl⟩ := own_form hG2.own (by omega)
      rw [hu2] at hr1
      have hc1 : cs[n1]? = some (.slice (some ⟨g2, 0, none⟩) l.length cap2) := by rw [List.getElem?_eq_getElem hcl, hu2]
      have q1 : wr.cell? ⟨g, n1, none⟩ = some (.slice (some ⟨g2, 0, none⟩) l.length cap2) := (hG2.own.cellAt n1 (by omega)).trans hc1
      have q2 : wr.cell? ⟨g2, n2, none⟩ = some (.int .u8 (rd l n2)) := (hr1.cellAt n2 (by omega)).trans (by rw [List.getElem?_map, List.getElem?_eq_getElem h2]; unfold rd; rw [Int.toNat_natCast, List.getD_eq_getElem?_getD, List.getElem?_eq_getElem h2]; rfl)
      have q3 : wr.frozen? ⟨g2, n2, none⟩ = false := hr1.frozenAt n2
      have hgo : W1.heap.size + 1 ≤ g := own_base hG2.own g rfl
      have hg2o : W1.heap.size + 1 ≤ g2 := own_base hr1 g2 rfl
      have HG2 := Lib.hid hG2
      have HC1 := Lib.hid hc1
      have HL1 := Lib.hid hl1'
      obtain ⟨x, hx⟩ : ∃ x, rd l n2 = x := ⟨_, rfl⟩
      rw [hx] at q2
      clear hG2 hr1 hc1 hl1' hu2 HG
      have hd1 : (decide ((n1 : Int) < (l0.length : Int)) = true) := by simp; omega
      have hd2 : (decide ((n2 : Int) < (l.length : Int)) = true) := by simp; omega
      by_cases hx1 : x ≤ 1
      · have hdx : decide (x ≤ 1) = true := decide_eq_true hx1
        cases a3
        · go_wp2_with fail
          all_goals
            have hp := (HG2.out.put HL1.out HC1.out 2 (n2 := n2))
            have hb9 : Below w.heap.size w (wr.setCell ⟨g2, n2, none⟩ (.int .u8 2)) := HB2.out.setCell (p := ⟨g2, n2, none⟩) (by simp; omega) _
            have hr9 : (wr.setCell ⟨g2, n2, none⟩ (.int .u8 2)).cell? ⟨w.heap.size + 1, 0, none⟩ = some (.slice none 0 0) := (World.cell?_of_block (w := wr) (Below.heap_setCell wr _ _ _ (by simp; omega))).trans br
            have h9 := refPulse_end w (wr.setCell ⟨g2, n2, none⟩ (.int .u8 2)) (W1.heap.size + 1) g cap (l0.set n1 (l.set n2 2)) cs
            rw [List.length_set] at h9
            exact h9 _ hp (by omega) (by omega) hb9 hr9 (fun W' hW' => by have hc := hW'; simp [results, Try.results16, go_sem, hc])
        · go_wp2_with fail
          all_goals
            have hp := (HG2.out.put HL1.out HC1.out 1 (n2 := n2))
            have hb9 : Below w.heap.size w (wr.setCell ⟨g2, n2, none⟩ (.int .u8 1)) := HB2.out.setCell (p := ⟨g2, n2, none⟩) (by simp; omega) _
            have hr9 : (wr.setCell ⟨g2, n2, none⟩ (.int .u8 1)).cell? ⟨w.heap.size + 1, 0, none⟩ = some (.slice none 0 0) := (World.cell?_of_block (w := wr) (Below.heap_setCell wr _ _ _ (by simp; omega))).trans br
            have h9 := refPulse_end w (wr.setCell ⟨g2, n2, none⟩ (.int .u8 1)) (W1.heap.size + 1) g cap (l0.set n1 (l.set n2 1)) cs
            rw [List.length_set] at h9
            exact h9 _ hp (by omega) (by omega) hb9 hr9 (fun W' hW' => by have hc := hW'; simp [results, Try.results16, go_sem, hc])
      · have hdx : decide (x ≤ 1) = false := decide_eq_false hx1
        cases a3
        · go_wp2_with fail
          all_goals
            exact refPulse_end w wr (W1.heap.size + 1) g cap l0 cs _ HG2.out (by omega) (by omega) HB2.out br (fun W' hW' => by have hc := hW'; simp [results, Try.results16, go_sem, hc])
        · go_wp2_with fail
          all_goals
            exact refPulse_end w wr (W1.heap.size + 1) g cap l0 cs _ HG2.out (by omega) (by omega) HB2.out br (fun W' hW' => by have hc := hW'; simp [results, Try.results16, go_sem, hc])
end Go.Proofs.Ytnobomefhpkicaa.P
