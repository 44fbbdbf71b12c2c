import Derived.Test.YtnobomefhpkicaaF2
import Derived.Test.YtnobomefhpkicaaP6
namespace Go.Proofs.Ytnobomefhpkicaa.P
open Go.RowKit Go.Proofs.YtnobomefhpkicaaW.PrintWords Go.Proofs.YtnobomefhpkicaaW.PrintLast Go.Proofs.YtnobomefhpkicaaW.PrintMore
set_option linter.unusedVariables false
set_option linter.unusedSimpArgs false

theorem sanity_f4 : bootchainlaw07_sanity.f = some true := rfl
theorem read_at (l : List (List Int)) (n m : Nat) (b : Bool) (h1 : n < l.length) (h2 : m < (rd_L1 l n).length) : fuse_Read.f l n m b = some (readV (rd (rd_L1 l n) m) b, 0) := by
  unfold fuse_Read.f fuse_exists.f
  rw [if_pos (by omega), if_pos (by omega), if_pos (by omega), if_pos (by omega)]
  simp only [Option.bind_some]
  rw [decide_eq_true (by omega), if_pos rfl, if_pos (by omega), if_pos (by omega), if_pos (by omega), if_pos (by omega)]
  unfold fuse_reading.f readV
  by_cases c2 : rd (rd_L1 l n) m = 2
  · rw [if_pos c2, if_pos c2]; rfl
  · rw [if_neg c2, if_neg c2]
    by_cases c1 : rd (rd_L1 l n) m = 1
    · rw [if_pos c1, if_pos c1]; cases b <;> rfl
    · rw [if_neg c1, if_neg c1]; rfl
theorem lvl_at (rdg : Int → Int) (cells : List Int) : ∀ i, 3 * i ≤ cells.length → (∀ j, j < i → 2 ≤ smK rdg cells j 3) → lvl rdg cells = i + lvl rdg (cells.drop (3 * i))
  | 0, _, _ => by simp
  | i + 1, h, hs => by
    rw [lvl_at rdg cells i (by omega) (fun j hj => hs j (by omega)), lvl_step rdg cells i (by omega), if_neg (by have := hs i (by omega); omega)]
    omega
theorem lvl_le (rdg : Int → Int) : ∀ cells : List Int, lvl rdg cells ≤ cells.length / 3
  | a :: b :: c :: t => by
    have := lvl_le rdg t
    unfold lvl
    split
    · omega
    · simp only [List.length_cons]; omega
  | [] => by simp [lvl]
  | [_] => by simp [lvl]
  | [_, _] => by simp [lvl]
/-- Up to i each bit passes: the level is at least i; if bit i fails, it is i at most. -/
theorem lvl_stop (rdg : Int → Int) (cells : List Int) : ∀ i, 3 * i + 2 < cells.length → smK rdg cells i 3 < 2 → lvl rdg cells ≤ i
  | i, h, hs => by
    by_cases hall : ∀ j, j < i → 2 ≤ smK rdg cells j 3
    · rw [lvl_at rdg cells i (by omega) hall, lvl_step rdg cells i h, if_pos (by omega)]; omega
    · have ⟨j, hj⟩ : ∃ j, ¬ (j < i → 2 ≤ smK rdg cells j 3) := Classical.not_forall.1 hall
      have hj1 : j < i := Classical.byContradiction (fun h => hj (fun hh => absurd hh h))
      have hj2 : smK rdg cells j 3 < 2 := by
        refine Classical.byContradiction (fun h => hj (fun _ => by omega))
      have := lvl_stop rdg cells j (by omega) hj2
      omega
  termination_by i => i
theorem sm_three (rdg : Int → Int) (cells : List Int) (i : Nat) (h : 3 * i + 2 < cells.length) : smK rdg cells i 3 = rdg (rd cells ((3 * i : Nat) : Int)) + rdg (rd cells ((3 * i + 1 : Nat) : Int)) + rdg (rd cells ((3 * i + 2 : Nat) : Int)) := by
  rw [smK_succ rdg cells i 2 (by omega), smK_succ rdg cells i 1 (by omega), smK_succ rdg cells i 0 (by omega)]
  have e0 : smK rdg cells i 0 = 0 := by simp [smK]
  rw [e0]
  have e1 : (3 * (i : Int) + ((0 : Nat) : Int)) = ((3 * i : Nat) : Int) := by omega
  have e2 : (3 * (i : Int) + ((1 : Nat) : Int)) = ((3 * i + 1 : Nat) : Int) := by omega
  have e3 : (3 * (i : Int) + ((2 : Nat) : Int)) = ((3 * i + 2 : Nat) : Int) := by omega
  rw [e1, e2, e3, Int.zero_add]
theorem readV_mono (c : Int) (b : Bool) : readV c false ≤ readV c b ∧ readV c b ≤ readV c true := by
  unfold readV
  cases b <;> (repeat' split) <;> simp_all
/-- What noise reads. -/
def nz (x2 : Int) (i : Nat) : Bool := (Go.bits .and .u64 (shr .u64 x2 i) 1) == 1
/-- The end of the loop over the bits. -/
theorem noise_end (l : List (List Int)) (s : Small l) (n : Nat) (hn : n < l.length) (i : Nat) (h1 : lvl (fun c => readV c false) (rd_L1 l n) ≤ i) (h2 : i ≤ lvl (fun c => readV c true) (rd_L1 l n)) :
    (bootchainlaw07_sanity.f).bind (fun t211 => (if t211 = true then ((fuse_Least.f l n).bind fun t212 => (if (i : Int) ≥ t212 then ((fuse_Most.f l n).bind fun t213 => (some (decide ((i : Int) ≤ t213)))) else (some false))) else (some false))) = some true := by
  rw [sanity_f4]
  simp only [Option.bind_some, fuse_Least.f, fuse_Most.f]
  rw [if_pos trivial, level_at _ l s n hn]
  simp only [Option.bind_some]
  rw [if_pos (by omega), level_at _ l s n hn]
  simp only [Option.bind_some]
  rw [decide_eq_true (by omega)]
theorem noise_l0 (l : List (List Int)) (s : Small l) (n : Nat) (hn : n < l.length) (x2 : Int) : ∀ d i, (rd_L1 l n).length / 3 - i = d → i ≤ (rd_L1 l n).length / 3 → (∀ j, j < i → 2 ≤ smK (fun c => readV c true) (rd_L1 l n) j 3) →
    Ev (fun k => bootchainlaw07_FuseNoise.l0 k n x2 i (((rd_L1 l n).length / 3 : Nat) : Int) i l) true
  | 0, i, hd, hi, hall => by
    have hb := s.b n hn
    refine Ev.step (f := fun _ => some true) (fun k => ?_) (Ev.now _)
    simp only [bootchainlaw07_FuseNoise.l0]
    rw [if_neg (by omega)]
    refine noise_end l s n hn i ?_ ?_
    · have := lvl_le (fun c => readV c false) (rd_L1 l n); omega
    · rw [lvl_at _ _ i (by omega) hall]; omega
  | d + 1, i, hd, hi, hall => by
    have hb := s.b n hn
    have h3 : 3 * i + 2 < (rd_L1 l n).length := by omega
    have e0 : wrap64 (wrap64 (3 * (i : Int)) + 0) = ((3 * i : Nat) : Int) := by rw [w_in (3 * (i : Int)) (by omega) (by omega), w_in _ (by omega) (by omega)]; omega
    have e1 : wrap64 (wrap64 (3 * (i : Int)) + 1) = ((3 * i + 1 : Nat) : Int) := by rw [w_in (3 * (i : Int)) (by omega) (by omega), w_in _ (by omega) (by omega)]; omega
    have e2 : wrap64 (wrap64 (3 * (i : Int)) + 2) = ((3 * i + 2 : Nat) : Int) := by rw [w_in (3 * (i : Int)) (by omega) (by omega), w_in _ (by omega) (by omega)]; omega
    have r0 := read_at l n (3 * i) (nz x2 (3 * i)) hn (by omega)
    have r1 := read_at l n (3 * i + 1) (nz x2 (3 * i + 1)) hn (by omega)
    have r2 := read_at l n (3 * i + 2) (nz x2 (3 * i + 2)) hn (by omega)
    have b0 := readV_bd (rd (rd_L1 l n) ((3 * i : Nat) : Int)) (nz x2 (3 * i))
    have b1 := readV_bd (rd (rd_L1 l n) ((3 * i + 1 : Nat) : Int)) (nz x2 (3 * i + 1))
    have b2 := readV_bd (rd (rd_L1 l n) ((3 * i + 2 : Nat) : Int)) (nz x2 (3 * i + 2))
    have m0 := readV_mono (rd (rd_L1 l n) ((3 * i : Nat) : Int)) (nz x2 (3 * i))
    have m1 := readV_mono (rd (rd_L1 l n) ((3 * i + 1 : Nat) : Int)) (nz x2 (3 * i + 1))
    have m2 := readV_mono (rd (rd_L1 l n) ((3 * i + 2 : Nat) : Int)) (nz x2 (3 * i + 2))
    have sf := sm_three (fun c => readV c false) (rd_L1 l n) i h3
    have st := sm_three (fun c => readV c true) (rd_L1 l n) i h3
    generalize readV (rd (rd_L1 l n) ((3 * i : Nat) : Int)) (nz x2 (3 * i)) = v0 at r0 b0 m0
    generalize readV (rd (rd_L1 l n) ((3 * i + 1 : Nat) : Int)) (nz x2 (3 * i + 1)) = v1 at r1 b1 m1
    generalize readV (rd (rd_L1 l n) ((3 * i + 2 : Nat) : Int)) (nz x2 (3 * i + 2)) = v2 at r2 b2 m2
    refine Ev.step (f := fun k => bootchainlaw07_FuseNoise.l1 k n x2 i i 0 (((rd_L1 l n).length / 3 : Nat) : Int) i 0 l) (fun k => ?_) ?_
    · simp only [bootchainlaw07_FuseNoise.l0]; rw [if_pos (by omega)]
    refine Ev.step (f := fun k => bootchainlaw07_FuseNoise.l1 k n x2 i i v0 (((rd_L1 l n).length / 3 : Nat) : Int) i 1 l) (fun k => ?_) ?_
    · simp only [bootchainlaw07_FuseNoise.l1]
      rw [if_pos (by omega), e0, if_pos (by omega)]
      rw [show ((Go.bits .and .u64 (shr .u64 x2 ((3 * i : Nat) : Int)) 1) == 1) = nz x2 (3 * i) from rfl, r0]
      simp only [Option.bind_some]
      rw [if_pos trivial, w_in (0 + v0) (by omega) (by omega), Int.zero_add, show wrap64 (0 + 1) = 1 from w_in _ (by omega) (by omega)]
    refine Ev.step (f := fun k => bootchainlaw07_FuseNoise.l1 k n x2 i i (v0 + v1) (((rd_L1 l n).length / 3 : Nat) : Int) i 2 l) (fun k => ?_) ?_
    · simp only [bootchainlaw07_FuseNoise.l1]
      rw [if_pos (by omega), e1, if_pos (by omega)]
      rw [show ((Go.bits .and .u64 (shr .u64 x2 ((3 * i + 1 : Nat) : Int)) 1) == 1) = nz x2 (3 * i + 1) from rfl, r1]
      simp only [Option.bind_some]
      rw [if_pos trivial, w_in (v0 + v1) (by omega) (by omega), show wrap64 (1 + 1) = 2 from w_in _ (by omega) (by omega)]
    refine Ev.step (f := fun k => bootchainlaw07_FuseNoise.l1 k n x2 i i (v0 + v1 + v2) (((rd_L1 l n).length / 3 : Nat) : Int) i 3 l) (fun k => ?_) ?_
    · simp only [bootchainlaw07_FuseNoise.l1]
      rw [if_pos (by omega), e2, if_pos (by omega)]
      rw [show ((Go.bits .and .u64 (shr .u64 x2 ((3 * i + 2 : Nat) : Int)) 1) == 1) = nz x2 (3 * i + 2) from rfl, r2]
      simp only [Option.bind_some]
      rw [if_pos trivial, w_in (v0 + v1 + v2) (by omega) (by omega), show wrap64 (2 + 1) = 3 from w_in _ (by omega) (by omega)]
    by_cases hlt : v0 + v1 + v2 < 2
    · refine Ev.step (f := fun _ => some true) (fun k => ?_) (Ev.now _)
      simp only [bootchainlaw07_FuseNoise.l1]
      rw [if_neg (by omega), if_pos hlt]
      refine noise_end l s n hn i (lvl_stop _ _ i h3 (by omega)) ?_
      rw [lvl_at _ _ i (by omega) hall]; omega
    · refine Ev.step (f := fun k => bootchainlaw07_FuseNoise.l0 k n x2 ((i + 1 : Nat) : Int) (((rd_L1 l n).length / 3 : Nat) : Int) ((i + 1 : Nat) : Int) l) (fun k => ?_) (noise_l0 l s n hn x2 d (i + 1) (by omega) (by omega) (fun j hj => ?_))
      · simp only [bootchainlaw07_FuseNoise.l1]
        rw [if_neg (by omega), if_neg hlt, w_succ i (by omega)]
      · by_cases e : j = i
        · subst e; omega
        · exact hall j (by omega)
theorem noise_pure (l : List (List Int)) (a1 a2 : Int) : ∃ k, bootchainlaw07_FuseNoise.f k l a1 a2 = some true := by
  have hv := ref_valid l
  refine Ev.rounds (g := fun k => bootchainlaw07_FuseNoise.f k l a1 a2) ?_
  have hsan : Ev (fun k => bootchainlaw07_FuseNoise.j0 k a1 a2 true l) true := by
    refine Ev.step (f := fun _ => some true) (fun k => ?_) (Ev.now _)
    simp only [bootchainlaw07_FuseNoise.j0]
    rw [if_pos trivial, sanity_f4]
    rfl
  cases hb : validB l
  · rw [hb] at hv
    exact Ev.bind hv (Ev.congr (fun k => if_neg (by decide)) hsan)
  · rw [hb] at hv
    refine Ev.bind hv (Ev.congr (f := fun k => if a1 < 0 then bootchainlaw07_FuseNoise.j0 k a1 a2 true l else bootchainlaw07_FuseNoise.j0 k a1 a2 (decide (a1 ≥ (l.length : Int))) l) (fun k => if_pos rfl) ?_)
    by_cases h0 : a1 < 0
    · exact Ev.congr (fun k => if_pos h0) hsan
    · refine Ev.congr (f := fun k => bootchainlaw07_FuseNoise.j0 k a1 a2 (decide (a1 ≥ (l.length : Int))) l) (fun k => if_neg h0) ?_
      by_cases h1 : a1 ≥ (l.length : Int)
      · rw [decide_eq_true h1]; exact hsan
      · rw [decide_eq_false h1]
        have s := small_of l hb
        obtain ⟨n, rfl⟩ := Int.eq_ofNat_of_zero_le (show 0 ≤ a1 by omega)
        refine Ev.step (f := fun k => bootchainlaw07_FuseNoise.l0 k n a2 ((0 : Nat) : Int) (((rd_L1 l n).length / 3 : Nat) : Int) ((0 : Nat) : Int) l) (fun k => ?_) (noise_l0 l s n (by omega) a2 _ 0 rfl (by omega) (fun j hj => by omega))
        simp only [bootchainlaw07_FuseNoise.j0]
        rw [if_neg (by decide), width_at l s n (by omega)]
        rfl
end Go.Proofs.Ytnobomefhpkicaa.P
