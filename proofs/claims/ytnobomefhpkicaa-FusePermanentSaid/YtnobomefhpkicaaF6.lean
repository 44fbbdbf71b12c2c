import Derived.Test.YtnobomefhpkicaaF4
import Derived.Test.YtnobomefhpkicaaP8
namespace Go.Proofs.Ytnobomefhpkicaa.P
open Go.RowKit Go.Proofs.YtnobomefhpkicaaW.PrintWords Go.Proofs.YtnobomefhpkicaaW.PrintLast Go.Proofs.YtnobomefhpkicaaW.PrintMore
set_option linter.unusedVariables false
set_option linter.unusedSimpArgs false

/-! ### ref.Sound -/
theorem sound_l2 (l : List (List Int)) (s : Small l) (n : Nat) (hn : n < l.length) (i : Nat) (hi : 3 * i + 2 < (rd_L1 l n).length) (R : Bool)
    (hR : smK stk (rd_L1 l n) i 3 ≤ 1 → Ev (fun k => bootchainref07_Sound.l1 k n ((3 * (i + 1) : Nat) : Int) l) R) (hR2 : ¬ smK stk (rd_L1 l n) i 3 ≤ 1 → R = false) :
    ∀ d j, 3 - j = d → j ≤ 3 → Ev (fun k => bootchainref07_Sound.l2 k n ((3 * i : Nat) : Int) (smK stk (rd_L1 l n) i j) j l) R
  | 0, j, hd, hj => by
    have e : j = 3 := by omega
    subst e
    have hb := (s.b n hn).1
    by_cases h1 : smK stk (rd_L1 l n) i 3 ≤ 1
    · refine Ev.step (f := fun k => bootchainref07_Sound.l1 k n ((3 * (i + 1) : Nat) : Int) l) (fun k => ?_) (hR h1)
      simp only [bootchainref07_Sound.l2]
      rw [if_neg (by omega), if_neg (by omega), w_in _ (by omega) (by omega)]
      congr 1
    · rw [hR2 h1]
      refine Ev.step (f := fun _ => some false) (fun k => ?_) (Ev.now _)
      simp only [bootchainref07_Sound.l2]
      rw [if_neg (by omega), if_pos (by omega)]
  | d + 1, j, hd, hj => by
    have hb := (s.b n hn).1
    have hs := smK_succ stk (rd_L1 l n) i j (by omega)
    have hbd := smK_bd stk stk_bd (rd_L1 l n) i j hj
    refine Ev.step (f := fun k => bootchainref07_Sound.l2 k n ((3 * i : Nat) : Int) (smK stk (rd_L1 l n) i (j + 1)) ((j + 1 : Nat) : Int) l) (fun k => ?_) (sound_l2 l s n hn i hi R hR hR2 d (j + 1) (by omega) (by omega))
    simp only [bootchainref07_Sound.l2]
    rw [if_pos (by omega), if_pos (by omega), if_pos (by omega), w_in (((3 * i : Nat) : Int) + j) (by omega) (by omega), if_pos (by omega), if_pos (by omega), w_succ j (by omega), hs]
    have e : ((3 * i : Nat) : Int) + j = 3 * (i : Int) + j := by omega
    rw [e]
    by_cases h3 : rd (rd_L1 l n) (3 * (i : Int) + j) = 3
    · rw [if_pos h3, w_in _ (by omega) (by omega)]
      have : stk (rd (rd_L1 l n) (3 * (i : Int) + j)) = 1 := by unfold stk; rw [if_pos h3]
      rw [this]
    · rw [if_neg h3]
      have : stk (rd (rd_L1 l n) (3 * (i : Int) + j)) = 0 := by unfold stk; rw [if_neg h3]
      rw [this, Int.add_zero]
theorem sound_l1 (l : List (List Int)) (s : Small l) (n : Nat) (hn : n < l.length) (R : Bool) (hR : Ev (fun k => bootchainref07_Sound.l0 k ((n + 1 : Nat) : Int) l) R) :
    ∀ d i, (rd_L1 l n).length / 3 - i = d → i ≤ (rd_L1 l n).length / 3 → Ev (fun k => bootchainref07_Sound.l1 k n ((3 * i : Nat) : Int) l) (sndB ((rd_L1 l n).drop (3 * i)) && R)
  | 0, i, hd, hi => by
    have hb := s.b n hn
    refine Ev.step (f := fun k => bootchainref07_Sound.l0 k ((n + 1 : Nat) : Int) l) (fun k => ?_) ?_
    · simp only [bootchainref07_Sound.l1]
      rw [if_pos (by omega), if_pos (by omega), w_in _ (by omega) (by omega), if_neg (by omega), w_succ n (by have := s.n; omega)]
    · rw [snd_short _ (by rw [List.length_drop]; omega), Bool.true_and]; exact hR
  | d + 1, i, hd, hi => by
    have hb := s.b n hn
    have ih := sound_l1 l s n hn R hR d (i + 1) (by omega) (by omega)
    refine Ev.step (f := fun k => bootchainref07_Sound.l2 k n ((3 * i : Nat) : Int) (smK stk (rd_L1 l n) i 0) ((0 : Nat) : Int) l) (fun k => ?_) ?_
    · simp only [bootchainref07_Sound.l1]
      rw [if_pos (by omega), if_pos (by omega), w_in _ (by omega) (by omega), if_pos (by omega)]
      have : smK stk (rd_L1 l n) i 0 = 0 := by simp [smK]
      rw [this]; rfl
    · rw [snd_step _ i (by omega)]
      refine sound_l2 l s n hn i (by omega) _ (fun h => ?_) (fun h => ?_) _ 0 rfl (by omega)
      · rw [decide_eq_true h, Bool.true_and]; exact ih
      · rw [decide_eq_false h]; rfl
theorem sound_l0 (l : List (List Int)) (s : Small l) : ∀ d i, l.length - i = d → i ≤ l.length → Ev (fun k => bootchainref07_Sound.l0 k i l) ((l.drop i).all sndB)
  | 0, i, hd, hi => by
    refine Ev.step (f := fun _ => some true) (fun k => ?_) ?_
    · simp only [bootchainref07_Sound.l0]; rw [if_neg (by omega)]
    · rw [List.drop_of_length_le (by omega)]; exact Ev.now _
  | d + 1, i, hd, hi => by
    have hlt : i < l.length := by omega
    rw [all_drop _ _ _ hlt]
    refine Ev.step (f := fun k => bootchainref07_Sound.l1 k i ((3 * 0 : Nat) : Int) l) (fun k => ?_) ?_
    · simp only [bootchainref07_Sound.l0]; rw [if_pos (by omega)]; rfl
    · have := sound_l1 l s i hlt _ (sound_l0 l s d (i + 1) (by omega) (by omega)) _ 0 rfl (by omega)
      exact this
theorem ref_sound (l : List (List Int)) (s : Small l) : Ev (fun k => bootchainref07_Sound.f k l) (l.all sndB) := by
  have := sound_l0 l s _ 0 rfl (by omega)
  rw [List.drop_zero] at this
  exact Ev.congr (fun k => by unfold bootchainref07_Sound.f; rfl) this
/-! ### FusePermanent -/
theorem ref_exists (l : List (List Int)) (a1 a2 : Int) : bootchainref07_Exists.f l a1 a2 = some (decide (0 ≤ a1 ∧ a1 < (l.length : Int) ∧ 0 ≤ a2 ∧ a2 < ((rd_L1 l a1).length : Int))) := by
  unfold bootchainref07_Exists.f
  by_cases h1 : a1 < 0
  · rw [if_pos h1, decide_eq_false (by omega)]
  · rw [if_neg h1]
    by_cases h2 : a1 ≥ (l.length : Int)
    · rw [if_pos h2, decide_eq_false (by omega)]
    · rw [if_neg h2]
      by_cases h3 : a2 ≥ 0
      · rw [if_pos h3, if_pos (by omega), if_pos (by omega)]
        congr 1
        rw [decide_eq_decide]
        omega
      · rw [if_neg h3, decide_eq_false (by omega)]
theorem permanent_pure (l : List (List Int)) (a1 a2 : Int) (hs : List S47) (noise : Bool) : ∃ k, bootchainlaw07_FusePermanent.f k l a1 a2 hs noise = some true := by
  have hv := ref_valid l
  refine Ev.rounds (g := fun k => bootchainlaw07_FusePermanent.f k l a1 a2 hs noise) ?_
  have hsan : Ev (fun k => bootchainlaw07_FusePermanent.j0 k a1 a2 hs noise true l) true := by
    refine Ev.step (f := fun _ => some true) (fun k => ?_) (Ev.now _)
    simp only [bootchainlaw07_FusePermanent.j0]
    rw [if_pos trivial, sanity_f4]
    rfl
  cases hb : validB l
  · rw [hb] at hv
    exact Ev.bind hv (Ev.congr (fun k => if_neg (by decide)) hsan)
  · rw [hb] at hv
    by_cases he : 0 ≤ a1 ∧ a1 < (l.length : Int) ∧ 0 ≤ a2 ∧ a2 < ((rd_L1 l a1).length : Int)
    · refine Ev.bind hv (Ev.congr (f := fun k => bootchainlaw07_FusePermanent.j0 k a1 a2 hs noise (decide ((hs.length : Int) > 100)) l) (fun k => ?_) ?_)
      · rw [if_pos rfl, ref_exists, decide_eq_true he]
        simp only [Option.bind_some]
        rw [if_pos trivial]
      · by_cases h2 : (hs.length : Int) > 100
        · rw [decide_eq_true h2]; exact hsan
        · rw [decide_eq_false h2]
          have s := small_of l hb
          have ha := hits_adv hs l
          obtain ⟨n, rfl⟩ := Int.eq_ofNat_of_zero_le he.1
          obtain ⟨m, rfl⟩ := Int.eq_ofNat_of_zero_le he.2.2.1
          have hn : n < l.length := by omega
          have hm : m < (rd_L1 l n).length := by omega
          have hr := read_at (hitsL l hs) n m noise (by have := ha.n; omega) (by have := ha.b n hn; omega)
          have hc := ha.c n m hn hm
          have hbd := readV_bd (rd (rd_L1 (hitsL l hs) n) m) noise
          obtain ⟨K, hK⟩ := hits_f l hs (by omega) s
          refine ⟨K + 1, fun k hk => ?_⟩
          obtain ⟨k, rfl⟩ : ∃ j, k = j + 1 := ⟨k - 1, by omega⟩
          simp only [bootchainlaw07_FusePermanent.j0]
          have hK' : bootchainlaw07_hits.f k l hs = some (hitsL l hs) := hK k (by omega)
          rw [if_neg (by decide), hK']
          simp only [Option.bind_some]
          rw [hr]
          simp only [Option.bind_some]
          rw [if_pos (by omega), if_pos (by omega), if_pos (by omega), if_pos (by omega), sanity_f4]
          simp only [Option.bind_some]
          by_cases c2 : rd (rd_L1 l n) m = 2
          · rw [if_pos c2, if_pos trivial, hc.two c2]; rfl
          · rw [if_neg c2]
            by_cases c3 : rd (rd_L1 l n) m = 3
            · rw [if_pos c3, if_pos trivial, hc.three c3]; rfl
            · rw [if_neg c3, if_pos trivial, if_pos trivial]
              by_cases h0 : readV (rd (rd_L1 (hitsL l hs) n) m) noise = 0
              · rw [if_pos h0]
              · rw [if_neg h0, show readV (rd (rd_L1 (hitsL l hs) n) m) noise = 1 by omega]; rfl
    · refine Ev.bind hv (Ev.congr (fun k => ?_) hsan)
      rw [if_pos rfl, ref_exists, decide_eq_false he]
      simp only [Option.bind_some]
      rw [if_neg (by decide)]
end Go.Proofs.Ytnobomefhpkicaa.P
