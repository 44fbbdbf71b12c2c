/- The reference's level and soundness answer as the program's, for every valid value. No condition but validity's own lengths. -/
import Derived.Test.YtnobomefhpkicaaF2
import Derived.Test.YtnobomefhpkicaaP4
import Derived.Test.YtnobomefhpkicaaPureFuseNew
namespace Go.Proofs.Ytnobomefhpkicaa.P
open Go.RowKit Go.Proofs.YtnobomefhpkicaaW.PrintWords Go.Proofs.YtnobomefhpkicaaW.PrintLast Go.Proofs.YtnobomefhpkicaaW.PrintMore
set_option linter.unusedVariables false
set_option linter.unusedSimpArgs false

def inB (l : List (List Int)) (a1 a2 : Int) : Bool := decide (0 ≤ a1 ∧ a1 < (l.length : Int) ∧ 0 ≤ a2 ∧ a2 < ((rd_L1 l a1).length : Int))
def readR (l : List (List Int)) (a1 a2 : Int) (nz : Bool) : Int × Int := if inB l a1 a2 = true then (readV (rd (rd_L1 l a1) a2) nz, 0) else (0, 1)
theorem ref_read (l : List (List Int)) (a1 a2 : Int) (nz : Bool) : bootchainref07_Read.f l a1 a2 nz = some (readR l a1 a2 nz) := by
  unfold bootchainref07_Read.f bootchainref07_Exists.f readR inB
  by_cases h1 : a1 < 0
  · rw [if_pos h1, decide_eq_false (by omega)]; rfl
  · rw [if_neg h1]
    by_cases h2 : a1 ≥ (l.length : Int)
    · rw [if_pos h2, decide_eq_false (by omega)]; rfl
    · rw [if_neg h2]
      by_cases h3 : a2 ≥ 0
      · rw [if_pos h3, if_pos (by omega), if_pos (by omega)]
        simp only [Option.bind_some]
        by_cases h4 : a2 < ((rd_L1 l a1).length : Int)
        · rw [decide_eq_true h4, if_pos rfl, if_pos (by omega), if_pos (by omega), if_pos (by omega), if_pos h4, decide_eq_true (by omega), if_pos rfl]
          unfold readV
          by_cases c2 : rd (rd_L1 l a1) a2 = 2
          · rw [if_pos c2, if_pos c2]
          · rw [if_neg c2, if_neg c2]
            by_cases c1 : rd (rd_L1 l a1) a2 = 1
            · rw [if_pos c1, if_pos c1]; cases nz <;> rfl
            · rw [if_neg c1, if_neg c1]
        · rw [decide_eq_false h4, if_neg (by decide), decide_eq_false (by omega), if_neg (by decide)]
      · rw [if_neg h3, decide_eq_false (by omega)]; rfl
theorem fuse_read (l : List (List Int)) (a1 a2 : Int) (nz : Bool) : fuse_Read.f l a1 a2 nz = some (readR l a1 a2 nz) := by
  unfold fuse_Read.f fuse_exists.f readR inB
  by_cases h1 : a1 ≥ 0
  · rw [if_pos h1]
    by_cases h2 : a1 < (l.length : Int)
    · rw [if_pos h2]
      by_cases h3 : a2 ≥ 0
      · rw [if_pos h3, if_pos (by omega)]
        simp only [Option.bind_some]
        by_cases h4 : a2 < ((rd_L1 l a1).length : Int)
        · rw [decide_eq_true h4, if_pos rfl, if_pos (by omega), if_pos h2, if_pos (by omega), if_pos h4, decide_eq_true (by omega), if_pos rfl]
          unfold fuse_reading.f readV
          by_cases c2 : rd (rd_L1 l a1) a2 = 2
          · rw [if_pos c2, if_pos c2]; rfl
          · rw [if_neg c2, if_neg c2]
            by_cases c1 : rd (rd_L1 l a1) a2 = 1
            · rw [if_pos c1, if_pos c1]; cases nz <;> rfl
            · rw [if_neg c1, if_neg c1]; rfl
        · rw [decide_eq_false h4, if_neg (by decide), decide_eq_false (by omega), if_neg (by decide)]
      · rw [if_neg h3, decide_eq_false (by omega)]; rfl
    · rw [if_neg h2, decide_eq_false (by omega)]; rfl
  · rw [if_neg h1, decide_eq_false (by omega)]; rfl
theorem width_eq (l : List (List Int)) (a1 : Int) : bootchainref07_Width.f l a1 = fuse_Width.f l a1 := rfl
def widthR (l : List (List Int)) (a1 : Int) : Int := if a1 < 0 then -1 else if a1 ≥ (l.length : Int) then -1 else ((rd_L1 l a1).length : Int) / 3
theorem width_f (l : List (List Int)) (s : Small l) (a1 : Int) : fuse_Width.f l a1 = some (widthR l a1) := by
  unfold fuse_Width.f widthR
  by_cases h1 : a1 < 0
  · rw [if_pos h1, if_pos h1]
  · rw [if_neg h1, if_neg h1]
    by_cases h2 : a1 ≥ (l.length : Int)
    · rw [if_pos h2, if_pos h2]
    · rw [if_neg h2, if_neg h2, if_pos (by omega), if_pos (by omega)]
      obtain ⟨n, rfl⟩ := Int.eq_ofNat_of_zero_le (show 0 ≤ a1 by omega)
      have := (s.b n (by omega)).1
      rw [w_in _ (by omega) (by omega)]
def levelR (l : List (List Int)) (a1 : Int) (nz : Bool) : Int := if a1 < 0 then -1 else if a1 ≥ (l.length : Int) then -1 else (lvl (fun c => readV c nz) (rd_L1 l a1) : Int)
theorem level_f (l : List (List Int)) (s : Small l) (a1 : Int) (nz : Bool) : levelF (fun c => readV c nz) l a1 = some (levelR l a1 nz) := by
  unfold levelF levelR
  by_cases h1 : a1 < 0
  · rw [if_pos h1, if_pos h1]
  · rw [if_neg h1, if_neg h1]
    by_cases h2 : a1 ≥ (l.length : Int)
    · rw [if_pos h2, if_pos h2]
    · rw [if_neg h2, if_neg h2]
      obtain ⟨n, rfl⟩ := Int.eq_ofNat_of_zero_le (show 0 ≤ a1 by omega)
      have := (s.b n (by omega)).1
      rw [if_pos (by omega)]
theorem readR_in (l : List (List Int)) (n m : Nat) (nz : Bool) (h1 : n < l.length) (h2 : m < (rd_L1 l n).length) : readR l n m nz = (readV (rd (rd_L1 l n) m) nz, 0) := by
  unfold readR inB
  rw [decide_eq_true (by omega), if_pos rfl]
theorem sm3 (rdg : Int → Int) (cells : List Int) (k : Nat) (h : 3 * k + 2 < cells.length) : smK rdg cells k 3 = rdg (rd cells ((3 * k : Nat) : Int)) + rdg (rd cells ((3 * k + 1 : Nat) : Int)) + rdg (rd cells ((3 * k + 2 : Nat) : Int)) := by
  have h0 : smK rdg cells k 0 = 0 := by unfold smK; simp
  have e1 := smK_succ rdg cells k 0 (by omega)
  have e2 := smK_succ rdg cells k 1 (by omega)
  have e3 := smK_succ rdg cells k 2 (by omega)
  rw [e3, e2, e1, h0, show (3 * (k : Int) + ((0 : Nat) : Int)) = ((3 * k : Nat) : Int) by omega, show (3 * (k : Int) + ((1 : Nat) : Int)) = ((3 * k + 1 : Nat) : Int) by omega, show (3 * (k : Int) + ((2 : Nat) : Int)) = ((3 * k + 2 : Nat) : Int) by omega, Int.zero_add]
theorem level_l0 (l : List (List Int)) (s : Small l) (n : Nat) (hn : n < l.length) (nz : Bool) : ∀ d i, (rd_L1 l n).length / 3 - i = d → i ≤ (rd_L1 l n).length / 3 →
    Ev (fun k => bootchainref07_Level.l0 k n nz (((rd_L1 l n).length / 3 : Nat) : Int) i l) ((i + lvl (fun c => readV c nz) ((rd_L1 l n).drop (3 * i)) : Nat) : Int)
  | 0, i, hd, hi => by
    have := (s.b n hn)
    have e : i = (rd_L1 l n).length / 3 := by omega
    refine Ev.step (f := fun _ => some ((i : Nat) : Int)) (fun k => ?_) ?_
    · simp only [bootchainref07_Level.l0]; rw [if_neg (by omega), e]
    · have : (rd_L1 l n).drop (3 * i) = [] := List.drop_of_length_le (by omega)
      rw [this]; exact Ev.now _
  | d + 1, i, hd, hi => by
    have hb := (s.b n hn)
    have hlt : i < (rd_L1 l n).length / 3 := by omega
    have hlen : 3 * i + 2 < (rd_L1 l n).length := by omega
    have ih := level_l0 l s n hn nz d (i + 1) (by omega) (by omega)
    have b0 := readV_bd (rd (rd_L1 l n) ((3 * i : Nat) : Int)) nz
    have b1 := readV_bd (rd (rd_L1 l n) ((3 * i + 1 : Nat) : Int)) nz
    have b2 := readV_bd (rd (rd_L1 l n) ((3 * i + 2 : Nat) : Int)) nz
    have e0 : wrap64 (3 * (i : Int)) = ((3 * i : Nat) : Int) := by rw [w_in _ (by omega) (by omega)]; omega
    have e1 : wrap64 (((3 * i : Nat) : Int) + 1) = ((3 * i + 1 : Nat) : Int) := by rw [w_in _ (by omega) (by omega)]; omega
    have e2 : wrap64 (((3 * i : Nat) : Int) + 2) = ((3 * i + 2 : Nat) : Int) := by rw [w_in _ (by omega) (by omega)]; omega
    have key : ∀ k, bootchainref07_Level.l0 (k + 1) n nz (((rd_L1 l n).length / 3 : Nat) : Int) i l = if smK (fun c => readV c nz) (rd_L1 l n) i 3 < 2 then some (i : Int) else bootchainref07_Level.l0 k n nz (((rd_L1 l n).length / 3 : Nat) : Int) ((i + 1 : Nat) : Int) l := by
      intro k
      simp only [bootchainref07_Level.l0]
      rw [if_pos (by omega), e0, e1, e2, ref_read, ref_read, ref_read, readR_in l n _ nz hn (by omega), readR_in l n _ nz hn (by omega), readR_in l n _ nz hn (by omega)]
      simp only [Option.bind_some]
      rw [w_in (readV (rd (rd_L1 l n) ((3 * i : Nat) : Int)) nz + readV (rd (rd_L1 l n) ((3 * i + 1 : Nat) : Int)) nz) (by omega) (by omega), w_in (readV (rd (rd_L1 l n) ((3 * i : Nat) : Int)) nz + readV (rd (rd_L1 l n) ((3 * i + 1 : Nat) : Int)) nz + readV (rd (rd_L1 l n) ((3 * i + 2 : Nat) : Int)) nz) (by omega) (by omega), w_succ i (by omega), sm3 _ _ i hlen]
    rw [lvl_step _ _ i hlen]
    by_cases hc : smK (fun c => readV c nz) (rd_L1 l n) i 3 < 2
    · rw [if_pos (by omega)]
      exact Ev.step (f := fun _ => some (i : Int)) (fun k => by rw [key k, if_pos hc]) (Ev.now _)
    · rw [if_neg (by omega), show i + (lvl (fun c => readV c nz) ((rd_L1 l n).drop (3 * (i + 1))) + 1) = (i + 1) + lvl (fun c => readV c nz) ((rd_L1 l n).drop (3 * (i + 1))) by omega]
      exact Ev.step (f := fun k => bootchainref07_Level.l0 k n nz (((rd_L1 l n).length / 3 : Nat) : Int) ((i + 1 : Nat) : Int) l) (fun k => by rw [key k, if_neg hc]) ih
theorem ref_level (l : List (List Int)) (s : Small l) (a1 : Int) (nz : Bool) : Ev (fun k => bootchainref07_Level.f k l a1 nz) (levelR l a1 nz) := by
  have hw : bootchainref07_Width.f l a1 = some (widthR l a1) := width_f l s a1
  by_cases h : 0 ≤ a1 ∧ a1 < (l.length : Int)
  · obtain ⟨n, rfl⟩ := Int.eq_ofNat_of_zero_le h.1
    have hr := level_l0 l s n (by omega) nz _ 0 rfl (by omega)
    have e : levelR l n nz = ((0 + lvl (fun c => readV c nz) ((rd_L1 l n).drop (3 * 0)) : Nat) : Int) := by
      unfold levelR; rw [if_neg (by omega), if_neg (by omega)]; simp
    rw [e]
    refine Ev.congr (f := fun k => bootchainref07_Level.l0 k n nz (((rd_L1 l n).length / 3 : Nat) : Int) ((0 : Nat) : Int) l) (fun k => ?_) hr
    unfold bootchainref07_Level.f
    rw [hw]
    have : widthR l n = (((rd_L1 l n).length / 3 : Nat) : Int) := by unfold widthR; rw [if_neg (by omega), if_neg (by omega)]; omega
    rw [this]; rfl
  · have e1 : widthR l a1 = -1 := by unfold widthR; by_cases h1 : a1 < 0; rw [if_pos h1]; rw [if_neg h1, if_pos (by omega)]
    have e2 : levelR l a1 nz = -1 := by unfold levelR; by_cases h1 : a1 < 0; rw [if_pos h1]; rw [if_neg h1, if_pos (by omega)]
    rw [e2]
    refine Ev.congr (f := fun k => bootchainref07_Level.l0 k a1 nz (-1) 0 l) (fun k => ?_) (Ev.step (f := fun _ => some (-1)) (fun k => ?_) (Ev.now _))
    · unfold bootchainref07_Level.f; rw [hw, e1]; rfl
    · simp only [bootchainref07_Level.l0]; rw [if_neg (by decide)]
theorem ref_least (l : List (List Int)) (s : Small l) (a1 : Int) : Ev (fun k => bootchainref07_Least.f k l a1) (levelR l a1 false) := Ev.bind (ref_level l s a1 false) (Ev.now _)
theorem ref_most (l : List (List Int)) (s : Small l) (a1 : Int) : Ev (fun k => bootchainref07_Most.f k l a1) (levelR l a1 true) := Ev.bind (ref_level l s a1 true) (Ev.now _)
/-! ### Sound -/
theorem sound_l2 (l : List (List Int)) (s : Small l) (n i : Nat) (hn : n < l.length) (hi : 3 * i + 2 < (rd_L1 l n).length) (R : Bool) (hR : Ev (fun k => bootchainref07_Sound.l1 k n ((3 * (i + 1) : Nat) : Int) l) R) :
    ∀ d j, 3 - j = d → j ≤ 3 → Ev (fun k => bootchainref07_Sound.l2 k n ((3 * i : Nat) : Int) (smK stk (rd_L1 l n) i j) j l) (decide (smK stk (rd_L1 l n) i 3 ≤ 1) && R)
  | 0, j, hd, hj => by
    have hb := s.b n hn
    have hj3 : j = 3 := by omega
    subst hj3
    by_cases hc : smK stk (rd_L1 l n) i 3 > 1
    · rw [decide_eq_false (by omega)]
      refine Ev.step (f := fun _ => some false) (fun k => ?_) (Ev.now _)
      simp only [bootchainref07_Sound.l2]
      rw [if_neg (by omega), if_pos hc]
    · rw [decide_eq_true (by omega), Bool.true_and]
      refine Ev.step (f := fun k => bootchainref07_Sound.l1 k n ((3 * (i + 1) : Nat) : Int) l) (fun k => ?_) hR
      simp only [bootchainref07_Sound.l2]
      rw [if_neg (by omega), if_neg hc, w_in _ (by omega) (by omega), show ((3 * i : Nat) : Int) + 3 = ((3 * (i + 1) : Nat) : Int) by omega]
  | d + 1, j, hd, hj => by
    have hb := s.b n hn
    have ih := sound_l2 l s n i hn hi R hR d (j + 1) (by omega) (by omega)
    have e := smK_succ stk (rd_L1 l n) i j (by omega)
    have e3 : ((3 * i : Nat) : Int) + (j : Int) = 3 * (i : Int) + j := by omega
    have hs : 0 ≤ smK stk (rd_L1 l n) i j ∧ smK stk (rd_L1 l n) i j ≤ 3 := by
      have := sum_bd stk stk_bd (((rd_L1 l n).drop (3 * i)).take j)
      have hl : (((rd_L1 l n).drop (3 * i)).take j).length ≤ 3 := by rw [List.length_take]; omega
      unfold smK; omega
    refine Ev.step (f := fun k => bootchainref07_Sound.l2 k n ((3 * i : Nat) : Int) (smK stk (rd_L1 l n) i (j + 1)) ((j + 1 : Nat) : Int) l) (fun k => ?_) ih
    simp only [bootchainref07_Sound.l2]
    rw [w_in (((3 * i : Nat) : Int) + (j : Int)) (by omega) (by omega)]
    rw [if_pos (by omega), if_pos (by omega), if_pos (by omega), if_pos (by omega), if_pos (by omega), w_succ j (by omega), e, e3]
    unfold stk at hs ⊢
    by_cases h3 : rd (rd_L1 l n) (3 * (i : Int) + j) = 3
    · rw [if_pos h3, if_pos h3, w_in _ (by omega) (by omega)]
    · rw [if_neg h3, if_neg h3, Int.add_zero]
theorem sound_l1 (l : List (List Int)) (s : Small l) (n : Nat) (hn : n < l.length) (R : Bool) (hR : Ev (fun k => bootchainref07_Sound.l0 k ((n + 1 : Nat) : Int) l) R) :
    ∀ d i, (rd_L1 l n).length / 3 - i = d → i ≤ (rd_L1 l n).length / 3 → Ev (fun k => bootchainref07_Sound.l1 k n ((3 * i : Nat) : Int) l) (sndB ((rd_L1 l n).drop (3 * i)) && R)
  | 0, i, hd, hi => by
    have hb := s.b n hn
    have := s.n
    rw [snd_short _ (by rw [List.length_drop]; omega), Bool.true_and]
    refine Ev.step (f := fun k => bootchainref07_Sound.l0 k ((n + 1 : Nat) : Int) l) (fun k => ?_) hR
    simp only [bootchainref07_Sound.l1]
    rw [if_pos (by omega), if_pos (by omega), w_in _ (by omega) (by omega), if_neg (by omega), w_succ n (by omega)]
  | d + 1, i, hd, hi => by
    have hb := s.b n hn
    have hlt : 3 * i + 2 < (rd_L1 l n).length := by omega
    have ih := sound_l1 l s n hn R hR d (i + 1) (by omega) (by omega)
    rw [snd_step _ i hlt, Bool.and_assoc]
    have h2 := sound_l2 l s n i hn hlt _ ih _ 0 rfl (by omega)
    have h0 : smK stk (rd_L1 l n) i 0 = 0 := by unfold smK; simp
    rw [h0] at h2
    refine Ev.step (f := fun k => bootchainref07_Sound.l2 k n ((3 * i : Nat) : Int) 0 ((0 : Nat) : Int) l) (fun k => ?_) h2
    simp only [bootchainref07_Sound.l1]
    rw [if_pos (by omega), if_pos (by omega), w_in _ (by omega) (by omega), if_pos (by omega)]
    rfl
theorem sound_l0 (l : List (List Int)) (s : Small l) : ∀ d i, l.length - i = d → i ≤ l.length → Ev (fun k => bootchainref07_Sound.l0 k i l) ((l.drop i).all sndB)
  | 0, i, hd, hi => by
    refine Ev.step (f := fun _ => some true) (fun k => ?_) ?_
    · simp only [bootchainref07_Sound.l0]; rw [if_neg (by omega)]
    · rw [List.drop_of_length_le (by omega)]; exact Ev.now _
  | d + 1, i, hd, hi => by
    have hlt : i < l.length := by omega
    have ih := sound_l0 l s d (i + 1) (by omega) (by omega)
    rw [all_drop _ _ _ hlt]
    have h1 := sound_l1 l s i hlt _ ih _ 0 rfl (by omega)
    refine Ev.step (f := fun k => bootchainref07_Sound.l1 k i ((3 * 0 : Nat) : Int) l) (fun k => ?_) (by simpa using h1)
    simp only [bootchainref07_Sound.l0]
    rw [if_pos (by omega)]
    rfl
theorem ref_sound (l : List (List Int)) (s : Small l) : Ev (fun k => bootchainref07_Sound.f k l) (l.all sndB) := by
  have h := sound_l0 l s _ 0 rfl (by omega)
  exact Ev.congr (f := fun k => bootchainref07_Sound.l0 k ((0 : Nat) : Int) l) (fun k => rfl) (by simpa using h)
/-! ### Pulse -/
def rpulse (l : List (List Int)) (n1 n2 : Nat) (cut : Bool) : List (List Int) := if rd (rd_L1 l n1) n2 ≤ 1 then l.set n1 ((rd_L1 l n1).set n2 (if cut = true then 1 else 2)) else l
theorem rpulse_eq (l : List (List Int)) (n1 n2 : Nat) (cut : Bool) (h1 : n1 < l.length) (h2 : n2 < (rd_L1 l n1).length) (h3 : rd (rd_L1 l n1) n2 ≤ 3) : rpulse l n1 n2 cut = pulse1 l n1 n2 cut := by
  rw [pulse_at l n1 n2 cut h1 h2]
  unfold rpulse nextV
  by_cases hc : rd (rd_L1 l n1) n2 ≤ 1
  · rw [if_pos hc, if_neg (show ¬ (rd (rd_L1 l n1) n2 = 2 ∨ rd (rd_L1 l n1) n2 = 3) by omega)]
  · rw [if_neg hc, if_pos (show (rd (rd_L1 l n1) n2 = 2 ∨ rd (rd_L1 l n1) n2 = 3) by omega)]
    have e1 : (rd_L1 l n1).set n2 (rd (rd_L1 l n1) n2) = rd_L1 l n1 := by
      rw [rd_at _ n2 h2]; exact List.set_getElem_self h2
    have e2 : rd_L1 l n1 = l[n1] := rd_L1_mem l n1 h1
    rw [e1, e2]; exact (List.set_getElem_self h1).symm
end Go.Proofs.Ytnobomefhpkicaa.P
