import Derived.Test.YtnobomefhpkicaaF6
namespace Go.Proofs.Ytnobomefhpkicaa.P
open Go.RowKit Go.Proofs.YtnobomefhpkicaaW.PrintWords Go.Proofs.YtnobomefhpkicaaW.PrintLast Go.Proofs.YtnobomefhpkicaaW.PrintMore
set_option linter.unusedVariables false
set_option linter.unusedSimpArgs false

/-- A cell that is burnt: blown or stuck. -/
def Burnt (c : Int) : Prop := c = 2 ∨ c = 3
theorem burnt_next (c : Int) : Burnt (nextV c false) := by
  unfold nextV Burnt
  by_cases h : c = 2 ∨ c = 3
  · rw [if_pos h]; exact h
  · rw [if_neg h]; simp
theorem Burnt.adv {l g : List (List Int)} (h : Adv l g) (i j : Nat) (hi : i < l.length) (hj : j < (rd_L1 l i).length) (hb : Burnt (rd (rd_L1 l i) j)) : Burnt (rd (rd_L1 g i) j) := by
  rcases hb with h2 | h3
  · exact .inl ((h.c i j hi hj).two h2)
  · exact .inr ((h.c i j hi hj).three h3)
theorem pulse_burns (l : List (List Int)) (n m : Nat) (h1 : n < l.length) (h2 : m < (rd_L1 l n).length) : Burnt (rd (rd_L1 (pulse1 l n m false) n) m) := by
  rw [pulse_at l n m false h1 h2, rd_L1_set l n n _ h1 h1, if_pos rfl, rd_set _ _ _ _ h2, if_pos rfl]
  exact burnt_next _
theorem hits_burns (n m : Nat) : ∀ (hs : List S47) (l : List (List Int)), n < l.length → m < (rd_L1 l n).length → (⟨n, m, false⟩ : S47) ∈ hs → Burnt (rd (rd_L1 (hitsL l hs) n) m)
  | [], l, _, _, h => absurd h List.not_mem_nil
  | x :: hs, l, hn, hm, h => by
    have ha := pulse_adv l x.f0 x.f1 x.f2
    have hn2 : n < (pulse1 l x.f0 x.f1 x.f2).length := by have := ha.n; omega
    have hm2 : m < (rd_L1 (pulse1 l x.f0 x.f1 x.f2) n).length := by have := ha.b n hn; omega
    rcases List.mem_cons.1 h with h | h
    · subst h
      exact Burnt.adv (hits_adv hs _) n m hn2 hm2 (pulse_burns l n m hn hm)
    · exact hits_burns n m hs _ hn2 hm2 h
theorem burnt_read (c : Int) (h : Burnt c) : readV c false = 1 - stk c := by
  rcases h with rfl | rfl <;> rfl
/-- Burnt cells of a sound bank: the level is at least as high. -/
theorem burnt_level (cells : List Int) (t : Nat) (ht : 3 * t ≤ cells.length) (hb : ∀ j : Nat, j < 3 * t → Burnt (rd cells j)) (hs : ∀ i, i < t → smK stk cells i 3 ≤ 1) : t ≤ lvl (fun c => readV c false) cells := by
  rw [lvl_at _ cells t ht (fun j hj => ?_)]
  · omega
  · have h1 := sm_three (fun c => readV c false) cells j (by omega)
    have h2 := sm_three stk cells j (by omega)
    have h3 := hs j hj
    rw [burnt_read _ (hb (3 * j) (by omega)), burnt_read _ (hb (3 * j + 1) (by omega)), burnt_read _ (hb (3 * j + 2) (by omega))] at h1
    omega
theorem snd_all (cells : List Int) (h : sndB cells = true) (i : Nat) (hi : 3 * i + 2 < cells.length) : smK stk cells i 3 ≤ 1 := by
  refine Classical.byContradiction (fun hc => ?_)
  rw [sndB_bad cells i hi hc] at h
  cases h
theorem raise_end (l : List (List Int)) (s : Small l) (hsnd : l.all sndB = true) (n : Nat) (hn : n < l.length) (t : Nat) (ht : 3 * t ≤ (rd_L1 l n).length) (os hs : List S47) (hos : os.length ≤ 100) (hhs : hs.length ≤ 200) (hmem : ∀ j, j < 3 * t → (⟨n, j, false⟩ : S47) ∈ hs) :
    Ev (fun k => (bootchainlaw07_hits.f k l os).bind fun t252 => ((bootchainlaw07_hits.f k t252 hs).bind fun t255 => ((bootchainlaw07_hits.f k t255 os).bind fun t258 => ((bootchainlaw07_sanity.f).bind fun t262 => (if t262 = true then ((fuse_Least.f t258 n).bind fun t263 => (some (decide (t263 ≥ (t : Int))))) else (some false)))))) true := by
  have a1 := hits_adv os l
  have a2 := hits_adv hs (hitsL l os)
  have a3 := hits_adv os (hitsL (hitsL l os) hs)
  have s1 := a1.small s
  have s2 := a2.small s1
  have s3 := a3.small s2
  have a := (a1.trans a2).trans a3
  refine Ev.bind (hits_f l os (by omega) s) (Ev.bind (hits_f _ hs (by omega) s1) (Ev.bind (hits_f _ os (by omega) s2) (Ev.congr (f := fun _ => some true) (fun k => ?_) (Ev.now _))))
  have hn3 : n < (hitsL (hitsL (hitsL l os) hs) os).length := by have := a.n; omega
  have hlen := a.b n hn
  have hlen1 := a1.b n hn
  have hn1 : n < (hitsL l os).length := by have := a1.n; omega
  have hlen2 := a2.b n hn1
  have hlv : t ≤ lvl (fun c => readV c false) (rd_L1 (hitsL (hitsL (hitsL l os) hs) os) n) := by
    refine burnt_level _ t (by omega) (fun j hj => ?_) (fun i hi => ?_)
    · exact Burnt.adv a3 n j (by have := a2.n; omega) (by omega) (hits_burns n j hs _ hn1 (by omega) (hmem j hj))
    · have h1 := snd_all (rd_L1 l n) (by rw [List.all_eq_true] at hsnd; exact hsnd _ (by rw [rd_L1_mem l n hn]; exact List.getElem_mem _)) i (by omega)
      have e1 := sm_three stk (rd_L1 l n) i (by omega)
      have e2 := sm_three stk (rd_L1 (hitsL (hitsL (hitsL l os) hs) os) n) i (by omega)
      have c0 := (a.c n (3 * i) hn (by omega)).st
      have c1 := (a.c n (3 * i + 1) hn (by omega)).st
      have c2 := (a.c n (3 * i + 2) hn (by omega)).st
      omega
  rw [sanity_f4]
  simp only [Option.bind_some, fuse_Least.f]
  rw [if_pos trivial, level_at _ _ s3 n hn3]
  simp only [Option.bind_some]
  rw [decide_eq_true (by omega)]
theorem raise_l0 (l : List (List Int)) (s : Small l) (hsnd : l.all sndB = true) (n : Nat) (hn : n < l.length) (t : Nat) (ht : 3 * t ≤ (rd_L1 l n).length) (os : List S47) (hos : os.length ≤ 100) (x3 : Int) :
    ∀ d i hs, 3 * t - i = d → i ≤ 3 * t → hs.length = i → (∀ j, j < i → (⟨n, j, false⟩ : S47) ∈ hs) → Ev (fun k => bootchainlaw07_FuseRaise.l0 k n x3 os t hs ((3 * t : Nat) : Int) i l) true
  | 0, i, hs, hd, hi, hl, hm => by
    have hb := (s.b n hn).1
    refine Ev.step (k := raise_end l s hsnd n hn t ht os hs hos (by omega) (fun j hj => hm j (by omega))) (fun k => ?_)
    simp only [bootchainlaw07_FuseRaise.l0]
    rw [if_neg (by omega)]
  | d + 1, i, hs, hd, hi, hl, hm => by
    have hb := (s.b n hn).1
    by_cases ho : (Go.bits .and .u64 (shr .u64 x3 i) 1) = 1
    · refine Ev.step (k := raise_l0 l s hsnd n hn t ht os hos x3 d (i + 1) (hs ++ [⟨n, i, false⟩]) (by omega) (by omega) (by simp [hl]) (fun j hj => ?_)) (fun k => ?_)
      · simp only [bootchainlaw07_FuseRaise.l0]
        rw [if_pos (by omega), if_pos (by omega), if_pos ho, if_pos (by omega), w_succ i (by omega)]
      · by_cases e : j = i
        · subst e; simp
        · exact List.mem_append_left _ (hm j (by omega))
    · refine Ev.step (k := raise_l0 l s hsnd n hn t ht os hos x3 d (i + 1) ([⟨n, i, false⟩] ++ hs) (by omega) (by omega) (by simp [hl]) (fun j hj => ?_)) (fun k => ?_)
      · simp only [bootchainlaw07_FuseRaise.l0, Option.bind_some]
        rw [if_pos (by omega), if_pos (by omega), if_neg ho, if_pos (by simp only [List.length_cons, List.length_nil]; omega), w_succ i (by omega)]
      · by_cases e : j = i
        · subst e; simp
        · exact List.mem_append_right _ (hm j (by omega))
theorem raise_pure (l : List (List Int)) (a1 a2 a3 : Int) (h2 : 0 ≤ a2 ∧ a2 ≤ 255) (os : List S47) : ∃ k, bootchainlaw07_FuseRaise.f k l a1 a2 a3 os = some true := by
  have hv := ref_valid l
  refine Ev.rounds (g := fun k => bootchainlaw07_FuseRaise.f k l a1 a2 a3 os) ?_
  have hsan : Ev (fun k => bootchainlaw07_FuseRaise.j0 k a1 a2 a3 os true l) true := by
    refine Ev.step (f := fun _ => some true) (fun k => ?_) (Ev.now _)
    simp only [bootchainlaw07_FuseRaise.j0]
    rw [if_pos trivial, sanity_f4]
    rfl
  cases hb : validB l
  · rw [hb] at hv
    exact Ev.bind hv (Ev.congr (fun k => if_neg (by decide)) hsan)
  · rw [hb] at hv
    have s := small_of l hb
    refine Ev.bind hv (Ev.congr (fun k => if_pos rfl) ?_)
    cases hsd : l.all sndB
    · have hq := ref_sound l s
      rw [hsd] at hq
      exact Ev.bind hq (Ev.congr (fun k => if_neg (by decide)) hsan)
    · have hq := ref_sound l s
      rw [hsd] at hq
      refine Ev.bind hq (Ev.congr (fun k => if_pos rfl) ?_)
      by_cases h0 : a1 < 0
      · exact Ev.congr (fun k => if_pos h0) hsan
      · refine Ev.congr (fun k => if_neg h0) ?_
        by_cases h1 : a1 ≥ (l.length : Int)
        · exact Ev.congr (fun k => if_pos h1) hsan
        · refine Ev.congr (fun k => if_neg h1) ?_
          by_cases h3 : (os.length : Int) > 100
          · rw [decide_eq_true h3]; exact hsan
          · rw [decide_eq_false h3]
            obtain ⟨n, rfl⟩ := Int.eq_ofNat_of_zero_le (show 0 ≤ a1 by omega)
            have hn : n < l.length := by omega
            have h48 := (s.b n hn).1
            obtain ⟨t, ht, ht2⟩ : ∃ t : Nat, mn (wrap64 a2) (wrap64 (((rd_L1 l n).length : Int) / 3)) = (t : Int) ∧ 3 * t ≤ (rd_L1 l n).length := by
              rw [w_in a2 (by omega) (by omega), w_in _ (by omega) (by omega)]
              unfold mn
              by_cases c : ((rd_L1 l n).length : Int) / 3 < a2
              · rw [if_pos c]; exact ⟨(rd_L1 l n).length / 3, by omega, by omega⟩
              · rw [if_neg c]; exact ⟨a2.toNat, by omega, by omega⟩
            refine Ev.step (k := raise_l0 l s hsd n hn t ht2 os (by omega) a3 _ 0 [] rfl (by omega) rfl (fun j hj => by omega)) (fun k => ?_)
            simp only [bootchainlaw07_FuseRaise.j0]
            rw [if_neg (by decide), if_pos (by omega), if_pos (by omega), ht, w_in _ (by omega) (by omega)]
            congr 1
            omega
end Go.Proofs.Ytnobomefhpkicaa.P
