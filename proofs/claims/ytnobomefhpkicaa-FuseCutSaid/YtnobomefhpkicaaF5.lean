import Derived.Test.YtnobomefhpkicaaF2
import Derived.Test.YtnobomefhpkicaaP7
namespace Go.Proofs.Ytnobomefhpkicaa.P
open Go.RowKit Go.Proofs.YtnobomefhpkicaaW.PrintWords Go.Proofs.YtnobomefhpkicaaW.PrintLast Go.Proofs.YtnobomefhpkicaaW.PrintMore
set_option linter.unusedVariables false
set_option linter.unusedSimpArgs false

theorem sanity_f5 : bootchainlaw07_sanity.f = some true := rfl
/-- What a cut pulse does: one cell at the most is another, and no reading with noise off. -/
structure Cut1 (l g : List (List Int)) (n m : Nat) : Prop where
  hn : l.length = g.length
  hb : ∀ i : Nat, i < l.length → (rd_L1 l i).length = (rd_L1 g i).length
  hc : ∀ i j : Nat, i < l.length → j < (rd_L1 l i).length → ¬ (i = n ∧ j = m) → rd (rd_L1 g i) j = rd (rd_L1 l i) j
  hr : ∀ i j : Nat, i < l.length → j < (rd_L1 l i).length → readV (rd (rd_L1 g i) j) false = readV (rd (rd_L1 l i) j) false
theorem next_low (c : Int) : readV (nextV c true) false = readV c false := by
  unfold nextV
  by_cases h : c = 2 ∨ c = 3
  · rw [if_pos h]
  · rw [if_neg h]
    have h2 : c ≠ 2 := fun e => h (.inl e)
    simp [readV, h2]
theorem cut1_of (l : List (List Int)) (a1 a2 : Int) : ∃ n m : Nat, Cut1 l (pulse1 l a1 a2 true) n m := by
  by_cases h : 0 ≤ a1 ∧ a1 < (l.length : Int) ∧ 0 ≤ a2 ∧ a2 < ((rd_L1 l a1).length : Int)
  · obtain ⟨n, rfl⟩ := Int.eq_ofNat_of_zero_le h.1
    obtain ⟨m, rfl⟩ := Int.eq_ofNat_of_zero_le h.2.2.1
    refine ⟨n, m, ?_⟩
    rw [pulse_at l n m true (by omega) (by omega)]
    refine ⟨by rw [List.length_set], fun i hi => ?_, fun i j hi hj hne => ?_, fun i j hi hj => ?_⟩
    · rw [rd_L1_set l n i _ (by omega) hi]
      by_cases e : n = i
      · rw [if_pos e, List.length_set, e]
      · rw [if_neg e]
    · rw [rd_L1_set l n i _ (by omega) hi]
      by_cases e : n = i
      · subst e
        rw [if_pos rfl, rd_set _ _ _ _ hj, if_neg (fun e : m = j => hne ⟨rfl, e.symm⟩)]
      · rw [if_neg e]
    · rw [rd_L1_set l n i _ (by omega) hi]
      by_cases e : n = i
      · subst e
        rw [if_pos rfl, rd_set _ _ _ _ hj]
        by_cases e : m = j
        · subst e; rw [if_pos rfl]; exact next_low _
        · rw [if_neg e]
      · rw [if_neg e]
  · refine ⟨0, 0, ?_⟩
    unfold pulse1; rw [if_neg h]; exact ⟨rfl, fun _ _ => rfl, fun _ _ _ _ _ => rfl, fun _ _ _ _ => rfl⟩
theorem lvl_congr (f : Int → Int) (a b : List Int) (hl : a.length = b.length) (h : ∀ j : Nat, j < a.length → f (rd a j) = f (rd b j)) : lvl f a = lvl f b :=
  Nat.le_antisymm (lvl_mono f f a b hl (fun j hj => by rw [h j hj]; exact Int.le_refl _)) (lvl_mono f f b a hl.symm (fun j hj => by rw [h j (by omega)]; exact Int.le_refl _))
/-- What the count may be at place (i, j). -/
def CountOk (n m : Nat) (x : Int) (i j : Nat) : Prop := x = 0 ∨ (x = 1 ∧ (n < i ∨ (n = i ∧ m < j)))
theorem cut_l1 (l g : List (List Int)) (n m : Nat) (s : Small l) (hc : Cut1 l g n m) (i : Nat) (hi : i < l.length)
    (hnext : ∀ x, CountOk n m x (i + 1) 0 → Ev (fun k => bootchainlaw07_FuseCut.l0 k x (l.length : Int) ((i + 1 : Nat) : Int) l g) true) :
    ∀ d j x, (rd_L1 l i).length - j = d → j ≤ (rd_L1 l i).length → CountOk n m x i j → Ev (fun k => bootchainlaw07_FuseCut.l1 k x i (l.length : Int) i ((rd_L1 l i).length : Int) j l g) true
  | 0, j, x, hd, hj, hx => by
    have e : j = (rd_L1 l i).length := by omega
    refine Ev.step (f := fun k => bootchainlaw07_FuseCut.l0 k x (l.length : Int) ((i + 1 : Nat) : Int) l g) (fun k => ?_) (hnext x ?_)
    · simp only [bootchainlaw07_FuseCut.l1]
      rw [if_neg (by omega), w_succ i (by have := s.n; omega)]
    · rcases hx with h | ⟨h, h2⟩
      · exact .inl h
      · exact .inr ⟨h, .inl (by omega)⟩
  | d + 1, j, x, hd, hj, hx => by
    have hlt : j < (rd_L1 l i).length := by omega
    have hb := hc.hb i hi
    have hn := hc.hn
    have h48 := (s.b i hi).1
    have h4 := s.n
    by_cases heq : rd (rd_L1 g i) j = rd (rd_L1 l i) j
    · refine Ev.step (f := fun k => bootchainlaw07_FuseCut.l1 k x i (l.length : Int) i ((rd_L1 l i).length : Int) ((j + 1 : Nat) : Int) l g) (fun k => ?_) (cut_l1 l g n m s hc i hi hnext d (j + 1) x (by omega) (by omega) ?_)
      · simp only [bootchainlaw07_FuseCut.l1]
        rw [if_pos (by omega), if_pos (by omega), if_pos (by omega), if_pos (by omega), if_pos (by omega), if_pos (by omega), if_pos (by omega), if_pos heq, w_succ j (by omega)]
      · rcases hx with h | ⟨h, h2⟩
        · exact .inl h
        · exact .inr ⟨h, by omega⟩
    · have hat : i = n ∧ j = m := Classical.byContradiction (fun h => heq (hc.hc i j hi hlt h))
      have hx0 : x = 0 := by
        rcases hx with h | ⟨h, h2⟩
        · exact h
        · omega
      refine Ev.step (f := fun k => bootchainlaw07_FuseCut.l1 k 1 i (l.length : Int) i ((rd_L1 l i).length : Int) ((j + 1 : Nat) : Int) l g) (fun k => ?_) (cut_l1 l g n m s hc i hi hnext d (j + 1) 1 (by omega) (by omega) (.inr ⟨rfl, by omega⟩))
      simp only [bootchainlaw07_FuseCut.l1]
      rw [if_pos (by omega), if_pos (by omega), if_pos (by omega), if_pos (by omega), if_pos (by omega), if_pos (by omega), if_pos (by omega), if_neg heq, w_succ j (by omega), hx0, show wrap64 (0 + 1) = 1 from w_in _ (by omega) (by omega)]
theorem cut_l0 (l g : List (List Int)) (n m : Nat) (s : Small l) (hc : Cut1 l g n m) : ∀ d i x, l.length - i = d → i ≤ l.length → CountOk n m x i 0 → Ev (fun k => bootchainlaw07_FuseCut.l0 k x (l.length : Int) i l g) true
  | 0, i, x, hd, hi, hx => by
    refine Ev.step (f := fun _ => some true) (fun k => ?_) (Ev.now _)
    simp only [bootchainlaw07_FuseCut.l0]
    rw [if_neg (by omega), sanity_f5]
    simp only [Option.bind_some]
    rw [if_pos trivial, decide_eq_true]
    rcases hx with h | ⟨h, _⟩ <;> omega
  | d + 1, i, x, hd, hi, hx => by
    have hlt : i < l.length := by omega
    have hn := hc.hn
    have hb := hc.hb i hlt
    have sg : Small g := ⟨hc.hn ▸ s.n, fun i hi => by have := s.b i (hc.hn ▸ hi); rw [← hc.hb i (hc.hn ▸ hi)]; exact this⟩
    have hlv : lvl (fun c => readV c false) (rd_L1 g i) = lvl (fun c => readV c false) (rd_L1 l i) := (lvl_congr _ _ _ hb (fun j hj => (hc.hr i j hlt hj).symm)).symm
    refine Ev.step (f := fun k => bootchainlaw07_FuseCut.j1 k x i (l.length : Int) i false l g) (fun k => ?_) ?_
    · simp only [bootchainlaw07_FuseCut.l0]
      rw [if_pos (by omega), if_pos (by omega), if_pos (by omega), if_pos (by omega), if_pos (by omega)]
      simp only [fuse_Least.f]
      rw [level_at _ g sg i (by omega), level_at _ l s i hlt, hlv]
      simp only [Option.bind_some, bne_self_eq_false]
    · refine Ev.step (f := fun k => bootchainlaw07_FuseCut.l1 k x i (l.length : Int) i ((rd_L1 l i).length : Int) ((0 : Nat) : Int) l g) (fun k => ?_) (cut_l1 l g n m s hc i hlt (fun x hx => cut_l0 l g n m s hc d (i + 1) x (by omega) (by omega) hx) _ 0 x rfl (by omega) hx)
      simp only [bootchainlaw07_FuseCut.j1]
      rw [if_neg (by decide), if_pos (by omega), if_pos (by omega)]
      rfl
theorem cut_pure (l : List (List Int)) (a1 a2 : Int) : ∃ k, bootchainlaw07_FuseCut.f k l a1 a2 = some true := by
  have hv := ref_valid l
  refine Ev.rounds (g := fun k => bootchainlaw07_FuseCut.f k l a1 a2) ?_
  cases hb : validB l
  · rw [hb] at hv
    refine Ev.bind hv (Ev.congr (f := fun _ => some true) (fun k => ?_) (Ev.now _))
    rw [if_neg (by decide), sanity_f5]
    rfl
  · rw [hb] at hv
    have s := small_of l hb
    obtain ⟨n, m, hc⟩ := cut1_of l a1 a2
    obtain ⟨e, he⟩ := pulse_eq l s a1 a2 true
    refine Ev.bind hv (Ev.congr (f := fun k => bootchainlaw07_FuseCut.l0 k 0 (l.length : Int) ((0 : Nat) : Int) l (pulse1 l a1 a2 true)) (fun k => ?_) (cut_l0 l _ n m s hc _ 0 0 rfl (by omega) (.inl rfl)))
    rw [if_pos rfl, he]
    simp only [Option.bind_some]
    rw [if_pos (by have := hc.hn; omega)]
    rfl
end Go.Proofs.Ytnobomefhpkicaa.P
