import Derived.Test.YtnobomefhpkicaaF2
import Derived.Test.YtnobomefhpkicaaP5
namespace Go.Proofs.Ytnobomefhpkicaa.P
open Go.RowKit Go.Proofs.YtnobomefhpkicaaW.PrintWords Go.Proofs.YtnobomefhpkicaaW.PrintLast Go.Proofs.YtnobomefhpkicaaW.PrintMore
set_option linter.unusedVariables false
set_option linter.unusedSimpArgs false

theorem sanity_f : bootchainlaw07_sanity.f = some true := rfl
theorem mono_l0 (l g : List (List Int)) (hl : Small l) (ha : Adv l g) (hv : validB g = true) : ∀ d i, l.length - i = d → i ≤ l.length → Ev (fun k => bootchainlaw07_FuseMonotone.l0 k (l.length : Int) i l g) true
  | 0, i, hd, hi => by
    have hg := ha.small hl
    refine Ev.step (f := fun _ => some true) (fun k => ?_) (Ev.now _)
    simp only [bootchainlaw07_FuseMonotone.l0]
    rw [if_neg (by omega), sanity_f]
    simp only [Option.bind_some]
    rw [if_pos trivial, fuse_valid g hg, hv]
    simp only [Option.bind_some]
    rw [if_pos trivial, fuse_sound g hg, fuse_sound l hl, ha.sound]
    simp
  | d + 1, i, hd, hi => by
    have hg := ha.small hl
    have hlt : i < l.length := by omega
    have hlg : i < g.length := by have := ha.n; omega
    refine Ev.step (f := fun k => bootchainlaw07_FuseMonotone.l0 k (l.length : Int) ((i + 1 : Nat) : Int) l g) (fun k => ?_) (mono_l0 l g hl ha hv d (i + 1) (by omega) (by omega))
    simp only [bootchainlaw07_FuseMonotone.l0, fuse_Least.f, fuse_Most.f]
    rw [if_pos (by omega), level_at _ g hg i hlg, level_at _ l hl i hlt, level_at _ g hg i hlg, level_at _ l hl i hlt, width_at g hg i hlg, width_at l hl i hlt]
    simp only [Option.bind_some]
    have h1 := ha.least i hlt
    have h2 := ha.most i hlt
    rw [if_neg (by omega), if_neg (by omega), ha.b i hlt, if_pos rfl, w_succ i (by have := hl.n; omega)]
theorem mono_pure (l : List (List Int)) (hs : List S47) : ∃ k, bootchainlaw07_FuseMonotone.f k l hs = some true := by
  have hv := ref_valid l
  refine Ev.rounds (g := fun k => bootchainlaw07_FuseMonotone.f k l hs) ?_
  have hsan : Ev (fun k => bootchainlaw07_FuseMonotone.j0 k hs true l) true := by
    refine Ev.step (f := fun _ => some true) (fun k => ?_) (Ev.now _)
    simp only [bootchainlaw07_FuseMonotone.j0]
    rw [if_pos trivial, sanity_f]
    rfl
  cases hb : validB l
  · rw [hb] at hv
    exact Ev.bind hv (Ev.congr (fun k => if_neg (by decide)) hsan)
  · rw [hb] at hv
    refine Ev.bind hv (Ev.congr (f := fun k => bootchainlaw07_FuseMonotone.j0 k hs (decide ((hs.length : Int) > 200)) l) (fun k => if_pos rfl) ?_)
    by_cases h2 : (hs.length : Int) > 200
    · rw [decide_eq_true h2]; exact hsan
    · rw [decide_eq_false h2]
      have s := small_of l hb
      have ha := hits_adv hs l
      refine Ev.step (f := fun k => (bootchainlaw07_hits.f k l hs).bind fun t193 => (bootchainlaw07_FuseMonotone.l0 k (l.length : Int) ((0 : Nat) : Int) l t193)) (fun k => ?_) ?_
      · simp only [bootchainlaw07_FuseMonotone.j0]; rw [if_neg (by decide)]; rfl
      · exact Ev.bind (hits_f l hs (by omega) s) (mono_l0 l _ s ha (ha.valid hb) _ 0 rfl (by omega))
end Go.Proofs.Ytnobomefhpkicaa.P
