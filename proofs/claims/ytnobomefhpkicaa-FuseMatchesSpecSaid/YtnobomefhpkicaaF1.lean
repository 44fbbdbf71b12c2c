import Derived.Test.YtnobomefhpkicaaP1
import Derived.Test.YtnobomefhpkicaaP2
import Derived.Test.YtnobomefhpkicaaH4
import Derived.Test.YtnobomefhpkicaaH1
namespace Go.Proofs.Ytnobomefhpkicaa.P
open Go.RowKit Go.Proofs.YtnobomefhpkicaaW.PrintWords Go.Proofs.YtnobomefhpkicaaW.PrintLast Go.Proofs.YtnobomefhpkicaaW.PrintMore
set_option linter.unusedVariables false
set_option linter.unusedSimpArgs false

theorem w_in (x : Int) (h0 : -9223372036854775808 ≤ x) (h1 : x ≤ 9223372036854775807) : wrap64 x = x := by unfold wrap64; omega
theorem w_succ (i : Nat) (h : i ≤ 4398046511104) : wrap64 ((i : Int) + 1) = ((i + 1 : Nat) : Int) := by rw [w_in _ (by omega) (by omega)]; omega
/-! ### ref.Valid -/
def validB (l : List (List Int)) : Bool := decide (l.length ≤ 4) && l.all okBank
theorem rd_at (c : List Int) (i : Nat) (h : i < c.length) : rd c i = c[i] := by
  unfold rd; rw [Int.toNat_natCast, List.getD_eq_getElem?_getD, List.getElem?_eq_getElem h]; rfl
theorem valid_l1 (l : List (List Int)) (x3 : Nat) (hx : x3 < l.length) (hb : x3 ≤ 100) (R : Bool) (hc : (rd_L1 l x3).length ≤ 48) (hR : Ev (fun k => bootchainref07_Valid.l0 k ((x3 + 1 : Nat) : Int) l) R) :
    ∀ d i, (rd_L1 l x3).length - i = d → i ≤ (rd_L1 l x3).length → Ev (fun k => bootchainref07_Valid.l1 k x3 i l) (!((rd_L1 l x3).drop i).any badCell && R)
  | 0, i, hd, hi => by
    have e : i = (rd_L1 l x3).length := by omega
    refine Ev.step (f := fun k => bootchainref07_Valid.l0 k ((x3 + 1 : Nat) : Int) l) (fun k => ?_) ?_
    · simp only [bootchainref07_Valid.l1]
      rw [if_pos (by omega), if_pos (by omega), if_neg (by omega), w_succ x3 (by omega)]
    · rw [List.drop_of_length_le (by omega)]; simpa using hR
  | d + 1, i, hd, hi => by
    have hlt : i < (rd_L1 l x3).length := by omega
    rw [any_drop _ _ _ hlt]
    by_cases hbad : rd (rd_L1 l x3) i > 3
    · refine Ev.step (f := fun _ => some false) (fun k => ?_) ?_
      · simp only [bootchainref07_Valid.l1]
        rw [if_pos (by omega), if_pos (by omega), if_pos (by omega), if_pos (by omega), if_pos hbad]
      · have : badCell (rd (rd_L1 l x3) i) = true := by unfold badCell; exact decide_eq_true hbad
        rw [this]; exact Ev.now _
    · refine Ev.step (f := fun k => bootchainref07_Valid.l1 k x3 ((i + 1 : Nat) : Int) l) (fun k => ?_) ?_
      · simp only [bootchainref07_Valid.l1]
        rw [if_pos (by omega), if_pos (by omega), if_pos (by omega), if_pos (by omega), if_neg hbad, w_succ i (by omega)]
      · have : badCell (rd (rd_L1 l x3) i) = false := by unfold badCell; exact decide_eq_false hbad
        rw [this, Bool.false_or]
        exact valid_l1 l x3 hx hb R hc hR d (i + 1) (by omega) (by omega)
theorem valid_l0 (l : List (List Int)) (hl : l.length ≤ 4) : ∀ d i, l.length - i = d → i ≤ l.length → Ev (fun k => bootchainref07_Valid.l0 k i l) ((l.drop i).all okBank)
  | 0, i, hd, hi => by
    refine Ev.step (f := fun _ => some true) (fun k => ?_) ?_
    · simp only [bootchainref07_Valid.l0]; rw [if_neg (by omega)]
    · rw [List.drop_of_length_le (by omega)]; exact Ev.now _
  | d + 1, i, hd, hi => by
    have hlt : i < l.length := by omega
    have ih := valid_l0 l hl d (i + 1) (by omega) (by omega)
    rw [all_drop _ _ _ hlt]
    by_cases hm : ((rd_L1 l i).length : Int) % 3 = 0
    · refine Ev.step (f := fun k => bootchainref07_Valid.j1 k i (decide (((rd_L1 l i).length : Int) > 48)) l) (fun k => ?_) ?_
      · simp only [bootchainref07_Valid.l0]; rw [if_pos (by omega), if_pos (by omega), if_pos hm]
      · by_cases h48 : ((rd_L1 l i).length : Int) > 48
        · refine Ev.step (f := fun _ => some false) (fun k => ?_) ?_
          · simp only [bootchainref07_Valid.j1]; rw [decide_eq_true h48, if_pos rfl]
          · have : okBank (rd_L1 l i) = false := by unfold okBank; rw [decide_eq_false (p := (rd_L1 l i).length ≤ 48) (by omega)]; simp
            rw [this]; exact Ev.now _
        · refine Ev.step (f := fun k => bootchainref07_Valid.l1 k i ((0 : Nat) : Int) l) (fun k => ?_) ?_
          · simp only [bootchainref07_Valid.j1]; rw [decide_eq_false h48, if_neg (by decide)]; rfl
          · have := valid_l1 l i hlt (by omega) _ (by omega) ih _ 0 rfl (by omega)
            have e : okBank (rd_L1 l i) = !((rd_L1 l i).drop 0).any badCell := by
              unfold okBank; rw [decide_eq_true (p := (rd_L1 l i).length % 3 = 0) (by omega), decide_eq_true (p := (rd_L1 l i).length ≤ 48) (by omega)]; simp
            rw [e]; exact this
    · refine Ev.step (f := fun k => bootchainref07_Valid.j1 k i true l) (fun k => ?_) ?_
      · simp only [bootchainref07_Valid.l0]; rw [if_pos (by omega), if_pos (by omega), if_neg hm]
      · refine Ev.step (f := fun _ => some false) (fun k => ?_) ?_
        · simp only [bootchainref07_Valid.j1]; rw [if_pos trivial]
        · have : okBank (rd_L1 l i) = false := by unfold okBank; rw [decide_eq_false (p := (rd_L1 l i).length % 3 = 0) (by omega)]; simp
          rw [this]; exact Ev.now _
theorem ref_valid (l : List (List Int)) : Ev (fun k => bootchainref07_Valid.f k l) (validB l) := by
  by_cases h : (l.length : Int) > 4
  · refine Ev.congr (f := fun _ => some false) (fun k => ?_) ?_
    · unfold bootchainref07_Valid.f; rw [if_pos h]
    · have : validB l = false := by unfold validB; rw [decide_eq_false (by omega)]; rfl
      rw [this]; exact Ev.now _
  · refine Ev.congr (f := fun k => bootchainref07_Valid.l0 k ((0 : Nat) : Int) l) (fun k => ?_) ?_
    · unfold bootchainref07_Valid.f; rw [if_neg h]; rfl
    · have h2 := valid_l0 l (by omega) _ 0 rfl (by omega)
      have : validB l = (l.drop 0).all okBank := by unfold validB; rw [decide_eq_true (by omega)]; simp
      rw [this]; exact h2
/-! ### what a valid value's sizes are -/
structure Small (l : List (List Int)) : Prop where
  n : l.length ≤ 4
  b : ∀ i : Nat, i < l.length → (rd_L1 l i).length ≤ 48 ∧ (rd_L1 l i).length % 3 = 0
theorem okBank_iff (c : List Int) : okBank c = true ↔ c.length % 3 = 0 ∧ c.length ≤ 48 ∧ ∀ x ∈ c, x ≤ 3 := by
  unfold okBank badCell
  simp only [Bool.and_eq_true, decide_eq_true_eq, Bool.not_eq_true', List.any_eq_false]
  constructor
  · rintro ⟨⟨h1, h2⟩, h3⟩
    exact ⟨h1, h2, fun x hx => by have := h3 x hx; omega⟩
  · rintro ⟨h1, h2, h3⟩
    exact ⟨⟨h1, h2⟩, fun x hx => by have := h3 x hx; omega⟩
theorem small_of (l : List (List Int)) (h : validB l = true) : Small l := by
  unfold validB at h
  simp only [Bool.and_eq_true, decide_eq_true_eq, List.all_eq_true] at h
  refine ⟨h.1, fun i hi => ?_⟩
  have := (okBank_iff _).1 (h.2 (rd_L1 l i) (by rw [rd_L1_mem l i hi]; exact List.getElem_mem _))
  exact ⟨this.2.1, this.1⟩
theorem Small.mem {l : List (List Int)} (h : Small l) : ∀ c ∈ l, c.length ≤ 48 ∧ c.length % 3 = 0 := by
  intro c hc
  obtain ⟨i, hi, rfl⟩ := List.getElem_of_mem hc
  rw [← rd_L1_mem l i hi]
  exact h.b i hi
theorem fuse_valid (l : List (List Int)) (h : Small l) : fuse_Valid.f l = some (validB l) := by
  unfold fuse_Valid.f validB
  rw [if_pos ⟨by have := h.n; omega, fun c hc => by have := h.mem c hc; omega⟩, Bool.and_comm]
theorem fuse_sound (l : List (List Int)) (h : Small l) : fuse_Sound.f l = some (l.all sndB) := by
  unfold fuse_Sound.f
  rw [if_pos ⟨by have := h.n; omega, fun c hc => by have := h.mem c hc; exact ⟨by omega, this.2⟩⟩]
theorem level_at (rdg : Int → Int) (l : List (List Int)) (h : Small l) (i : Nat) (hi : i < l.length) : levelF rdg l i = some (lvl rdg (rd_L1 l i) : Int) := by
  unfold levelF
  rw [if_neg (by omega), if_neg (by omega), if_pos (by have := (h.b i hi).1; omega)]
theorem width_at (l : List (List Int)) (h : Small l) (i : Nat) (hi : i < l.length) : fuse_Width.f l i = some (((rd_L1 l i).length / 3 : Nat) : Int) := by
  unfold fuse_Width.f
  rw [if_neg (by omega), if_neg (by omega), if_pos (by omega), if_pos (by omega), w_in _ (by omega) (by have := (h.b i hi).1; omega)]
  rfl
end Go.Proofs.Ytnobomefhpkicaa.P
