import Derived.Test.YtnobomefhpkicaaF2
import Derived.Test.YtnobomefhpkicaaP4
/- FuseNew: for every list of widths the new fuses or the error are those of the specification. -/
namespace Go.Proofs.Ytnobomefhpkicaa.P
open Go.RowKit Go.Proofs.YtnobomefhpkicaaW.PrintWords Go.Proofs.YtnobomefhpkicaaW.PrintLast Go.Proofs.YtnobomefhpkicaaW.PrintMore
set_option linter.unusedVariables false
set_option linter.unusedSimpArgs false

/-- The banks of new fuses. -/
def newL (bits : List Int) : List (List Int) := bits.map fun n => List.replicate (3 * n).toNat 0
theorem newL_snoc (bits : List Int) (i : Nat) (hi : i < bits.length) : newL (bits.take (i + 1)) = newL (bits.take i) ++ [List.replicate (3 * rd bits i).toNat 0] := by
  unfold newL
  rw [List.take_succ_eq_append_getElem hi, List.map_append, rd_at bits i hi]
  rfl
theorem good_bit (bits : List Int) (h : bits.any badBit = false) (i : Nat) (hi : i < bits.length) : 0 ≤ rd bits i ∧ rd bits i ≤ 16 := by
  rw [rd_at bits i hi]
  have := List.any_eq_false.1 h _ (List.getElem_mem hi)
  unfold badBit at this
  simp at this
  omega
theorem new_l0 (bits : List Int) (hl : bits.length ≤ 4) (hg : bits.any badBit = false) : ∀ d i, bits.length - i = d → i ≤ bits.length → Ev (fun k => fuse_New.l0 k bits (bits.length : Int) i (newL (bits.take i))) (newL bits, 0)
  | 0, i, hd, hi => by
    have e : i = bits.length := by omega
    refine Ev.step (f := fun _ => some (newL bits, 0)) (fun k => ?_) (Ev.now _)
    simp only [fuse_New.l0]
    rw [if_neg (by omega), List.take_of_length_le (by omega)]
  | d + 1, i, hd, hi => by
    have hlt : i < bits.length := by omega
    have hb := good_bit bits hg i hlt
    have hlen : (newL (bits.take i)).length = i := by unfold newL; rw [List.length_map, List.length_take]; omega
    refine Ev.step (f := fun k => fuse_New.l0 k bits (bits.length : Int) ((i + 1 : Nat) : Int) (newL (bits.take (i + 1)))) (fun k => ?_) (new_l0 bits hl hg d (i + 1) (by omega) (by omega))
    simp only [fuse_New.l0]
    rw [w_in (rd bits i * 3) (by omega) (by omega), if_pos (by omega), if_pos (by omega), if_pos (by omega), if_pos (by omega), if_pos (by omega), if_pos (by omega), w_succ i (by omega), newL_snoc bits i hlt, Int.mul_comm (rd bits i) 3]
theorem rnew_l0 (bits : List Int) (hl : bits.length ≤ 4) (hg : bits.any badBit = false) : ∀ d i, bits.length - i = d → i ≤ bits.length → Ev (fun k => bootchainref07_New.l0 k bits i (newL (bits.take i))) (newL bits, 0)
  | 0, i, hd, hi => by
    have e : i = bits.length := by omega
    refine Ev.step (f := fun _ => some (newL bits, 0)) (fun k => ?_) (Ev.now _)
    simp only [bootchainref07_New.l0]
    rw [if_neg (by omega), List.take_of_length_le (by omega)]
  | d + 1, i, hd, hi => by
    have hlt : i < bits.length := by omega
    have hb := good_bit bits hg i hlt
    have hlen : (newL (bits.take i)).length = i := by unfold newL; rw [List.length_map, List.length_take]; omega
    refine Ev.step (f := fun k => bootchainref07_New.l0 k bits ((i + 1 : Nat) : Int) (newL (bits.take (i + 1)))) (fun k => ?_) (rnew_l0 bits hl hg d (i + 1) (by omega) (by omega))
    simp only [bootchainref07_New.l0]
    rw [w_in (3 * rd bits i) (by omega) (by omega), if_pos (by omega), if_pos (by omega), if_neg (by omega), if_neg (by omega), if_pos (by omega), if_pos (by omega), if_pos (by omega), w_succ i (by omega), newL_snoc bits i hlt]
/-- Where a width is bad the specification says ErrArg. -/
theorem rnew_bad (bits : List Int) (hl : bits.length ≤ 4) : ∀ d i xs, bits.length - i = d → i ≤ bits.length → xs.length = i → (bits.drop i).any badBit = true → Ev (fun k => bootchainref07_New.l0 k bits i xs) ([], 1)
  | 0, i, xs, hd, hi, hx, hb => by rw [List.drop_of_length_le (by omega)] at hb; cases hb
  | d + 1, i, xs, hd, hi, hx, hb => by
    have hlt : i < bits.length := by omega
    by_cases h0 : rd bits i < 0
    · refine Ev.step (f := fun _ => some ([], 1)) (fun k => ?_) (Ev.now _)
      simp only [bootchainref07_New.l0]
      rw [if_pos (by omega), if_pos (by omega), if_pos h0]
    · by_cases h1 : rd bits i > 16
      · refine Ev.step (f := fun _ => some ([], 1)) (fun k => ?_) (Ev.now _)
        simp only [bootchainref07_New.l0]
        rw [if_pos (by omega), if_pos (by omega), if_neg h0, if_pos h1]
      · rw [any_drop _ _ _ hlt] at hb
        have hg : badBit (rd bits i) = false := by unfold badBit; rw [decide_eq_false h0, decide_eq_false (by omega)]; rfl
        rw [hg, Bool.false_or] at hb
        refine Ev.step (f := fun k => bootchainref07_New.l0 k bits ((i + 1 : Nat) : Int) (xs ++ [List.replicate (3 * rd bits i).toNat 0])) (fun k => ?_) (rnew_bad bits hl d (i + 1) _ (by omega) (by omega) (by simp [hx]) hb)
        simp only [bootchainref07_New.l0]
        rw [w_in (3 * rd bits i) (by omega) (by omega), if_pos (by omega), if_pos (by omega), if_neg h0, if_neg h1, if_pos (by omega), if_pos (by omega), if_pos (by omega), w_succ i (by omega)]
/-! ### ref.Same of a value and itself -/
theorem same_l1 (l : List (List Int)) (n : Nat) (hn : n < l.length) (h4 : l.length ≤ 100) (hb : (rd_L1 l n).length ≤ 100) (hR : Ev (fun k => bootchainref07_Same.l0 k ((n + 1 : Nat) : Int) l l) true) :
    ∀ d i, (rd_L1 l n).length - i = d → i ≤ (rd_L1 l n).length → Ev (fun k => bootchainref07_Same.l1 k n i l l) true
  | 0, i, hd, hi => by
    refine Ev.step (f := fun k => bootchainref07_Same.l0 k ((n + 1 : Nat) : Int) l l) (fun k => ?_) hR
    simp only [bootchainref07_Same.l1]
    rw [if_pos (by omega), if_pos (by omega), if_neg (by omega), w_succ n (by omega)]
  | d + 1, i, hd, hi => by
    refine Ev.step (f := fun k => bootchainref07_Same.l1 k n ((i + 1 : Nat) : Int) l l) (fun k => ?_) (same_l1 l n hn h4 hb hR d (i + 1) (by omega) (by omega))
    simp only [bootchainref07_Same.l1]
    rw [if_pos (by omega), if_pos (by omega), if_pos (by omega), if_pos (by omega), if_pos (by omega), if_pos (by omega), if_pos trivial, w_succ i (by omega)]
theorem same_l0 (l : List (List Int)) (h4 : l.length ≤ 100) (hb : ∀ n : Nat, n < l.length → (rd_L1 l n).length ≤ 100) : ∀ d i, l.length - i = d → i ≤ l.length → Ev (fun k => bootchainref07_Same.l0 k i l l) true
  | 0, i, hd, hi => by
    refine Ev.step (f := fun _ => some true) (fun k => ?_) (Ev.now _)
    simp only [bootchainref07_Same.l0]
    rw [if_neg (by omega)]
  | d + 1, i, hd, hi => by
    refine Ev.step (f := fun k => bootchainref07_Same.l1 k i ((0 : Nat) : Int) l l) (fun k => ?_) (same_l1 l i (by omega) h4 (hb i (by omega)) (same_l0 l h4 hb d (i + 1) (by omega) (by omega)) _ 0 rfl (by omega))
    simp only [bootchainref07_Same.l0]
    rw [if_pos (by omega), if_pos (by omega), if_pos (by omega), if_pos trivial]
    rfl
theorem same_self (l : List (List Int)) (s : Small l) : Ev (fun k => bootchainref07_Same.f k l l) true := by
  refine Ev.congr (f := fun k => bootchainref07_Same.l0 k ((0 : Nat) : Int) l l) (fun k => ?_) (same_l0 l (by have := s.n; omega) (fun n hn => by have := (s.b n hn).1; omega) _ 0 rfl (by omega))
  unfold bootchainref07_Same.f
  rw [if_pos rfl]; rfl
theorem sanity_f8 : bootchainlaw07_sanity.f = some true := rfl
theorem newL_valid (bits : List Int) (hl : bits.length ≤ 4) (hg : bits.any badBit = false) : validB (newL bits) = true := by
  unfold validB newL
  rw [List.length_map, decide_eq_true hl, Bool.true_and, List.all_eq_true]
  intro c hc
  obtain ⟨n, hn, rfl⟩ := List.mem_map.1 hc
  obtain ⟨i, hi, rfl⟩ := List.getElem_of_mem hn
  have := good_bit bits hg i hi
  rw [rd_at bits i hi] at this
  refine (okBank_iff _).2 ⟨by rw [List.length_replicate]; omega, by rw [List.length_replicate]; omega, fun x hx => ?_⟩
  rw [List.eq_of_mem_replicate hx]; decide
theorem new_end (bits : List Int) (r : List (List Int) × Int) (h20 : ¬ (bits.length : Int) > 20) (h1 : Ev (fun k => fuse_New.f k bits) r) (h2 : Ev (fun k => bootchainref07_New.f k bits) r) (hv : validB r.1 = true) : Ev (fun k => bootchainlaw07_FuseNew.f k bits) true := by
  have s := small_of _ hv
  unfold bootchainlaw07_FuseNew.f
  refine Ev.congr (fun k => if_neg h20) (Ev.bind h1 (Ev.bind h2 (Ev.congr (f := fun k => (bootchainref07_Same.f k r.1 r.1).bind fun t188 => if t188 = true then (if r.2 = r.2 then ((fuse_Valid.f r.1).bind fun t189 => some t189) else some false) else some false) (fun k => by rw [sanity_f8]; rfl) (Ev.bind (same_self r.1 s) (Ev.congr (f := fun _ => some true) (fun k => ?_) (Ev.now _))))))
  rw [if_pos rfl, if_pos rfl, fuse_valid _ s, hv]
  rfl
theorem new_pure (bits : List Int) : ∃ k, bootchainlaw07_FuseNew.f k bits = some true := by
  refine Ev.rounds (g := fun k => bootchainlaw07_FuseNew.f k bits) ?_
  by_cases h20 : (bits.length : Int) > 20
  · refine Ev.congr (f := fun _ => some true) (fun k => ?_) (Ev.now _)
    unfold bootchainlaw07_FuseNew.f
    rw [if_pos h20, sanity_f8]; rfl
  · by_cases h4 : (bits.length : Int) > 4
    · refine new_end bits ([], 1) h20 (Ev.congr (f := fun k => fuse_New.j0 k bits true) (fun k => ?_) ?_) (Ev.congr (f := fun _ => some ([], 1)) (fun k => ?_) (Ev.now _)) rfl
      · unfold fuse_New.f; rw [if_pos h4]
      · refine Ev.step (f := fun _ => some ([], 1)) (fun k => ?_) (Ev.now _)
        simp only [fuse_New.j0]; rw [if_pos trivial]
      · unfold bootchainref07_New.f; rw [if_pos h4]
    · cases hg : bits.any badBit
      · refine new_end bits (newL bits, 0) h20 (Ev.congr (f := fun k => fuse_New.j0 k bits false) (fun k => ?_) ?_) (Ev.congr (f := fun k => bootchainref07_New.l0 k bits ((0 : Nat) : Int) (newL (bits.take 0))) (fun k => ?_) (rnew_l0 bits (by omega) hg _ 0 rfl (by omega))) (newL_valid bits (by omega) hg)
        · unfold fuse_New.f slices_ContainsFunc_int_int.f; rw [if_neg h4, if_pos (by omega), hg]; rfl
        · refine Ev.step (f := fun k => fuse_New.l0 k bits (bits.length : Int) ((0 : Nat) : Int) (newL (bits.take 0))) (fun k => ?_) (new_l0 bits (by omega) hg _ 0 rfl (by omega))
          simp only [fuse_New.j0]; rw [if_neg (by decide)]; rfl
        · unfold bootchainref07_New.f; rw [if_neg h4]; rfl
      · refine new_end bits ([], 1) h20 (Ev.congr (f := fun k => fuse_New.j0 k bits true) (fun k => ?_) ?_) (Ev.congr (f := fun k => bootchainref07_New.l0 k bits ((0 : Nat) : Int) []) (fun k => ?_) (rnew_bad bits (by omega) _ 0 [] rfl (by omega) rfl (by rw [List.drop_zero]; exact hg))) rfl
        · unfold fuse_New.f slices_ContainsFunc_int_int.f; rw [if_neg h4, if_pos (by omega), hg]; rfl
        · refine Ev.step (f := fun _ => some ([], 1)) (fun k => ?_) (Ev.now _)
          simp only [fuse_New.j0]; rw [if_pos trivial]
        · unfold bootchainref07_New.f; rw [if_neg h4]; rfl
end Go.Proofs.Ytnobomefhpkicaa.P
namespace Go.Proofs.Ytnobomefhpkicaa.Pure
open Go.Proofs.Ytnobomefhpkicaa.P
theorem FuseNew : bootchainlaw07_FuseNew.Pure := fun bits _ _ _ => new_pure bits
end Go.Proofs.Ytnobomefhpkicaa.Pure
