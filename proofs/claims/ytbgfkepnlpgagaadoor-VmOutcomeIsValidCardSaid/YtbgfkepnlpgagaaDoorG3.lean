/- The plain law of VmOutcomeIsValid. -/
import Derived.Test.YtbgfkepnlpgagaaDoorG2
import Derived.Test.YtbgfkepnlpgagaaDoorL2
namespace Go.Proofs.YtbgfkepnlpgagaaDoor.P
open Go.RowKit Go.Proofs.YtbgfkepnlpgagaaDoorW.PrintWords
set_option linter.unusedVariables false
theorem ov_l1 {P : Int} {st : St} (hg : Gd P st) (hd : st.done = true) (l0 : List S42) (V : Int) (d : Nat) : ∀ (k i : Nat), i + d = st.notes.length → d < k → bootchainlaw17_VmOutcomeIsValid.l1 k true (i : Int) l0 V P st.pts st.notes st.fin st.steps = some true := by
  have hn := hg.dn hd
  have h3 := hg.t3
  induction d with
  | zero =>
    intro k i hi hk
    obtain ⟨k, rfl⟩ : ∃ m, k = m + 1 := ⟨k - 1, by omega⟩
    simp only [bootchainlaw17_VmOutcomeIsValid.l1]
    rw [if_neg (by omega), if_pos trivial, if_pos hg.pP, if_pos (by omega), if_pos h3, decide_eq_true hn]
  | succ d ih =>
    intro k i hi hk
    obtain ⟨k, rfl⟩ : ∃ m, k = m + 1 := ⟨k - 1, by omega⟩
    have hr : Rg (rd st.notes (i : Int)) := by unfold rd; exact rg_getD hg.nr _
    obtain ⟨hr0, hr1⟩ := hr
    simp only [bootchainlaw17_VmOutcomeIsValid.l1]
    rw [if_pos (by omega), if_pos (by omega), if_neg (by omega), if_neg (by omega)]
    have e : wrap64 ((i : Int) + 1) = ((i + 1 : Nat) : Int) := by unfold wrap64; omega
    rw [e]
    exact ih k (i + 1) (by omega) (by omega)
theorem ov_l0 {P : Int} {st : St} (hg : Gd P st) (hd : st.done = true) (hP : P ≤ 8) (l0 : List S42) (V : Int) (d : Nat) : ∀ (k i : Nat), i + d = st.pts.length → d + 4000 < k → bootchainlaw17_VmOutcomeIsValid.l0 k true (i : Int) l0 V P st.pts st.notes st.fin st.steps = some true := by
  have hn := hg.dn hd
  have h3 := hg.t3
  have hp := hg.pP
  induction d with
  | zero =>
    intro k i hi hk
    obtain ⟨k, rfl⟩ : ∃ m, k = m + 1 := ⟨k - 1, by omega⟩
    simp only [bootchainlaw17_VmOutcomeIsValid.l0]
    rw [if_neg (by omega)]
    exact ov_l1 hg hd l0 V st.notes.length k 0 (by omega) (by omega)
  | succ d ih =>
    intro k i hi hk
    obtain ⟨k, rfl⟩ : ∃ m, k = m + 1 := ⟨k - 1, by omega⟩
    have hr : 0 ≤ rd st.pts (i : Int) ∧ rd st.pts (i : Int) ≤ 3 := by unfold rd; exact pt_getD hg.pr _
    simp only [bootchainlaw17_VmOutcomeIsValid.l0]
    rw [if_pos (by omega), if_pos (by omega), if_neg (by omega), if_neg (by omega)]
    have e : wrap64 ((i : Int) + 1) = ((i + 1 : Nat) : Int) := by unfold wrap64; omega
    rw [e]
    exact ih k (i + 1) (by omega) (by omega)
theorem ov_pure (l0 : List S42) (V P : Int) (l1 l2 : List Int) : bootchainlaw17_VmOutcomeIsValid.f 5000 l0 V P l1 l2 = some true := by
  unfold bootchainlaw17_VmOutcomeIsValid.f bootchainlaw17_sanity.f
  rw [small_f]
  simp only [Option.bind_some]
  by_cases hs : l0.length ≤ 200 ∧ l1.length ≤ 20 ∧ l2.length ≤ 20
  · rw [if_pos (decide_eq_true hs)]
    rcases run_cases l0 V P l1 l2 (by omega) (by omega) with ⟨e, he, h⟩ | ⟨st, hw, h⟩
    · rw [h]
      simp [he]
    · rw [h]
      simp only [Option.bind_some, if_pos]
      obtain ⟨a1, a2, a3, a4, a5⟩ := validP_more hw.vd
      have hp := hw.gd.pP
      exact ov_l0 hw.gd hw.dn a2 l0 V st.pts.length 5000 0 (by omega) (by omega)
  · rw [if_neg (by simpa using hs)]
end Go.Proofs.YtbgfkepnlpgagaaDoor.P
