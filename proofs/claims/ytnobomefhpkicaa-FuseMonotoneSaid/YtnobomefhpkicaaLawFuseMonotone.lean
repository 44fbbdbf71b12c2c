/- The law FuseMonotone of chapter 7 is proved: at every handed call it returns true and leaves its arguments as they were, under no condition of its own. -/
import Derived.Test.YtnobomefhpkicaaRows
import Derived.Test.YtnobomefhpkicaaP5
import Derived.Test.YtnobomefhpkicaaF3
import Derived.Test.YtnobomefhpkicaaO1
import Derived.WalkKit
import Derived.ProofKit
import Derived.OpenShut
import Derived.ChangeOld
import Derived.Below
import Derived.SizedLaws
namespace Go.Proofs.Ytnobomefhpkicaa.fuseMonotone
open Go.Proofs.YtnobomefhpkicaaW.PrintWords
open Go.ChangeShapes Go.WideShapes Go.ChangeAt Go.RowKit
set_option linter.unusedVariables false
theorem own : ownKnob Try.prog.godebug = none := by kernel_rfl
theorem laidOut : laidOutB Try.prog = true := by kernel_rfl
theorem openF : Open.Opens Try.prog P.k24 24 (fun x => x.f0.length ≤ maxLen ∧ ∀ l ∈ x.f0, l.length ≤ maxLen ∧ ∀ y ∈ l, (Lit.int .u8 y).wf = true) :=
  Open.opens_iso (fun l => ⟨l⟩) (fun _ => rfl) (Open.opens_struct Try.underlying24 (by kernel_rfl) (Open.opensAt_one rfl (by kernel_rfl) (Open.opens_slice 26 Try.underlying22 (by kernel_rfl) (Open.opens_slice 5 Try.underlying26 (by kernel_rfl) (Open.opens_int Try.underlying5)))))
instance : Inhabited P.S47 := ⟨P.z47⟩
theorem openH : Open.Opens Try.prog (Kd.slice 47 P.k47) 40 (fun _ => True) :=
  (Open.opens_slice 47 Try.underlying40 (by kernel_rfl) (Open.opens_iso (fun x => ⟨x.1, x.2.1, x.2.2⟩) (fun _ => rfl) (Open.opens_struct Try.underlying47 (by kernel_rfl) (Open.opensAt_cons rfl (by kernel_rfl) (Open.opens_int Try.underlying3) (Open.opensAt_cons rfl (by kernel_rfl) (Open.opens_int Try.underlying3) (Open.opensAt_one rfl (by kernel_rfl) (Open.opens_bool Try.underlying4))))))).imp (fun _ _ => trivial)
set_option maxRecDepth 100000 in
theorem lifted (os : Os) (started : os.Started) (H : Type) (enc : TypeId × Value → H) :
    ReturnsInHanded {} Try.checked os 5 .any (Rows.fuseMonotoneSpec.pre6 enc Try.prog Try.f5 Rows.fuseMonotoneRow.domain false) (Rows.fuseMonotoneSpec.post enc Try.prog Try.f5 false true false false) := by
  refine returnsInHanded_of_change_sized (C := Try.checked) own started (by kernel_rfl) Try.func5
    (ChangeSpec.witness6 (enc := enc) (C := Try.checked) false ⟨#[], #[.agg #[.slice none 0 0], .slice none 0 0], []⟩ 8 (by kernel_rfl) (by kernel_rfl) (by kernel_rfl) (by kernel_rfl)) ?_
  intro W base args ds gs before hval0 hW hcnd hsz0 _
  have hval : ∀ (j : Nat) t v, Try.f5.params[j]? = some t → args[j]? = some v → Value.okWide Try.prog W .any base t v := hval0
  have hW' := hW
  obtain ⟨p, q, hA0, hV, rfl, hfz, hnd⟩ := hW
  have hA : DataW.TrodAll enc Try.prog W 0 (fun _ => true) true Try.f5.params.toList args.toList ds p := hA0
  rw [Try.params5] at hA hval
  obtain ⟨v0, vs0, d0, ds0, p0, q0, hargs, rfl, rfl, h0, r0⟩ := trodAll_cons hA
  obtain ⟨v1, vs1, d1, ds1, p1, q1, rfl, rfl, rfl, h1, r1⟩ := trodAll_cons r0
  obtain ⟨rfl, rfl, rfl⟩ := trodAll_nil r1
  obtain rfl : args = #[v0, v1] := by cases args; simp_all
  obtain ⟨rfl, rfl⟩ := trodVars_none hV
  have k0 := h0
  have lt0 : ∀ x ∈ p0, x.block < W.heap.size := by obtain ⟨m, hm⟩ := k0; exact DataW.trod_lt m _ _ _ hm
  obtain ⟨y0, cs0, hv0, hk0, _⟩ := Open.arg_struct Try.underlying24 openF (hval 0 24 v0 rfl rfl) h0
  obtain ⟨A0, c0, hcs0, hc0, hr0⟩ := P.k24_open hk0
  obtain rfl : cs0 = #[.slice A0 y0.f0.length c0] := by cases cs0; simp_all
  obtain ⟨l0⟩ := y0
  subst hv0
  have k1 := h1
  have lt1 : ∀ x ∈ p1, x.block < W.heap.size := by obtain ⟨m, hm⟩ := k1; exact DataW.trod_lt m _ _ _ hm
  obtain ⟨l1, A1, c1, rfl, hc1, hr1, _⟩ := Open.arg_slice Try.underlying40 openH (hval 1 40 v1 rfl rfl) h1
  clear hA0 hval0 hsz0
  obtain ⟨kk, hp⟩ := P.mono_pure l0 l1
  refine (P.bootchainlaw07_FuseMonotone.calls kk A0 c0 l0 A1 c1 l1 true W hr0 hc0 hr1 hc1 hp).mono fun e W' ⟨he, bel⟩ => ?_
  subst he
  exact ⟨_, rfl, _, _, _, [], _, [], hW', trodAll_mk1 (shut_bool Try.underlying4 _), (trodAll_cons_mk (Below.trod laidOut (by kernel_rfl) (of_decide_eq_true (by kernel_rfl)) k0 bel lt0) (trodAll_cons_mk (Below.trod laidOut (by kernel_rfl) (of_decide_eq_true (by kernel_rfl)) k1 bel lt1) trodAll_mk0)), rfl, bel.frame _, fun h => by cases h⟩
theorem over : Rows.fuseMonotoneRow.holds Try.pinned (OpenSpec.ofChange Rows.fuseMonotoneSpec) :=
  OpenClaim.holds_of_wide 5 Try.f5 rfl rfl rfl rfl rfl rfl rfl ⟨rfl, rfl, rfl, rfl, rfl⟩ rfl rfl rfl rfl rfl (by kernel_rfl) Try.func5 (by kernel_rfl)
    (of_decide_eq_true (by kernel_rfl)) (by unfold Func.isWrapper; first | (rw [if_pos (by decide +kernel)]; kernel_rfl) | (rw [if_neg (by decide +kernel)]; exact ⟨rfl, rfl⟩))
    (fun os started H enc _ => lifted os started H enc)
theorem proved : Rows.FuseMonotoneSaid := over
#print axioms proved
end Go.Proofs.Ytnobomefhpkicaa.fuseMonotone
namespace Go.Proofs.Ytnobomefhpkicaa
/-- The row, under a short name, for the claim. -/
theorem fuseMonotone_holds : Rows.FuseMonotoneSaid := fuseMonotone.proved
end Go.Proofs.Ytnobomefhpkicaa
