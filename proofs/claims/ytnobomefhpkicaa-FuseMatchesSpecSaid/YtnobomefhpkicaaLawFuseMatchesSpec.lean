/- The law FuseMatchesSpec of chapter 7 is proved: at every handed call it returns true and leaves its arguments as they were, under no condition of its own. -/
import Derived.Test.YtnobomefhpkicaaRows
import Derived.Test.YtnobomefhpkicaaH9
import Derived.Test.YtnobomefhpkicaaH9
import Derived.Test.YtnobomefhpkicaaO1
import Derived.WalkKit
import Derived.ProofKit
import Derived.OpenShut
import Derived.ChangeOld
import Derived.Below
import Derived.SizedLaws
namespace Go.Proofs.Ytnobomefhpkicaa.fuseMatchesSpec
open Go.ChangeShapes Go.WideShapes Go.ChangeAt Go.RowKit
set_option linter.unusedVariables false
theorem own : ownKnob Try.prog.godebug = none := by kernel_rfl
theorem laidOut : laidOutB Try.prog = true := by kernel_rfl
theorem openF : Open.Opens Try.prog P.k24 24 (fun x => x.f0.length ≤ maxLen ∧ ∀ l ∈ x.f0, l.length ≤ maxLen ∧ ∀ y ∈ l, (Lit.int .u8 y).wf = true) :=
  Open.opens_iso (fun l => ⟨l⟩) (fun _ => rfl) (Open.opens_struct Try.underlying24 (by kernel_rfl) (Open.opensAt_one rfl (by kernel_rfl) (Open.opens_slice 26 Try.underlying22 (by kernel_rfl) (Open.opens_slice 5 Try.underlying26 (by kernel_rfl) (Open.opens_int Try.underlying5)))))
set_option maxRecDepth 100000 in
theorem lifted (os : Os) (started : os.Started) (H : Type) (enc : TypeId × Value → H) :
    ReturnsInHanded {} Try.checked os 3 .any (Rows.fuseMatchesSpecSpec.pre6 enc Try.prog Try.f3 Rows.fuseMatchesSpecRow.domain false) (Rows.fuseMatchesSpecSpec.post enc Try.prog Try.f3 false true false false) := by
  refine returnsInHanded_of_change_sized (C := Try.checked) own started (by kernel_rfl) Try.func3
    (ChangeSpec.witness6 (enc := enc) (C := Try.checked) false ⟨#[], #[.agg #[.slice none 0 0], .int .i64 0, .int .i64 0, .bool false], []⟩ 8 (by kernel_rfl) (by kernel_rfl) (by kernel_rfl) (by kernel_rfl)) ?_
  intro W base args ds gs before hval0 hW hcnd hsz0 _
  have hval : ∀ (j : Nat) t v, Try.f3.params[j]? = some t → args[j]? = some v → Value.okWide Try.prog W .any base t v := hval0
  have hW' := hW
  obtain ⟨p, q, hA0, hV, rfl, hfz, hnd⟩ := hW
  have hA : DataW.TrodAll enc Try.prog W 0 (fun _ => true) true Try.f3.params.toList args.toList ds p := hA0
  rw [Try.params3] at hA hval
  obtain ⟨v0, vs0, d0, ds0, p0, q0, hargs, rfl, rfl, h0, r0⟩ := trodAll_cons hA
  obtain ⟨v1, vs1, d1, ds1, p1, q1, rfl, rfl, rfl, h1, r1⟩ := trodAll_cons r0
  obtain ⟨v2, vs2, d2, ds2, p2, q2, rfl, rfl, rfl, h2, r2⟩ := trodAll_cons r1
  obtain ⟨v3, vs3, d3, ds3, p3, q3, rfl, rfl, rfl, h3, r3⟩ := trodAll_cons r2
  obtain ⟨rfl, rfl, rfl⟩ := trodAll_nil r3
  obtain rfl : args = #[v0, v1, v2, v3] := by cases args; simp_all
  obtain ⟨rfl, rfl⟩ := trodVars_none hV
  have k0 := h0
  have lt0 : ∀ x ∈ p0, x.block < W.heap.size := by obtain ⟨m, hm⟩ := k0; exact DataW.trod_lt m _ _ _ hm
  obtain ⟨y0, cs0, hv0, hk0, _⟩ := Open.arg_struct Try.underlying24 openF (hval 0 24 v0 rfl rfl) h0
  obtain ⟨A0, c0, hcs0, hc0, hr0⟩ := P.k24_open hk0
  obtain rfl : cs0 = #[.slice A0 y0.f0.length c0] := by cases cs0; simp_all
  obtain ⟨l0⟩ := y0
  subst hv0
  obtain ⟨a1, rfl, rfl, rfl, wa1⟩ := open_int Try.underlying3 (hval 1 3 v1 rfl rfl) h1
  obtain ⟨a2, rfl, rfl, rfl, wa2⟩ := open_int Try.underlying3 (hval 2 3 v2 rfl rfl) h2
  obtain ⟨a3, rfl, rfl, rfl⟩ := open_bool Try.underlying4 (hval 3 4 v3 rfl rfl) h3
  clear hA0 hval0 hsz0
  refine (P.matches_any A0 c0 l0 a1 a2 a3 W hr0 hc0).mono fun e W' ⟨he, bel⟩ => ?_
  subst he
  exact ⟨_, rfl, _, _, _, [], _, [], hW', trodAll_mk1 (shut_bool Try.underlying4 _), (trodAll_cons_mk (Below.trod laidOut (by kernel_rfl) (of_decide_eq_true (by kernel_rfl)) k0 bel lt0) (trodAll_cons_mk (shut_int Try.underlying3 wa1) (trodAll_cons_mk (shut_int Try.underlying3 wa2) (trodAll_cons_mk (shut_bool Try.underlying4 _) trodAll_mk0)))), rfl, bel.frame _, fun h => by cases h⟩
theorem over : Rows.fuseMatchesSpecRow.holds Try.pinned (OpenSpec.ofChange Rows.fuseMatchesSpecSpec) :=
  OpenClaim.holds_of_wide 3 Try.f3 rfl rfl rfl rfl rfl rfl rfl ⟨rfl, rfl, rfl, rfl, rfl⟩ rfl rfl rfl rfl rfl (by kernel_rfl) Try.func3 (by kernel_rfl)
    (of_decide_eq_true (by kernel_rfl)) (by unfold Func.isWrapper; first | (rw [if_pos (by decide +kernel)]; kernel_rfl) | (rw [if_neg (by decide +kernel)]; exact ⟨rfl, rfl⟩))
    (fun os started H enc _ => lifted os started H enc)
theorem proved : Rows.FuseMatchesSpecSaid := over
#print axioms proved
end Go.Proofs.Ytnobomefhpkicaa.fuseMatchesSpec
namespace Go.Proofs.Ytnobomefhpkicaa
/-- The row, under a short name, for the claim. -/
theorem fuseMatchesSpec_holds : Rows.FuseMatchesSpecSaid := fuseMatchesSpec.proved
end Go.Proofs.Ytnobomefhpkicaa
