/- The law VmIgnoresUnreachedCode of chapter 17 is proved, and its card: at every handed call it returns true and leaves its arguments as they were, under the one condition that the vm's table of instructions holds what the program's text lays in it, to which the card ties it. -/
import Derived.Test.YtbgfkepnlpgagaaDoorRows
import Derived.Test.YtbgfkepnlpgagaaDoorTie
import Derived.Test.YtbgfkepnlpgagaaDoorCards
import Derived.Test.YtbgfkepnlpgagaaDoorT1
import Derived.Test.YtbgfkepnlpgagaaDoorL4
import Derived.Test.YtbgfkepnlpgagaaDoorG5
import Derived.Test.YtbgfkepnlpgagaaDoorO1
import Derived.WalkKit
import Derived.ProofKit
import Derived.OpenShut
import Derived.ChangeOld
import Derived.Below
import Derived.SizedLaws
import Derived.LaidMore
import Derived.Stop.Joined
import Derived.SevenTiedAt
namespace Go.Proofs.YtbgfkepnlpgagaaDoor.vmIgnoresUnreachedCode
open Go.Proofs.YtbgfkepnlpgagaaDoorW.PrintWords
open Go.ChangeShapes Go.WideShapes Go.ChangeAt Go.RowKit
set_option linter.unusedVariables false
theorem own : ownKnob Tryd.prog.godebug = none := by kernel_rfl
theorem laidOut : laidOutB Tryd.prog = true := by kernel_rfl
theorem door_met (os : Os) (args : Array Value) : laidMetH Tryd.prog laid1 ((World.doorLaid Tryd.prog 600 os).forCall (fun _ _ => 0) ⟨#[], args, []⟩).memory :=
  laidMetH_of_parts3 (fuel := 8) (laidMet_of_run' 8 (by kernel_rfl) (by kernel_rfl)) (by kernel_rfl) (by kernel_rfl)
theorem tabOf {W : World} (h : laidMetH Tryd.prog laid1 W) : P.TabW W := ⟨World.block_lt_of_cell? W ⟨0, 1, none⟩ (of_laid h 1 (by decide) (by decide)), fun k h1 h2 => of_laid h k h1 h2⟩
theorem u16_range {a : Int} (h : (Lit.int .u16 a).wf = true) : 0 ≤ a ∧ a ≤ 65535 := by
  simp [Lit.wf, IntKind.min, IntKind.max, IntKind.signed, IntKind.bits] at h
  omega
theorem u8_range {a : Int} (h : (Lit.int .u8 a).wf = true) : 0 ≤ a ∧ a ≤ 255 := by
  simp [Lit.wf, IntKind.min, IntKind.max, IntKind.signed, IntKind.bits] at h
  omega
instance : Inhabited P.S42 := ⟨P.z42⟩
theorem openC : Open.Opens Tryd.prog P.k24 24 (fun _ => True) :=
  (Open.opens_iso (fun x => ⟨x.1, x.2.1, x.2.2⟩) (fun _ => rfl) (Open.opens_struct Tryd.underlying24 (by kernel_rfl) (Open.opensAt_cons rfl (by kernel_rfl) (Open.opens_slice 42 Tryd.underlying22 (by kernel_rfl) (Open.opens_iso (fun x => ⟨x.1, x.2.1, x.2.2⟩) (fun _ => rfl) (Open.opens_struct Tryd.underlying42 (by kernel_rfl) (Open.opensAt_cons rfl (by kernel_rfl) (Open.opens_int Tryd.underlying3) (Open.opensAt_cons rfl (by kernel_rfl) (Open.opens_int Tryd.underlying3) (Open.opensAt_one rfl (by kernel_rfl) (Open.opens_int Tryd.underlying3))))))) (Open.opensAt_cons rfl (by kernel_rfl) (Open.opens_int Tryd.underlying3) (Open.opensAt_one rfl (by kernel_rfl) (Open.opens_int Tryd.underlying3)))))).imp (fun _ _ => trivial)
theorem openI : Open.Opens Tryd.prog (Kd.slice 3 (Kd.int .i64)) 25 (fun _ => True) := (Open.opens_slice 3 Tryd.underlying25 (by kernel_rfl) (Open.opens_int Tryd.underlying3)).imp (fun _ _ => trivial)
theorem openM : Open.Opens Tryd.prog (Kd.slice 42 P.k42) 22 (fun _ => True) :=
  (Open.opens_slice 42 Tryd.underlying22 (by kernel_rfl) (Open.opens_iso (fun x => ⟨x.1, x.2.1, x.2.2⟩) (fun _ => rfl) (Open.opens_struct Tryd.underlying42 (by kernel_rfl) (Open.opensAt_cons rfl (by kernel_rfl) (Open.opens_int Tryd.underlying3) (Open.opensAt_cons rfl (by kernel_rfl) (Open.opens_int Tryd.underlying3) (Open.opensAt_one rfl (by kernel_rfl) (Open.opens_int Tryd.underlying3))))))).imp (fun _ _ => trivial)
theorem openS : Open.Opens Tryd.prog (Kd.pair P.k24 (Kd.pair (Kd.slice 42 P.k42) (Kd.pair (Kd.int .u8) (Kd.pair (Kd.slice 3 (Kd.int .i64)) (Kd.slice 3 (Kd.int .i64)))))) 39 (fun x => True ∧ True ∧ (Lit.int .u8 x.2.2.1).wf = true ∧ True ∧ True) :=
  (Open.opens_struct Tryd.underlying39 (by kernel_rfl) (Open.opensAt_cons rfl (by kernel_rfl) openC (Open.opensAt_cons rfl (by kernel_rfl) openM (Open.opensAt_cons rfl (by kernel_rfl) (Open.opens_int Tryd.underlying5) (Open.opensAt_cons rfl (by kernel_rfl) openI (Open.opensAt_one rfl (by kernel_rfl) openI)))))).imp (fun _ h => h)
set_option maxRecDepth 100000 in
theorem lifted (os : Os) (started : os.Started) (H : Type) (enc : TypeId × Value → H) :
    ReturnsInHanded {} Tryd.checked os 6 .any (fun w args => (Rows.vmIgnoresUnreachedCodeSpec.pre enc Tryd.prog Tryd.f6 [] false w args ∧ laidMetH Tryd.prog laid1 w) ∧ sizedMet enc Tryd.prog Tryd.f6 (OpenSpec.ofChange Rows.vmIgnoresUnreachedCodeSpec) false w args)
      (Rows.vmIgnoresUnreachedCodeSpec.post enc Tryd.prog Tryd.f6 false true false false) := by
  refine returnsInHanded_of_change_and (C := Tryd.checked) (X := fun w _ => laidMetH Tryd.prog laid1 w) (fun _ _ _ hh h => h.of_heap hh) own started (by kernel_rfl) Tryd.func6
    (ChangeSpec.witness_shaped (enc := enc) (C := Tryd.checked) (os := os) (X := fun w _ => laidMetH Tryd.prog laid1 w) false (World.doorLaid Tryd.prog 600 os) #[.agg #[.slice none 0 0, .int .i64 0, .int .i64 0, .slice none 0 0, .int .u8 0, .slice none 0 0, .slice none 0 0]] 8 rfl (World.shaped_of_RefB (by kernel_rfl) (by kernel_rfl)) (by kernel_rfl) (by kernel_rfl) (by kernel_rfl) (door_met os _)) ?_
  intro W base args ds gs before hval0 hW _ _ hL _
  have hval : ∀ (j : Nat) t v, Tryd.f6.params[j]? = some t → args[j]? = some v → Value.okWide Tryd.prog W .any base t v := hval0
  have hW' := hW
  obtain ⟨p, q, hA0, hV, rfl, hfz, hnd⟩ := hW
  have hA : DataW.TrodAll enc Tryd.prog W 0 (fun _ => true) true Tryd.f6.params.toList args.toList ds p := hA0
  rw [Tryd.params6] at hA hval
  obtain ⟨v0, vs0, d0, ds0, p0, q0, hargs, rfl, rfl, h0, r0⟩ := trodAll_cons hA
  obtain ⟨rfl, rfl, rfl⟩ := trodAll_nil r0
  obtain rfl : args = #[v0] := by cases args; simp_all
  obtain ⟨rfl, rfl⟩ := trodVars_none hV
  have k0 := h0
  have lt0 : ∀ x ∈ p0, x.block < W.heap.size := by obtain ⟨m, hm⟩ := k0; exact DataW.trod_lt m _ _ _ hm
  obtain ⟨⟨yc, ym, yv, yi, yg⟩, cs0, hv0, hk0, hw0⟩ := Open.arg_struct Tryd.underlying39 openS (hval 0 39 v0 rfl rfl) h0
  have hf := u8_range hw0.2.2.1
  obtain ⟨ca, _, hcs, hkc, ⟨_, _, rfl, ⟨A3, c3, rfl, hc3, hr3⟩, ⟨_, _, rfl, rfl, ⟨_, _, rfl, ⟨A1, c1, rfl, hc1, hr1⟩, ⟨A2, c2, rfl, hc2, hr2⟩⟩⟩⟩⟩ := hk0
  obtain ⟨A0, c0, rfl, hc0, hr0⟩ := P.k24_open hkc
  obtain rfl : cs0 = #[.slice A0 yc.f0.length c0, .int .i64 yc.f1, .int .i64 yc.f2, .slice A3 ym.length c3, .int .u8 yv, .slice A1 yi.length c1, .slice A2 yg.length c2] := by cases cs0; simp_all
  subst hv0
  clear hA0 hval0
  refine (P.bootchainlaw17_VmIgnoresUnreachedCode.calls 5001 A0 c0 yc.f0 yc.f1 yc.f2 A3 c3 ym yv A1 c1 yi A2 c2 yg true W hr0 hc0 hr3 hc3 hr1 hc1 hr2 hc2 (tabOf hL) (P.uc_pure yc.f0 yc.f1 yc.f2 ym yv yi yg hf)).mono fun e W' ⟨he, bel⟩ => ?_
  subst he
  exact ⟨_, rfl, _, _, _, [], _, [], hW', trodAll_mk1 (shut_bool Tryd.underlying4 _), (trodAll_cons_mk (Below.trod laidOut (by kernel_rfl) (of_decide_eq_true (by kernel_rfl)) k0 bel lt0) trodAll_mk0), rfl, bel.frame _, fun h => by cases h⟩
theorem over : Rows.vmIgnoresUnreachedCodeRow.holds Tryd.pinned (OpenSpec.ofChange Rows.vmIgnoresUnreachedCodeSpec) :=
  OpenClaim.holds_of_wide 6 Tryd.f6 rfl rfl rfl rfl rfl rfl rfl ⟨rfl, rfl, rfl, rfl, rfl⟩ rfl rfl rfl rfl rfl (by kernel_rfl) Tryd.func6 (by kernel_rfl)
    (of_decide_eq_true (by kernel_rfl)) (by unfold Func.isWrapper; first | (rw [if_pos (by decide +kernel)]; kernel_rfl) | (rw [if_neg (by decide +kernel)]; exact ⟨rfl, rfl⟩))
    (fun os started H enc _ => lifted os started H enc)
theorem card : Rows.VmIgnoresUnreachedCodeCardSaid :=
  Claim7.holds_tied_plain_at .later [] [.funcs] true (true, "9cd2be3723325e88dfb42aeeaed6cddbaaa6827b6777111625303739df91185c") true
    over (fun _ h => by cases h) (by kernel_rfl) (fun _ h => by cases h) vmIgnoresUnreachedCode_row_tie rfl ⟨rfl, rfl⟩ (by kernel_rfl) rfl
    (fun f fn hf hfn => by
      obtain rfl : f = 6 := Option.some.inj ((show Tryd.prog.funcNamed "bootchain/bootchainlaw17.VmIgnoresUnreachedCode" = some 6 by kernel_rfl).symm.trans hf) |>.symm
      obtain rfl : fn = Tryd.f6 := (Option.some.inj (Tryd.func6.symm.trans hfn)).symm
      exact ⟨by kernel_rfl, fun j t ht => by
        rw [Tryd.params6] at ht
        have hm : t ∈ [39] := by
          have h1 := Array.mem_of_getElem? ht
          simpa using h1
        simp only [List.mem_cons, List.not_mem_nil, or_false] at hm
        subst hm
        exact (show Tryd.prog.wantsStandIn 39 = false by kernel_rfl)⟩)
    (by kernel_rfl)
#print axioms card
end Go.Proofs.YtbgfkepnlpgagaaDoor.vmIgnoresUnreachedCode
namespace Go.Proofs.YtbgfkepnlpgagaaDoor
/-- The card, under a short name, for the claim. -/
theorem vmIgnoresUnreachedCode_holds : Rows.VmIgnoresUnreachedCodeCardSaid := vmIgnoresUnreachedCode.card
end Go.Proofs.YtbgfkepnlpgagaaDoor
