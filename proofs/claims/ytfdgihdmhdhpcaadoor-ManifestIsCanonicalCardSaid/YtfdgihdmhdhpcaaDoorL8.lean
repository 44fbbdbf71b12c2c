import Derived.Test.YtfdgihdmhdhpcaaDoorProg
import Derived.Below
import Derived.Deep.Draws
import Derived.Deep.AppendLies
import Derived.Maps.AppendAt
import Derived.OwnWalk
import Derived.Laws.BytesArg
import Derived.Laws.MakeOwn
import Derived.Laws.OwnMore
import Derived.Deep.OwnRows
import Derived.Tactics
import Derived.Lib.ConvBytes
import Derived.Laws.Slices
import Derived.WalkKit
import Derived.KernelRfl
import Derived.RowKit3
import Derived.Deep.LoopGhost
import Derived.Deep.QuietTactic
import Derived.BigQuiet
import Derived.WideLaws
import Derived.Deep.DeepCutAuto
import Derived.Deep.CutBlock
import Derived.Deep.RegionHeld3
import Derived.Laws.Rows
import Derived.Lib.AppendStr
import Derived.ArgAppend
import Derived.Laws.IdiomCopy
import Derived.OrdersHeld
import Derived.Laws.BitsLemmas
import Derived.RowKit
import Derived.Test.YtfdgihdmhdhpcaaDoorWWords
import Derived.Test.YtfdgihdmhdhpcaaDoorWLast
import Derived.Test.YtfdgihdmhdhpcaaDoorWTab
import Derived.Test.YtfdgihdmhdhpcaaDoorWFour
import Derived.Test.YtfdgihdmhdhpcaaDoorWQPut
import Derived.Test.YtfdgihdmhdhpcaaDoorWApart
import Derived.Test.YtfdgihdmhdhpcaaDoorWArr
import Derived.Test.YtfdgihdmhdhpcaaDoorWZeros
import Derived.Test.YtfdgihdmhdhpcaaDoorWFoot
import Derived.Test.YtfdgihdmhdhpcaaDoorWKept
import Derived.Test.YtfdgihdmhdhpcaaDoorWShare
import Derived.Test.YtfdgihdmhdhpcaaDoorWN
import Derived.Test.YtfdgihdmhdhpcaaDoorWFootNe
import Derived.Test.YtfdgihdmhdhpcaaDoorWAt
import Derived.Test.YtfdgihdmhdhpcaaDoorWEqStruct
import Derived.Test.YtfdgihdmhdhpcaaDoorWRepsOne
import Derived.Test.YtfdgihdmhdhpcaaDoorWInv
import Derived.Test.YtfdgihdmhdhpcaaDoorWInvWords
import Derived.Test.YtfdgihdmhdhpcaaDoorWGuard
import Derived.Test.YtfdgihdmhdhpcaaDoorWNEv
import Derived.Test.YtfdgihdmhdhpcaaDoorWMore
import Derived.Lib.Hide
import Derived.Outline
import Derived.Recover
import Derived.WalkLawsBesides
import Derived.Laws.Panics
import Derived.Laws.Pointers
import Derived.Tactics2
import Derived.Deep.RegionWith
import Derived.WalkSpells
import Derived.WalkMore
import Derived.Laws.Cover3
import Derived.Deep.MidRow
import Derived.Deep.Upon
import Derived.ChangeKeysEq
import Derived.Test.YtfdgihdmhdhpcaaDoorGB
import Derived.Test.YtfdgihdmhdhpcaaDoorN1
namespace Go.Proofs.YtfdgihdmhdhpcaaDoor.P
open Go.RowKit Go.Proofs.YtfdgihdmhdhpcaaDoorW.PrintWords Go.Proofs.YtfdgihdmhdhpcaaDoorW.PrintLast Go.Proofs.YtfdgihdmhdhpcaaDoorW.PrintMore
attribute [local go_sem] max2_int min2_int max_two min_two max_three min_three max_four min_four
set_option linter.unusedVariables false
set_option linter.unusedSimpArgs false
theorem sigs_len (L : List S72) : L.length ≤ (encL encSig L).length := by
  have := flat_len (enc := encSig) (fun x => by have := encI_pos x.f0; rw [encSig, List.length_append]; omega) L
  rw [encL, List.length_append]
  omega
theorem strs_len (L : List ByteArray) : L.length ≤ (encL encS L).length := by
  have := flat_len (enc := encS) (fun x => by have := encI_pos (x.size : Int); rw [encS, List.length_append]; omega) L
  rw [encL, List.length_append]
  omega
theorem canon_man (s : ByteArray) (hs : s.size ≤ 3000) : ∃ y : S24 × Int, manifest_Decode.f 4000 s = some (y.1.f0, y.1.f1, y.1.f2, y.1.f3, y.2) ∧ (y.2 = 0 → manifest_Encode.f 4000 y.1.f0 y.1.f1 y.1.f2 y.1.f3 = some s) := by
  obtain ⟨t, ht, hc⟩ := dec_any (man_par 4000 (by decide)) z24 s (by show s.size < 1099511627776; omega)
  refine ⟨endP z24 t.1 t.2.1 t.2.2, ?_, fun h => ?_⟩
  · rw [manifest_Decode.f, if_pos (by omega), ht]
    rfl
  · obtain ⟨h1, h2, h3⟩ := hc h
    rw [← h2]
    exact Encode_eq 4000 (by decide) _ h1
theorem canon_keys (s : ByteArray) (hs : s.size ≤ 3000) : ∃ y : S30 × Int, manifest_DecodeKeyset.f 4000 s = some (y.1.f0, y.1.f1, y.1.f2, y.1.f3, y.2) ∧ (y.2 = 0 → manifest_EncodeKeyset.f 4000 y.1.f0 y.1.f1 y.1.f2 y.1.f3 = some s) := by
  obtain ⟨t, ht, hc⟩ := dec_any (keys_par 4000 (by decide)) z30 s (by show s.size < 1099511627776; omega)
  refine ⟨endP z30 t.1 t.2.1 t.2.2, ?_, fun h => ?_⟩
  · rw [manifest_DecodeKeyset.f, if_pos (by omega), ht]
    rfl
  · obtain ⟨h1, h2, h3⟩ := hc h
    rw [← h2]
    exact EncodeKeyset_eq 4000 (by decide) _ h1
theorem canon_bun (s : ByteArray) (hs : s.size ≤ 3000) : ∃ y : S28 × Int, manifest_DecodeBundle.f 4000 s = some (y.1.f0.f0, y.1.f0.f1, y.1.f0.f2, y.1.f0.f3, y.1.f1, y.1.f2, y.2) ∧ (y.2 = 0 → manifest_EncodeBundle.f 4000 y.1.f0.f0 y.1.f0.f1 y.1.f0.f2 y.1.f0.f3 y.1.f1 y.1.f2 = some s) := by
  obtain ⟨t, ht, hc⟩ := dec_any (bun_par 4000 (by decide)) z28 s (by show s.size < 1099511627776; omega)
  refine ⟨endP z28 t.1 t.2.1 t.2.2, ?_, fun h => ?_⟩
  · rw [manifest_DecodeBundle.f, if_pos (by omega), ht]
    rfl
  · obtain ⟨h1, h2, h3⟩ := hc h
    rw [← h2]
    have hl1 := sigs_len (endP z28 t.1 t.2.1 t.2.2).1.f1
    have hl2 := strs_len (endP z28 t.1 t.2.1 t.2.2).1.f2
    rw [encBun, List.length_append, List.length_append] at h3
    exact EncodeBundle_eq 4000 _ h1 (by omega) (by omega) (by rw [encBun, List.length_append, List.length_append]; show _ < 1099511627776; omega)
theorem canon_rot (s : ByteArray) (hs : s.size ≤ 3000) : ∃ y : S32 × Int, manifest_DecodeRotation.f 4000 s = some (y.1.f0.f0, y.1.f0.f1, y.1.f0.f2, y.1.f0.f3, y.1.f1, y.2) ∧ (y.2 = 0 → manifest_EncodeRotation.f 4000 y.1.f0.f0 y.1.f0.f1 y.1.f0.f2 y.1.f0.f3 y.1.f1 = some s) := by
  obtain ⟨t, ht, hc⟩ := dec_any (rot_par 4000 (by decide)) z32 s (by show s.size < 1099511627776; omega)
  refine ⟨endP z32 t.1 t.2.1 t.2.2, ?_, fun h => ?_⟩
  · rw [manifest_DecodeRotation.f, if_pos (by omega), ht]
    rfl
  · obtain ⟨h1, h2, h3⟩ := hc h
    rw [← h2]
    have hl1 := sigs_len (endP z32 t.1 t.2.1 t.2.2).1.f1
    rw [encRot, List.length_append] at h3
    exact EncodeRotation_eq 4000 _ h1 (by omega) (by rw [encRot, List.length_append]; show _ < 1099511627776; omega)
set_option maxRecDepth 100000 in
set_option maxHeartbeats 2000000 in
theorem canon_calls (s : ByteArray) (w : World) (htab : TabW w) : Calls Tryd.prog 8 #[.string s] w fun e w' => e = .returned (.bool true) ∧ Below w.heap.size w w' := by
  have HTAB := Aside0.mk htab
  clear htab
  go_enter Tryd.func8, Tryd.ntmps8
  go_wp2_with (fail)
  refine (sanity_calls w HTAB.out).mono ?_
  rintro e_ w1 ⟨rfl, hb⟩
  have T := Aside0.mk hb
  clear hb
  by_cases hs : s.size ≤ 3000
  case neg =>
    go_wp2_with (fail)
    go_ret
    exact ⟨rfl, T.out⟩
  obtain ⟨y0, hf0, hc0⟩ := canon_man s hs
  have HF0 := Aside0.mk hf0
  have HC0 := Aside0.mk hc0
  clear hf0 hc0
  obtain ⟨y1, hf1, hc1⟩ := canon_keys s hs
  have HF1 := Aside0.mk hf1
  have HC1 := Aside0.mk hc1
  clear hf1 hc1
  obtain ⟨y2, hf2, hc2⟩ := canon_bun s hs
  have HF2 := Aside0.mk hf2
  have HC2 := Aside0.mk hc2
  clear hf2 hc2
  obtain ⟨y3, hf3, hc3⟩ := canon_rot s hs
  have HF3 := Aside0.mk hf3
  have HC3 := Aside0.mk hc3
  clear hf3 hc3
  go_wp2_with (fail)
  refine (manifest_Decode.calls 4000 s _ _ _ _ _ w1 HF0.out).mono ?_
  rintro e_ wd0 ⟨v0, rfl, hR0, hb⟩
  obtain ⟨AP0, cP0, rfl, hlP0, hC0⟩ := Kd.R_reads hR0
  replace T := Aside0.mk (below_then T.out T.out.size hb)
  have CP0 := Aside0.mk hC0
  clear hb hR0 hC0
  have hal := below_alloc (Below.refl _ wd0) (.cells #[.int .i64 y0.1.f0, .int .i64 y0.1.f1, .int .i64 y0.1.f2, .slice AP0 y0.1.f3.length cP0] 24)
  have P := Aside0.mk (blk_new wd0 (.cells #[.int .i64 y0.1.f0, .int .i64 y0.1.f1, .int .i64 y0.1.f2, .slice AP0 y0.1.f3.length cP0] 24))
  replace T := Aside0.mk (below_then T.out T.out.size hal)
  replace CP0 := Aside0.mk (Kd.C_below CP0.out hal)
  clear hal
  go_upto_region 5 with (fail)
  generalize hb_ : wd0.heap.size = b4 at P ⊢
  clear hb_
  generalize World.alloc wd0 _ = wd0a at T CP0 P ⊢
  go_wp2_with (fail)
  refine (manifest_DecodeKeyset.calls 4000 s _ _ _ _ _ wd0a HF1.out).mono ?_
  rintro e_ wd1 ⟨v0, rfl, hR0, hb⟩
  obtain ⟨AQ0, cQ0, rfl, hlQ0, hC0⟩ := Kd.R_reads hR0
  replace T := Aside0.mk (below_then T.out T.out.size hb)
  replace CP0 := Aside0.mk (Kd.C_below CP0.out hb)
  replace P := Aside0.mk (blk_below P.out hb)
  have CQ0 := Aside0.mk hC0
  clear hb hR0 hC0
  have hal := below_alloc (Below.refl _ wd1) (.cells #[.int .i64 y1.1.f0, .int .i64 y1.1.f1, .int .i64 y1.1.f2, .slice AQ0 y1.1.f3.length cQ0] 30)
  have Q := Aside0.mk (blk_new wd1 (.cells #[.int .i64 y1.1.f0, .int .i64 y1.1.f1, .int .i64 y1.1.f2, .slice AQ0 y1.1.f3.length cQ0] 30))
  replace T := Aside0.mk (below_then T.out T.out.size hal)
  replace CP0 := Aside0.mk (Kd.C_below CP0.out hal)
  replace P := Aside0.mk (blk_below P.out hal)
  replace CQ0 := Aside0.mk (Kd.C_below CQ0.out hal)
  clear hal
  go_upto_region 6 with (fail)
  generalize hb_ : wd1.heap.size = b6 at Q ⊢
  clear hb_
  generalize World.alloc wd1 _ = wd1a at T CP0 P CQ0 Q ⊢
  go_wp2_with (fail)
  refine (manifest_DecodeBundle.calls 4000 s _ _ _ _ _ _ _ wd1a HF2.out).mono ?_
  rintro e_ wd2 ⟨v0, v1, v2, rfl, hR0, hR1, hR2, hb⟩
  obtain ⟨AS0, cS0, rfl, hlS0, hC0⟩ := Kd.R_reads hR0
  obtain ⟨AS1, cS1, rfl, hlS1, hC1⟩ := Kd.R_reads hR1
  obtain ⟨AS2, cS2, rfl, hlS2, hC2⟩ := Kd.R_reads hR2
  replace T := Aside0.mk (below_then T.out T.out.size hb)
  replace CP0 := Aside0.mk (Kd.C_below CP0.out hb)
  replace P := Aside0.mk (blk_below P.out hb)
  replace CQ0 := Aside0.mk (Kd.C_below CQ0.out hb)
  replace Q := Aside0.mk (blk_below Q.out hb)
  have CS0 := Aside0.mk hC0
  have CS1 := Aside0.mk hC1
  have CS2 := Aside0.mk hC2
  clear hb hR0 hC0 hR1 hC1 hR2 hC2
  have hal := below_alloc (Below.refl _ wd2) (.cells #[.int .i64 y2.1.f0.f0, .int .i64 y2.1.f0.f1, .int .i64 y2.1.f0.f2, .slice AS0 y2.1.f0.f3.length cS0, .slice AS1 y2.1.f1.length cS1, .slice AS2 y2.1.f2.length cS2] 28)
  have S := Aside0.mk (blk_new wd2 (.cells #[.int .i64 y2.1.f0.f0, .int .i64 y2.1.f0.f1, .int .i64 y2.1.f0.f2, .slice AS0 y2.1.f0.f3.length cS0, .slice AS1 y2.1.f1.length cS1, .slice AS2 y2.1.f2.length cS2] 28))
  replace T := Aside0.mk (below_then T.out T.out.size hal)
  replace CP0 := Aside0.mk (Kd.C_below CP0.out hal)
  replace P := Aside0.mk (blk_below P.out hal)
  replace CQ0 := Aside0.mk (Kd.C_below CQ0.out hal)
  replace Q := Aside0.mk (blk_below Q.out hal)
  replace CS0 := Aside0.mk (Kd.C_below CS0.out hal)
  replace CS1 := Aside0.mk (Kd.C_below CS1.out hal)
  replace CS2 := Aside0.mk (Kd.C_below CS2.out hal)
  clear hal
  go_upto_region 7 with (fail)
  generalize hb_ : wd2.heap.size = b8 at S ⊢
  clear hb_
  generalize World.alloc wd2 _ = wd2a at T CP0 P CQ0 Q CS0 CS1 CS2 S ⊢
  go_wp2_with (fail)
  refine (manifest_DecodeRotation.calls 4000 s _ _ _ _ _ _ wd2a HF3.out).mono ?_
  rintro e_ wd3 ⟨v0, v1, rfl, hR0, hR1, hb⟩
  obtain ⟨AU0, cU0, rfl, hlU0, hC0⟩ := Kd.R_reads hR0
  obtain ⟨AU1, cU1, rfl, hlU1, hC1⟩ := Kd.R_reads hR1
  replace T := Aside0.mk (below_then T.out T.out.size hb)
  replace CP0 := Aside0.mk (Kd.C_below CP0.out hb)
  replace P := Aside0.mk (blk_below P.out hb)
  replace CQ0 := Aside0.mk (Kd.C_below CQ0.out hb)
  replace Q := Aside0.mk (blk_below Q.out hb)
  replace CS0 := Aside0.mk (Kd.C_below CS0.out hb)
  replace CS1 := Aside0.mk (Kd.C_below CS1.out hb)
  replace CS2 := Aside0.mk (Kd.C_below CS2.out hb)
  replace S := Aside0.mk (blk_below S.out hb)
  have CU0 := Aside0.mk hC0
  have CU1 := Aside0.mk hC1
  clear hb hR0 hC0 hR1 hC1
  have hal := below_alloc (Below.refl _ wd3) (.cells #[.int .i64 y3.1.f0.f0, .int .i64 y3.1.f0.f1, .int .i64 y3.1.f0.f2, .slice AU0 y3.1.f0.f3.length cU0, .slice AU1 y3.1.f1.length cU1] 32)
  have U := Aside0.mk (blk_new wd3 (.cells #[.int .i64 y3.1.f0.f0, .int .i64 y3.1.f0.f1, .int .i64 y3.1.f0.f2, .slice AU0 y3.1.f0.f3.length cU0, .slice AU1 y3.1.f1.length cU1] 32))
  replace T := Aside0.mk (below_then T.out T.out.size hal)
  replace CP0 := Aside0.mk (Kd.C_below CP0.out hal)
  replace P := Aside0.mk (blk_below P.out hal)
  replace CQ0 := Aside0.mk (Kd.C_below CQ0.out hal)
  replace Q := Aside0.mk (blk_below Q.out hal)
  replace CS0 := Aside0.mk (Kd.C_below CS0.out hal)
  replace CS1 := Aside0.mk (Kd.C_below CS1.out hal)
  replace CS2 := Aside0.mk (Kd.C_below CS2.out hal)
  replace S := Aside0.mk (blk_below S.out hal)
  replace CU0 := Aside0.mk (Kd.C_below CU0.out hal)
  replace CU1 := Aside0.mk (Kd.C_below CU1.out hal)
  clear hal
  go_upto_region 8 with (fail)
  generalize hb_ : wd3.heap.size = b10 at U ⊢
  clear hb_
  generalize World.alloc wd3 _ = wd3a at T CP0 P CQ0 Q CS0 CS1 CS2 S CU0 CU1 U ⊢
  by_cases he0 : y0.2 = 0
  · have hz0 : (y0.2 != 0) = false := by simp [he0]
    have q0_0 := blk_cell P.out 0
    have q0_1 := blk_cell P.out 1
    have q0_2 := blk_cell P.out 2
    have q0_3 := blk_cell P.out 3
    go_wp2_with (fail)
    refine (manifest_Encode.calls 4000 _ _ _ _ _ _ s _ CP0.out hlP0 (HC0.out he0)).mono ?_
    rintro e_ we0 ⟨rfl, hb⟩
    replace T := Aside0.mk (below_then T.out T.out.size hb)
    replace CP0 := Aside0.mk (Kd.C_below CP0.out hb)
    replace P := Aside0.mk (blk_below P.out hb)
    replace CQ0 := Aside0.mk (Kd.C_below CQ0.out hb)
    replace Q := Aside0.mk (blk_below Q.out hb)
    replace CS0 := Aside0.mk (Kd.C_below CS0.out hb)
    replace CS1 := Aside0.mk (Kd.C_below CS1.out hb)
    replace CS2 := Aside0.mk (Kd.C_below CS2.out hb)
    replace S := Aside0.mk (blk_below S.out hb)
    replace CU0 := Aside0.mk (Kd.C_below CU0.out hb)
    replace CU1 := Aside0.mk (Kd.C_below CU1.out hb)
    replace U := Aside0.mk (blk_below U.out hb)
    clear hb q0_0 q0_1 q0_2 q0_3
    by_cases he1 : y1.2 = 0
    · have hz1 : (y1.2 != 0) = false := by simp [he1]
      have q1_0 := blk_cell Q.out 0
      have q1_1 := blk_cell Q.out 1
      have q1_2 := blk_cell Q.out 2
      have q1_3 := blk_cell Q.out 3
      go_wp2_with (fail)
      refine (manifest_EncodeKeyset.calls 4000 _ _ _ _ _ _ s _ CQ0.out hlQ0 (HC1.out he1)).mono ?_
      rintro e_ we1 ⟨rfl, hb⟩
      replace T := Aside0.mk (below_then T.out T.out.size hb)
      replace CP0 := Aside0.mk (Kd.C_below CP0.out hb)
      replace P := Aside0.mk (blk_below P.out hb)
      replace CQ0 := Aside0.mk (Kd.C_below CQ0.out hb)
      replace Q := Aside0.mk (blk_below Q.out hb)
      replace CS0 := Aside0.mk (Kd.C_below CS0.out hb)
      replace CS1 := Aside0.mk (Kd.C_below CS1.out hb)
      replace CS2 := Aside0.mk (Kd.C_below CS2.out hb)
      replace S := Aside0.mk (blk_below S.out hb)
      replace CU0 := Aside0.mk (Kd.C_below CU0.out hb)
      replace CU1 := Aside0.mk (Kd.C_below CU1.out hb)
      replace U := Aside0.mk (blk_below U.out hb)
      clear hb q1_0 q1_1 q1_2 q1_3
      by_cases he2 : y2.2 = 0
      · have hz2 : (y2.2 != 0) = false := by simp [he2]
        have q2_0 := blk_cell S.out 0
        have q2_1 := blk_cell S.out 1
        have q2_2 := blk_cell S.out 2
        have q2_3 := blk_cell S.out 3
        have q2_4 := blk_cell S.out 4
        have q2_5 := blk_cell S.out 5
        go_wp2_with (fail)
        refine (manifest_EncodeBundle.calls 4000 _ _ _ _ _ _ _ _ _ _ _ _ s _ CS0.out hlS0 CS1.out hlS1 CS2.out hlS2 (HC2.out he2)).mono ?_
        rintro e_ we2 ⟨rfl, hb⟩
        replace T := Aside0.mk (below_then T.out T.out.size hb)
        replace CP0 := Aside0.mk (Kd.C_below CP0.out hb)
        replace P := Aside0.mk (blk_below P.out hb)
        replace CQ0 := Aside0.mk (Kd.C_below CQ0.out hb)
        replace Q := Aside0.mk (blk_below Q.out hb)
        replace CS0 := Aside0.mk (Kd.C_below CS0.out hb)
        replace CS1 := Aside0.mk (Kd.C_below CS1.out hb)
        replace CS2 := Aside0.mk (Kd.C_below CS2.out hb)
        replace S := Aside0.mk (blk_below S.out hb)
        replace CU0 := Aside0.mk (Kd.C_below CU0.out hb)
        replace CU1 := Aside0.mk (Kd.C_below CU1.out hb)
        replace U := Aside0.mk (blk_below U.out hb)
        clear hb q2_0 q2_1 q2_2 q2_3 q2_4 q2_5
        by_cases he3 : y3.2 = 0
        · have hz3 : (y3.2 != 0) = false := by simp [he3]
          have q3_0 := blk_cell U.out 0
          have q3_1 := blk_cell U.out 1
          have q3_2 := blk_cell U.out 2
          have q3_3 := blk_cell U.out 3
          have q3_4 := blk_cell U.out 4
          go_wp2_with (fail)
          refine (manifest_EncodeRotation.calls 4000 _ _ _ _ _ _ _ _ _ s _ CU0.out hlU0 CU1.out hlU1 (HC3.out he3)).mono ?_
          rintro e_ we3 ⟨rfl, hb⟩
          replace T := Aside0.mk (below_then T.out T.out.size hb)
          replace CP0 := Aside0.mk (Kd.C_below CP0.out hb)
          replace P := Aside0.mk (blk_below P.out hb)
          replace CQ0 := Aside0.mk (Kd.C_below CQ0.out hb)
          replace Q := Aside0.mk (blk_below Q.out hb)
          replace CS0 := Aside0.mk (Kd.C_below CS0.out hb)
          replace CS1 := Aside0.mk (Kd.C_below CS1.out hb)
          replace CS2 := Aside0.mk (Kd.C_below CS2.out hb)
          replace S := Aside0.mk (blk_below S.out hb)
          replace CU0 := Aside0.mk (Kd.C_below CU0.out hb)
          replace CU1 := Aside0.mk (Kd.C_below CU1.out hb)
          replace U := Aside0.mk (blk_below U.out hb)
          clear hb q3_0 q3_1 q3_2 q3_3 q3_4
          go_wp2_with (fail)
          go_ret
          exact ⟨rfl, T.out⟩
        · have hz3 : (y3.2 != 0) = true := by simpa using he3
          go_wp2_with (fail)
          go_ret
          exact ⟨rfl, T.out⟩
      · have hz2 : (y2.2 != 0) = true := by simpa using he2
        by_cases he3 : y3.2 = 0
        · have hz3 : (y3.2 != 0) = false := by simp [he3]
          have q3_0 := blk_cell U.out 0
          have q3_1 := blk_cell U.out 1
          have q3_2 := blk_cell U.out 2
          have q3_3 := blk_cell U.out 3
          have q3_4 := blk_cell U.out 4
          go_wp2_with (fail)
          refine (manifest_EncodeRotation.calls 4000 _ _ _ _ _ _ _ _ _ s _ CU0.out hlU0 CU1.out hlU1 (HC3.out he3)).mono ?_
          rintro e_ we3 ⟨rfl, hb⟩
          replace T := Aside0.mk (below_then T.out T.out.size hb)
          replace CP0 := Aside0.mk (Kd.C_below CP0.out hb)
          replace P := Aside0.mk (blk_below P.out hb)
          replace CQ0 := Aside0.mk (Kd.C_below CQ0.out hb)
          replace Q := Aside0.mk (blk_below Q.out hb)
          replace CS0 := Aside0.mk (Kd.C_below CS0.out hb)
          replace CS1 := Aside0.mk (Kd.C_below CS1.out hb)
          replace CS2 := Aside0.mk (Kd.C_below CS2.out hb)
          replace S := Aside0.mk (blk_below S.out hb)
          replace CU0 := Aside0.mk (Kd.C_below CU0.out hb)
          replace CU1 := Aside0.mk (Kd.C_below CU1.out hb)
          replace U := Aside0.mk (blk_below U.out hb)
          clear hb q3_0 q3_1 q3_2 q3_3 q3_4
          go_wp2_with (fail)
          go_ret
          exact ⟨rfl, T.out⟩
        · have hz3 : (y3.2 != 0) = true := by simpa using he3
          go_wp2_with (fail)
          go_ret
          exact ⟨rfl, T.out⟩
    · have hz1 : (y1.2 != 0) = true := by simpa using he1
      by_cases he2 : y2.2 = 0
      · have hz2 : (y2.2 != 0) = false := by simp [he2]
        have q2_0 := blk_cell S.out 0
        have q2_1 := blk_cell S.out 1
        have q2_2 := blk_cell S.out 2
        have q2_3 := blk_cell S.out 3
        have q2_4 := blk_cell S.out 4
        have q2_5 := blk_cell S.out 5
        go_wp2_with (fail)
        refine (manifest_EncodeBundle.calls 4000 _ _ _ _ _ _ _ _ _ _ _ _ s _ CS0.out hlS0 CS1.out hlS1 CS2.out hlS2 (HC2.out he2)).mono ?_
        rintro e_ we2 ⟨rfl, hb⟩
        replace T := Aside0.mk (below_then T.out T.out.size hb)
        replace CP0 := Aside0.mk (Kd.C_below CP0.out hb)
        replace P := Aside0.mk (blk_below P.out hb)
        replace CQ0 := Aside0.mk (Kd.C_below CQ0.out hb)
        replace Q := Aside0.mk (blk_below Q.out hb)
        replace CS0 := Aside0.mk (Kd.C_below CS0.out hb)
        replace CS1 := Aside0.mk (Kd.C_below CS1.out hb)
        replace CS2 := Aside0.mk (Kd.C_below CS2.out hb)
        replace S := Aside0.mk (blk_below S.out hb)
        replace CU0 := Aside0.mk (Kd.C_below CU0.out hb)
        replace CU1 := Aside0.mk (Kd.C_below CU1.out hb)
        replace U := Aside0.mk (blk_below U.out hb)
        clear hb q2_0 q2_1 q2_2 q2_3 q2_4 q2_5
        by_cases he3 : y3.2 = 0
        · have hz3 : (y3.2 != 0) = false := by simp [he3]
          have q3_0 := blk_cell U.out 0
          have q3_1 := blk_cell U.out 1
          have q3_2 := blk_cell U.out 2
          have q3_3 := blk_cell U.out 3
          have q3_4 := blk_cell U.out 4
          go_wp2_with (fail)
          refine (manifest_EncodeRotation.calls 4000 _ _ _ _ _ _ _ _ _ s _ CU0.out hlU0 CU1.out hlU1 (HC3.out he3)).mono ?_
          rintro e_ we3 ⟨rfl, hb⟩
          replace T := Aside0.mk (below_then T.out T.out.size hb)
          replace CP0 := Aside0.mk (Kd.C_below CP0.out hb)
          replace P := Aside0.mk (blk_below P.out hb)
          replace CQ0 := Aside0.mk (Kd.C_below CQ0.out hb)
          replace Q := Aside0.mk (blk_below Q.out hb)
          replace CS0 := Aside0.mk (Kd.C_below CS0.out hb)
          replace CS1 := Aside0.mk (Kd.C_below CS1.out hb)
          replace CS2 := Aside0.mk (Kd.C_below CS2.out hb)
          replace S := Aside0.mk (blk_below S.out hb)
          replace CU0 := Aside0.mk (Kd.C_below CU0.out hb)
          replace CU1 := Aside0.mk (Kd.C_below CU1.out hb)
          replace U := Aside0.mk (blk_below U.out hb)
          clear hb q3_0 q3_1 q3_2 q3_3 q3_4
          go_wp2_with (fail)
          go_ret
          exact ⟨rfl, T.out⟩
        · have hz3 : (y3.2 != 0) = true := by simpa using he3
          go_wp2_with (fail)
          go_ret
          exact ⟨rfl, T.out⟩
      · have hz2 : (y2.2 != 0) = true := by simpa using he2
        by_cases he3 : y3.2 = 0
        · have hz3 : (y3.2 != 0) = false := by simp [he3]
          have q3_0 := blk_cell U.out 0
          have q3_1 := blk_cell U.out 1
          have q3_2 := blk_cell U.out 2
          have q3_3 := blk_cell U.out 3
          have q3_4 := blk_cell U.out 4
          go_wp2_with (fail)
          refine (manifest_EncodeRotation.calls 4000 _ _ _ _ _ _ _ _ _ s _ CU0.out hlU0 CU1.out hlU1 (HC3.out he3)).mono ?_
          rintro e_ we3 ⟨rfl, hb⟩
          replace T := Aside0.mk (below_then T.out T.out.size hb)
          replace CP0 := Aside0.mk (Kd.C_below CP0.out hb)
          replace P := Aside0.mk (blk_below P.out hb)
          replace CQ0 := Aside0.mk (Kd.C_below CQ0.out hb)
          replace Q := Aside0.mk (blk_below Q.out hb)
          replace CS0 := Aside0.mk (Kd.C_below CS0.out hb)
          replace CS1 := Aside0.mk (Kd.C_below CS1.out hb)
          replace CS2 := Aside0.mk (Kd.C_below CS2.out hb)
          replace S := Aside0.mk (blk_below S.out hb)
          replace CU0 := Aside0.mk (Kd.C_below CU0.out hb)
          replace CU1 := Aside0.mk (Kd.C_below CU1.out hb)
          replace U := Aside0.mk (blk_below U.out hb)
          clear hb q3_0 q3_1 q3_2 q3_3 q3_4
          go_wp2_with (fail)
          go_ret
          exact ⟨rfl, T.out⟩
        · have hz3 : (y3.2 != 0) = true := by simpa using he3
          go_wp2_with (fail)
          go_ret
          exact ⟨rfl, T.out⟩
  · have hz0 : (y0.2 != 0) = true := by simpa using he0
    by_cases he1 : y1.2 = 0
    · have hz1 : (y1.2 != 0) = false := by simp [he1]
      have q1_0 := blk_cell Q.out 0
      have q1_1 := blk_cell Q.out 1
      have q1_2 := blk_cell Q.out 2
      have q1_3 := blk_cell Q.out 3
      go_wp2_with (fail)
      refine (manifest_EncodeKeyset.calls 4000 _ _ _ _ _ _ s _ CQ0.out hlQ0 (HC1.out he1)).mono ?_
      rintro e_ we1 ⟨rfl, hb⟩
      replace T := Aside0.mk (below_then T.out T.out.size hb)
      replace CP0 := Aside0.mk (Kd.C_below CP0.out hb)
      replace P := Aside0.mk (blk_below P.out hb)
      replace CQ0 := Aside0.mk (Kd.C_below CQ0.out hb)
      replace Q := Aside0.mk (blk_below Q.out hb)
      replace CS0 := Aside0.mk (Kd.C_below CS0.out hb)
      replace CS1 := Aside0.mk (Kd.C_below CS1.out hb)
      replace CS2 := Aside0.mk (Kd.C_below CS2.out hb)
      replace S := Aside0.mk (blk_below S.out hb)
      replace CU0 := Aside0.mk (Kd.C_below CU0.out hb)
      replace CU1 := Aside0.mk (Kd.C_below CU1.out hb)
      replace U := Aside0.mk (blk_below U.out hb)
      clear hb q1_0 q1_1 q1_2 q1_3
      by_cases he2 : y2.2 = 0
      · have hz2 : (y2.2 != 0) = false := by simp [he2]
        have q2_0 := blk_cell S.out 0
        have q2_1 := blk_cell S.out 1
        have q2_2 := blk_cell S.out 2
        have q2_3 := blk_cell S.out 3
        have q2_4 := blk_cell S.out 4
        have q2_5 := blk_cell S.out 5
        go_wp2_with (fail)
        refine (manifest_EncodeBundle.calls 4000 _ _ _ _ _ _ _ _ _ _ _ _ s _ CS0.out hlS0 CS1.out hlS1 CS2.out hlS2 (HC2.out he2)).mono ?_
        rintro e_ we2 ⟨rfl, hb⟩
        replace T := Aside0.mk (below_then T.out T.out.size hb)
        replace CP0 := Aside0.mk (Kd.C_below CP0.out hb)
        replace P := Aside0.mk (blk_below P.out hb)
        replace CQ0 := Aside0.mk (Kd.C_below CQ0.out hb)
        replace Q := Aside0.mk (blk_below Q.out hb)
        replace CS0 := Aside0.mk (Kd.C_below CS0.out hb)
        replace CS1 := Aside0.mk (Kd.C_below CS1.out hb)
        replace CS2 := Aside0.mk (Kd.C_below CS2.out hb)
        replace S := Aside0.mk (blk_below S.out hb)
        replace CU0 := Aside0.mk (Kd.C_below CU0.out hb)
        replace CU1 := Aside0.mk (Kd.C_below CU1.out hb)
        replace U := Aside0.mk (blk_below U.out hb)
        clear hb q2_0 q2_1 q2_2 q2_3 q2_4 q2_5
        by_cases he3 : y3.2 = 0
        · have hz3 : (y3.2 != 0) = false := by simp [he3]
          have q3_0 := blk_cell U.out 0
          have q3_1 := blk_cell U.out 1
          have q3_2 := blk_cell U.out 2
          have q3_3 := blk_cell U.out 3
          have q3_4 := blk_cell U.out 4
          go_wp2_with (fail)
          refine (manifest_EncodeRotation.calls 4000 _ _ _ _ _ _ _ _ _ s _ CU0.out hlU0 CU1.out hlU1 (HC3.out he3)).mono ?_
          rintro e_ we3 ⟨rfl, hb⟩
          replace T := Aside0.mk (below_then T.out T.out.size hb)
          replace CP0 := Aside0.mk (Kd.C_below CP0.out hb)
          replace P := Aside0.mk (blk_below P.out hb)
          replace CQ0 := Aside0.mk (Kd.C_below CQ0.out hb)
          replace Q := Aside0.mk (blk_below Q.out hb)
          replace CS0 := Aside0.mk (Kd.C_below CS0.out hb)
          replace CS1 := Aside0.mk (Kd.C_below CS1.out hb)
          replace CS2 := Aside0.mk (Kd.C_below CS2.out hb)
          replace S := Aside0.mk (blk_below S.out hb)
          replace CU0 := Aside0.mk (Kd.C_below CU0.out hb)
          replace CU1 := Aside0.mk (Kd.C_below CU1.out hb)
          replace U := Aside0.mk (blk_below U.out hb)
          clear hb q3_0 q3_1 q3_2 q3_3 q3_4
          go_wp2_with (fail)
          go_ret
          exact ⟨rfl, T.out⟩
        · have hz3 : (y3.2 != 0) = true := by simpa using he3
          go_wp2_with (fail)
          go_ret
          exact ⟨rfl, T.out⟩
      · have hz2 : (y2.2 != 0) = true := by simpa using he2
        by_cases he3 : y3.2 = 0
        · have hz3 : (y3.2 != 0) = false := by simp [he3]
          have q3_0 := blk_cell U.out 0
          have q3_1 := blk_cell U.out 1
          have q3_2 := blk_cell U.out 2
          have q3_3 := blk_cell U.out 3
          have q3_4 := blk_cell U.out 4
          go_wp2_with (fail)
          refine (manifest_EncodeRotation.calls 4000 _ _ _ _ _ _ _ _ _ s _ CU0.out hlU0 CU1.out hlU1 (HC3.out he3)).mono ?_
          rintro e_ we3 ⟨rfl, hb⟩
          replace T := Aside0.mk (below_then T.out T.out.size hb)
          replace CP0 := Aside0.mk (Kd.C_below CP0.out hb)
          replace P := Aside0.mk (blk_below P.out hb)
          replace CQ0 := Aside0.mk (Kd.C_below CQ0.out hb)
          replace Q := Aside0.mk (blk_below Q.out hb)
          replace CS0 := Aside0.mk (Kd.C_below CS0.out hb)
          replace CS1 := Aside0.mk (Kd.C_below CS1.out hb)
          replace CS2 := Aside0.mk (Kd.C_below CS2.out hb)
          replace S := Aside0.mk (blk_below S.out hb)
          replace CU0 := Aside0.mk (Kd.C_below CU0.out hb)
          replace CU1 := Aside0.mk (Kd.C_below CU1.out hb)
          replace U := Aside0.mk (blk_below U.out hb)
          clear hb q3_0 q3_1 q3_2 q3_3 q3_4
          go_wp2_with (fail)
          go_ret
          exact ⟨rfl, T.out⟩
        · have hz3 : (y3.2 != 0) = true := by simpa using he3
          go_wp2_with (fail)
          go_ret
          exact ⟨rfl, T.out⟩
    · have hz1 : (y1.2 != 0) = true := by simpa using he1
      by_cases he2 : y2.2 = 0
      · have hz2 : (y2.2 != 0) = false := by simp [he2]
        have q2_0 := blk_cell S.out 0
        have q2_1 := blk_cell S.out 1
        have q2_2 := blk_cell S.out 2
        have q2_3 := blk_cell S.out 3
        have q2_4 := blk_cell S.out 4
        have q2_5 := blk_cell S.out 5
        go_wp2_with (fail)
        refine (manifest_EncodeBundle.calls 4000 _ _ _ _ _ _ _ _ _ _ _ _ s _ CS0.out hlS0 CS1.out hlS1 CS2.out hlS2 (HC2.out he2)).mono ?_
        rintro e_ we2 ⟨rfl, hb⟩
        replace T := Aside0.mk (below_then T.out T.out.size hb)
        replace CP0 := Aside0.mk (Kd.C_below CP0.out hb)
        replace P := Aside0.mk (blk_below P.out hb)
        replace CQ0 := Aside0.mk (Kd.C_below CQ0.out hb)
        replace Q := Aside0.mk (blk_below Q.out hb)
        replace CS0 := Aside0.mk (Kd.C_below CS0.out hb)
        replace CS1 := Aside0.mk (Kd.C_below CS1.out hb)
        replace CS2 := Aside0.mk (Kd.C_below CS2.out hb)
        replace S := Aside0.mk (blk_below S.out hb)
        replace CU0 := Aside0.mk (Kd.C_below CU0.out hb)
        replace CU1 := Aside0.mk (Kd.C_below CU1.out hb)
        replace U := Aside0.mk (blk_below U.out hb)
        clear hb q2_0 q2_1 q2_2 q2_3 q2_4 q2_5
        by_cases he3 : y3.2 = 0
        · have hz3 : (y3.2 != 0) = false := by simp [he3]
          have q3_0 := blk_cell U.out 0
          have q3_1 := blk_cell U.out 1
          have q3_2 := blk_cell U.out 2
          have q3_3 := blk_cell U.out 3
          have q3_4 := blk_cell U.out 4
          go_wp2_with (fail)
          refine (manifest_EncodeRotation.calls 4000 _ _ _ _ _ _ _ _ _ s _ CU0.out hlU0 CU1.out hlU1 (HC3.out he3)).mono ?_
          rintro e_ we3 ⟨rfl, hb⟩
          replace T := Aside0.mk (below_then T.out T.out.size hb)
          replace CP0 := Aside0.mk (Kd.C_below CP0.out hb)
          replace P := Aside0.mk (blk_below P.out hb)
          replace CQ0 := Aside0.mk (Kd.C_below CQ0.out hb)
          replace Q := Aside0.mk (blk_below Q.out hb)
          replace CS0 := Aside0.mk (Kd.C_below CS0.out hb)
          replace CS1 := Aside0.mk (Kd.C_below CS1.out hb)
          replace CS2 := Aside0.mk (Kd.C_below CS2.out hb)
          replace S := Aside0.mk (blk_below S.out hb)
          replace CU0 := Aside0.mk (Kd.C_below CU0.out hb)
          replace CU1 := Aside0.mk (Kd.C_below CU1.out hb)
          replace U := Aside0.mk (blk_below U.out hb)
          clear hb q3_0 q3_1 q3_2 q3_3 q3_4
          go_wp2_with (fail)
          go_ret
          exact ⟨rfl, T.out⟩
        · have hz3 : (y3.2 != 0) = true := by simpa using he3
          go_wp2_with (fail)
          go_ret
          exact ⟨rfl, T.out⟩
      · have hz2 : (y2.2 != 0) = true := by simpa using he2
        by_cases he3 : y3.2 = 0
        · have hz3 : (y3.2 != 0) = false := by simp [he3]
          have q3_0 := blk_cell U.out 0
          have q3_1 := blk_cell U.out 1
          have q3_2 := blk_cell U.out 2
          have q3_3 := blk_cell U.out 3
          have q3_4 := blk_cell U.out 4
          go_wp2_with (fail)
          refine (manifest_EncodeRotation.calls 4000 _ _ _ _ _ _ _ _ _ s _ CU0.out hlU0 CU1.out hlU1 (HC3.out he3)).mono ?_
          rintro e_ we3 ⟨rfl, hb⟩
          replace T := Aside0.mk (below_then T.out T.out.size hb)
          replace CP0 := Aside0.mk (Kd.C_below CP0.out hb)
          replace P := Aside0.mk (blk_below P.out hb)
          replace CQ0 := Aside0.mk (Kd.C_below CQ0.out hb)
          replace Q := Aside0.mk (blk_below Q.out hb)
          replace CS0 := Aside0.mk (Kd.C_below CS0.out hb)
          replace CS1 := Aside0.mk (Kd.C_below CS1.out hb)
          replace CS2 := Aside0.mk (Kd.C_below CS2.out hb)
          replace S := Aside0.mk (blk_below S.out hb)
          replace CU0 := Aside0.mk (Kd.C_below CU0.out hb)
          replace CU1 := Aside0.mk (Kd.C_below CU1.out hb)
          replace U := Aside0.mk (blk_below U.out hb)
          clear hb q3_0 q3_1 q3_2 q3_3 q3_4
          go_wp2_with (fail)
          go_ret
          exact ⟨rfl, T.out⟩
        · have hz3 : (y3.2 != 0) = true := by simpa using he3
          go_wp2_with (fail)
          go_ret
          exact ⟨rfl, T.out⟩
end Go.Proofs.YtfdgihdmhdhpcaaDoor.P
