import Derived.Test.YtfdgihdmhdhpcaaDoorProg
import Derived.Below
import Derived.Deep.Draws
import Derived.Deep.AppendLies
import Derived.Maps.AppendAt
import Derived.OwnWalk
import Derived.Laws.BytesArg
import Derived.Laws.MakeOwn
import Derived.Laws.OwnMore
import Derived.Deep.OwnRows
import Derived.Tactics
import Derived.Lib.ConvBytes
import Derived.Laws.Slices
import Derived.WalkKit
import Derived.KernelRfl
import Derived.RowKit3
import Derived.Deep.LoopGhost
import Derived.Deep.QuietTactic
import Derived.BigQuiet
import Derived.WideLaws
import Derived.Deep.DeepCutAuto
import Derived.Deep.CutBlock
import Derived.Deep.RegionHeld3
import Derived.Laws.Rows
import Derived.Lib.AppendStr
import Derived.ArgAppend
import Derived.Laws.IdiomCopy
import Derived.OrdersHeld
import Derived.Laws.BitsLemmas
import Derived.RowKit
import Derived.Test.YtfdgihdmhdhpcaaDoorWWords
import Derived.Test.YtfdgihdmhdhpcaaDoorWLast
import Derived.Test.YtfdgihdmhdhpcaaDoorWTab
import Derived.Test.YtfdgihdmhdhpcaaDoorWFour
import Derived.Test.YtfdgihdmhdhpcaaDoorWQPut
import Derived.Test.YtfdgihdmhdhpcaaDoorWApart
import Derived.Test.YtfdgihdmhdhpcaaDoorWArr
import Derived.Test.YtfdgihdmhdhpcaaDoorWZeros
import Derived.Test.YtfdgihdmhdhpcaaDoorWFoot
import Derived.Test.YtfdgihdmhdhpcaaDoorWKept
import Derived.Test.YtfdgihdmhdhpcaaDoorWShare
import Derived.Test.YtfdgihdmhdhpcaaDoorWN
import Derived.Test.YtfdgihdmhdhpcaaDoorWFootNe
import Derived.Test.YtfdgihdmhdhpcaaDoorWAt
import Derived.Test.YtfdgihdmhdhpcaaDoorWEqStruct
import Derived.Test.YtfdgihdmhdhpcaaDoorWRepsOne
import Derived.Test.YtfdgihdmhdhpcaaDoorWInv
import Derived.Test.YtfdgihdmhdhpcaaDoorWInvWords
import Derived.Test.YtfdgihdmhdhpcaaDoorWGuard
import Derived.Test.YtfdgihdmhdhpcaaDoorWNEv
import Derived.Test.YtfdgihdmhdhpcaaDoorWMore
import Derived.Lib.Hide
import Derived.Outline
import Derived.Recover
import Derived.WalkLawsBesides
import Derived.Laws.Panics
import Derived.Laws.Pointers
import Derived.Tactics2
import Derived.Deep.RegionWith
import Derived.WalkSpells
import Derived.WalkMore
import Derived.Laws.Cover3
import Derived.Deep.MidRow
import Derived.Deep.Upon
import Derived.ChangeKeysEq
import Derived.Test.YtfdgihdmhdhpcaaDoorMA
import Derived.Test.YtfdgihdmhdhpcaaDoorMB
namespace Go.Proofs.YtfdgihdmhdhpcaaDoor.P
open Go.RowKit Go.Proofs.YtfdgihdmhdhpcaaDoorW.PrintWords Go.Proofs.YtfdgihdmhdhpcaaDoorW.PrintLast Go.Proofs.YtfdgihdmhdhpcaaDoorW.PrintMore
attribute [local go_sem] max2_int min2_int max_two min_two max_three min_three max_four min_four
set_option linter.unusedVariables false
set_option linter.unusedSimpArgs false
/-- What decode hands back: the value, or the zero value and the error. -/
def endP {α : Type} (z x : α) (l : List Int) (e : Int) : α × Int := if e = 0 then (if 0 < l.length then (z, 7) else (x, 0)) else (z, e)
theorem dec_new {W : World} (s : ByteArray) (hs : s.size < 140737488355328) {b : Nat} (hb : W.heap.size = b) :
    Dec ((Lib.bytesWorld W 5 s).alloc (.cells #[.slice (some ⟨b, 0, none⟩) s.size (grownCap W s.size 0 5), .int .i64 0] 121)) (Lib.bytesWorld W 5 s).heap.size (bytesOf s) 0 := by
  subst hb
  refine ⟨some ⟨W.heap.size, 0, none⟩, grownCap W s.size 0 5, ?_, by rw [bytesOf_length]; exact grownCap_ge _ _ _ _, by rw [bytesOf_length]; exact hs, fun W' hk => ?_⟩
  · rw [bytesOf_length]
    exact blk_new _ _
  · rw [bytesOf_length]
    exact Kd.C_below (convC W s hs) ((below_alloc (Below.refl _ _) _).trans hk)
def dec56.T7 : Bool × List (List Nat × List Nat) := (true, [([], []), ([], []), ([1], [1]), ([2], [2]), ([3], [3]), ([0, 0], [0]), ([4, 5, 0, 1, 2, 3, 4, 5], [4])])
def dec56.B7 : List Nat := [0, 0, 2, 6, 14, 1, 63]
theorem dec56.tab7 : rtab .any (opsOf Tryd.f56 7) = dec56.T7 := by kernel_rfl
theorem dec56.bits7 : waitsOk dec56.T7.2 dec56.B7 = true := by kernel_rfl
set_option maxRecDepth 100000 in
set_option maxHeartbeats 1000000 in
theorem decode_man_calls (k : Nat) (s : ByteArray) (x : S24) (l : List Int) (e : Int) (w : World) (hs : s.size < 140737488355328) (h : manP k (bytesOf s) 0 = some (x, l, e)) :
    Calls Tryd.prog 56 #[.string s, .func (.func 57) #[] #[]] w fun o w' => ∃ v3 : Value, o = .returned (.tuple #[.agg #[.int .i64 (endP z24 x l e).1.f0, .int .i64 (endP z24 x l e).1.f1, .int .i64 (endP z24 x l e).1.f2, v3], .int .i64 (endP z24 x l e).2]) ∧ Kd.R k38 38 w' w.heap.size (fun k => True) v3 (endP z24 x l e).1.f3 ∧ Below w.heap.size w w' := by
  have H := Aside0.mk h
  have HDN := Aside0.mk (dec_new (W := w.alloc (.cells #[.int .i64 0, .int .i64 0, .int .i64 0, .slice none 0 0] 24 : Obj)) s hs (World.size_alloc _ _))
  have kb := fun W => print_bytes (P := Tryd.prog) 9 74 5 Tryd.underlying9 Tryd.underlying74 Tryd.underlying5 s W
  have hbw : Below w.heap.size w (Lib.bytesWorld (w.alloc (.cells #[.int .i64 0, .int .i64 0, .int .i64 0, .slice none 0 0] 24 : Obj)) 5 s) := bytes_below (below_alloc (Below.refl _ w) _) (by rw [World.size_alloc]; omega) 5 s
  have HBB := Aside0.mk (show Below w.heap.size w ((Lib.bytesWorld (w.alloc (.cells #[.int .i64 0, .int .i64 0, .int .i64 0, .slice none 0 0] 24 : Obj)) 5 s).alloc (.cells #[.slice (some ⟨w.heap.size + 1, 0, none⟩) s.size (grownCap (w.alloc (.cells #[.int .i64 0, .int .i64 0, .int .i64 0, .slice none 0 0] 24 : Obj)) s.size 0 5), .int .i64 0] 121)) from below_then hbw hbw.size (below_alloc (Below.refl _ _) _))
  have HB0 := Aside0.mk (show (Lib.bytesWorld (w.alloc (.cells #[.int .i64 0, .int .i64 0, .int .i64 0, .slice none 0 0] 24 : Obj)) 5 s).heap[w.heap.size]? = some (.cells #[.int .i64 0, .int .i64 0, .int .i64 0, .slice none 0 0] 24 : Obj) from blk_below (blk_new w _) (bytes_below (Below.refl _ _) (Nat.le_refl _) 5 s))
  clear h hbw
  go_enter Tryd.func56, Tryd.ntmps56
  go_wp2_with (fail)
  clear kb
  have B0 := blk_alloc HB0.out (.cells #[.slice (some ⟨w.heap.size + 1, 0, none⟩) s.size (grownCap (w.alloc (.cells #[.int .i64 0, .int .i64 0, .int .i64 0, .slice none 0 0] 24 : Obj)) s.size 0 5), .int .i64 0] 121)
  have HGL := Aside0.mk (blk_lt HB0.out)
  generalize hgg : (Lib.bytesWorld (w.alloc (.cells #[.int .i64 0, .int .i64 0, .int .i64 0, .slice none 0 0] 24 : Obj)) 5 s).heap.size = g at HDN HGL ⊢
  clear HB0 hgg
  generalize World.alloc _ _ = w0 at HDN HBB B0 ⊢
  refine (man_calls k g (bytesOf s) l 0 e x w0 HDN.out H.out).mono ?_
  rintro e_ w1 ⟨v3, rfl, hR3, hd, ht⟩
  have hglt := HDN.out.lt
  have HG := Aside0.mk HGL.out
  have hsz0 := ht.size
  have hsz1 := HBB.out.size
  obtain ⟨AL, cL, hG, -, -, -⟩ := hd
  have hal := below_alloc (Below.refl _ w1) (.cells #[.int .i64 x.f0, .int .i64 x.f1, .int .i64 x.f2, v3] 24)
  have hdt : DecTo w1 (w1.alloc (.cells #[.int .i64 x.f0, .int .i64 x.f1, .int .i64 x.f2, v3] 24)) g := DecTo.of_below hal (by omega)
  have T := Aside0.mk (HBB.out.trans ((ht.trans hdt).1.mono (Nat.le_of_lt HG.out)))
  have B := Aside0.mk (blk_below (ht.blk B0 (by have := HG.out; omega)) hal)
  have G := Aside0.mk (blk_below hG hal)
  have C := Aside0.mk (blk_new w1 (.cells #[.int .i64 x.f0, .int .i64 x.f1, .int .i64 x.f2, v3] 24))
  have HB7 := Aside0.mk (show w.heap.size < w1.heap.size from blk_lt (ht.blk B0 (by have := HG.out; omega)))
  have R3 := Aside0.mk (R_out (R_dec hR3 (by have := HG.out; omega) hdt) (by have := HG.out; omega : w.heap.size + 1 ≤ w0.heap.size))
  obtain ⟨A3, c3, rfl⟩ := Kd.R_slice hR3
  clear hR3 hal hdt hG ht HDN HBB B0 HGL hsz0 hsz1 hglt H
  go_upto_region 3 with (fail)
  generalize hb7 : w1.heap.size = b7 at C HB7 ⊢
  generalize World.alloc w1 _ = w2 at T G B C R3 ⊢
  clear hb7
  have z0 := blk_cell G.out 0
  have z1 := blk_cell G.out 1
  have zf := blk_frozen G.out
  by_cases he : e = 0
  · subst he
    by_cases hl : 0 < l.length
    · have HEND := Aside0.mk (show endP z24 x l 0 = (z24, 7) from by rw [endP, if_pos rfl, if_pos hl])
      replace G := Aside0.mk (blk_put G.out 1 (.int .i64 7) rfl)
      replace T := Aside0.mk (below_set (j := 1) (v := .int .i64 7) T.out (Nat.le_of_lt HG.out))
      replace B := Aside0.mk (blk_far B.out (p := ⟨g, 1, none⟩) (by have := HG.out; show w.heap.size ≠ g; omega) (.int .i64 7))
      go_upto_region 7 with (fail)
      have hs8 : (w2.setCell ⟨g, 1, none⟩ (.int .i64 7)).heap.size = w2.heap.size := by simp [World.setCell]
      clear C R3 z0 z1 zf
      generalize World.setCell w2 _ _ = wa at T G B hs8 ⊢
      have HB8 := Aside0.mk (show w.heap.size < w2.heap.size by rw [← hs8]; exact blk_lt B.out)
      have hal := below_alloc (Below.refl _ wa) (.cells #[.int .i64 0, .int .i64 0, .int .i64 0, .slice none 0 0] 24 : Obj)
      have Z0 := blk_new wa (.cells #[.int .i64 0, .int .i64 0, .int .i64 0, .slice none 0 0] 24 : Obj)
      rw [hs8] at Z0
      have Z := Aside0.mk Z0
      replace T := Aside0.mk (below_then T.out T.out.size hal)
      replace G := Aside0.mk (blk_below G.out hal)
      replace B := Aside0.mk (blk_below B.out hal)
      clear hal Z0 hs8
      generalize hb8 : w2.heap.size = b8 at HB8 Z ⊢
      generalize World.alloc wa _ = wz at T G Z B ⊢
      clear hb8
      replace T := Aside0.mk (below_drew T.out)
      replace G := Aside0.mk (blk_below G.out (below_drew (Below.refl _ wz)))
      replace Z := Aside0.mk (blk_below Z.out (below_drew (Below.refl _ wz)))
      replace B := Aside0.mk (blk_below B.out (below_drew (Below.refl _ wz)))
      refine start_ (n := 7) (S := fun w' => True) (ds := []) #[false, false, false, false, false, false, false] (by kernel_rfl) rfl rfl trivial (fun hHeld => ?_)
      refine with_tabW dec56.tab7 dec56.bits7 (fun HT_ HW_ => ?_)
      generalize hwd : wz.drew = wy at T G Z B ⊢
      clear hwd
      refine pure_ (i := 1) (N := some 38) (v := ?_) (a' := ?_) #[false, true, false, false, false, false, false] rfl rfl (any_of HT_.out (by kernel_rfl)) (fun _ _ _ h => h) (Or.inl ⟨by rfl, ?_⟩) ?_ ?_
      rotate_left
      · intro w'
        go_simp
        with_reducible rfl
      rotate_left
      · simp only [Act.put, List.setIfInBounds_toArray, List.set_cons_zero, List.set_cons_succ, i64_w, i32_w]
        rfl
      refine pure_ (i := 2) (N := some 39) (v := ?_) (a' := ?_) #[false, true, true, false, false, false, false] rfl rfl (any_of HT_.out (by kernel_rfl)) (fun _ _ _ h => h) (Or.inl ⟨by rfl, ?_⟩) ?_ ?_
      rotate_left
      · intro w'
        go_simp
        with_reducible rfl
      rotate_left
      · simp only [Act.put, List.setIfInBounds_toArray, List.set_cons_zero, List.set_cons_succ, i64_w, i32_w]
        rfl
      refine pure_ (i := 3) (N := some 40) (v := ?_) (a' := ?_) #[false, true, true, true, false, false, false] rfl rfl (any_of HT_.out (by kernel_rfl)) (fun _ _ _ h => h) (Or.inl ⟨by rfl, ?_⟩) ?_ ?_
      rotate_left
      · intro w'
        go_simp
        with_reducible rfl
      rotate_left
      · simp only [Act.put, List.setIfInBounds_toArray, List.set_cons_zero, List.set_cons_succ, i64_w, i32_w]
        rfl
      refine inv_at [0, 4, 5, 6] (fun a0_ b a w' => a = putSel a0_ b [(0, 37, .agg #[.int .i64 0, .int .i64 0, .int .i64 0, .slice none 0 0]), (4, 41, .int .i64 7), (6, 5, .int .i64 7)] ∧ (Below w.heap.size w w') ∧ (w'.heap[g]? = some (.cells #[.slice AL l.length cL, .int .i64 7] 121 (0, 0))) ∧ (w'.heap[b8]? = some (.cells #[.int .i64 0, .int .i64 0, .int .i64 0, .slice none 0 0] 24 : Obj)) ∧ (b 5 = false → w'.heap[w.heap.size]? = some (.cells #[.int .i64 0, .int .i64 0, .int .i64 0, .slice none 0 0] 24 : Obj)) ∧ (b 5 = true → w'.heap[w.heap.size]? = some (.cells #[.int .i64 0, .int .i64 0, .int .i64 0, .slice none 0 0] 24 : Obj))) HT_.out HW_.out (by kernel_rfl) (by kernel_rfl) ?_ ?_ ?_
      · exact ⟨by simp only [putSel, Bool.false_eq_true, if_false], T.out, G.out, Z.out, fun _ => B.out, fun h_ => absurd h_ (by decide)⟩
      · skip
        clear B G T Z
        refine steps_cons ?_ ?_
        · rintro b a w' ⟨ha, Q_T, Q_G, Q_Z, Q_B, Q_F⟩ hb_ hon hoff
          refine ⟨_, rfl, fun K hK => ?_⟩
          have e8 : a.tmps[8]? = some (.pointer (some ⟨b8, 0, none⟩)) := by rw [ha]; exact (putSel_off rfl).trans rfl
          replace ha := Aside0.mk ha
          have T := Aside0.mk Q_T
          have G := Aside0.mk Q_G
          have Z := Aside0.mk Q_Z
          have B := Aside0.mk (Q_B (hoff 5 (by kernel_rfl)))
          have y0 := blk_cell Z.out 0
          have y1 := blk_cell Z.out 1
          have y2 := blk_cell Z.out 2
          have y3 := blk_cell Z.out 3
          refine value_ (w1 := w') (v := .agg #[.int .i64 0, .int .i64 0, .int .i64 0, .slice none 0 0]) (by rfl) rfl ?_ ?_
          · go_simp
            (try simp only [i64_w, IntKind.wrap_u32])
            try first | rfl | omega
          refine hK.out _ _ ⟨(by rw [ha.out]; exact putSel_upk 0 hb_ rfl rfl rfl), Q_T, Q_G, Q_Z, Q_B, fun h0_ => absurd ((hoff 5 (by kernel_rfl)).symm.trans h0_) (by decide)⟩
        refine steps_cons ?_ ?_
        · rintro b a w' ⟨ha, Q_T, Q_G, Q_Z, Q_B, Q_F⟩ hb_ hon hoff
          refine ⟨_, rfl, fun K hK => ?_⟩
          have e40 : a.tmps[40]? = some (.pointer (some ⟨g, 1, none⟩)) := by rw [ha]; exact (putSel_off rfl).trans rfl
          replace ha := Aside0.mk ha
          have T := Aside0.mk Q_T
          have G := Aside0.mk Q_G
          have Z := Aside0.mk Q_Z
          have z1 := blk_cell G.out 1
          refine value_ (w1 := w') (v := .int .i64 7) (by rfl) rfl ?_ ?_
          · go_simp
            (try simp only [i64_w, IntKind.wrap_u32])
            try first | rfl | omega
          refine hK.out _ _ ⟨(by rw [ha.out]; exact putSel_upk 1 hb_ rfl rfl rfl), Q_T, Q_G, Q_Z, Q_B, Q_F⟩
        refine steps_cons ?_ ?_
        · rintro b a w' ⟨ha, Q_T, Q_G, Q_Z, Q_B, Q_F⟩ hb_ hon hoff
          refine ⟨_, rfl, fun K hK => ?_⟩
          have e4 : a.tmps[4]? = some (.pointer (some ⟨w.heap.size, 0, none⟩)) := by rw [ha]; exact (putSel_off rfl).trans rfl
          have e37 : a.tmps[37]? = some (.agg #[.int .i64 0, .int .i64 0, .int .i64 0, .slice none 0 0]) := by rw [ha]; exact putSel_on (e := (0, 37, .agg #[.int .i64 0, .int .i64 0, .int .i64 0, .slice none 0 0])) 0 rfl rfl (hon 0 (by kernel_rfl)) rfl
          replace ha := Aside0.mk ha
          have T := Aside0.mk Q_T
          have G := Aside0.mk Q_G
          have Z := Aside0.mk Q_Z
          have B := Aside0.mk (Q_B hb_)
          have z0 := blk_cell B.out 0
          have z1 := blk_cell B.out 1
          have z2 := blk_cell B.out 2
          have z3 := blk_cell B.out 3
          have zf := blk_frozen B.out
          refine skip_ (w1 := ?_) (by rfl) rfl ?_ ?_
          rotate_left
          · go_simp
            rfl
          refine hK.out _ _ ⟨(by rw [ha.out]; exact putSel_none (v := undef) rfl), below_set (below_set (below_set (below_set (T.out) (Nat.le_refl _)) (Nat.le_refl _)) (Nat.le_refl _)) (Nat.le_refl _), blk_far (blk_far (blk_far (blk_far (G.out) (by have := HG.out; show g ≠ w.heap.size; omega) _) (by have := HG.out; show g ≠ w.heap.size; omega) _) (by have := HG.out; show g ≠ w.heap.size; omega) _) (by have := HG.out; show g ≠ w.heap.size; omega) _, blk_far (blk_far (blk_far (blk_far (Z.out) (by have := HB8.out; show b8 ≠ w.heap.size; omega) _) (by have := HB8.out; show b8 ≠ w.heap.size; omega) _) (by have := HB8.out; show b8 ≠ w.heap.size; omega) _) (by have := HB8.out; show b8 ≠ w.heap.size; omega) _, fun h0_ => absurd ((up_self b 5).symm.trans h0_) (by decide), fun _ => blk_put (blk_put (blk_put (blk_put (B.out) 0 _ rfl) 1 _ rfl) 2 _ rfl) 3 _ rfl⟩
        refine steps_cons ?_ ?_
        · rintro b a w' ⟨ha, Q_T, Q_G, Q_Z, Q_B, Q_F⟩ hb_ hon hoff
          refine ⟨_, rfl, fun K hK => ?_⟩
          have e41 : a.tmps[41]? = some (.int .i64 7) := by rw [ha]; exact putSel_on (e := (4, 41, .int .i64 7)) 1 rfl rfl (hon 4 (by kernel_rfl)) rfl
          replace ha := Aside0.mk ha
          have T := Aside0.mk Q_T
          have G := Aside0.mk Q_G
          have Z := Aside0.mk Q_Z
          have F := Aside0.mk (Q_F (hon 5 (by kernel_rfl)))
          refine value_ (w1 := w') (v := .int .i64 7) (by rfl) rfl ?_ ?_
          · go_simp
            (try simp only [i64_w, IntKind.wrap_u32])
            try first | rfl | omega
          refine hK.out _ _ ⟨(by rw [ha.out]; exact putSel_upk 2 hb_ rfl rfl rfl), Q_T, Q_G, Q_Z, fun h0_ => absurd ((hon 5 (by kernel_rfl)).symm.trans h0_) (by decide), Q_F⟩
        exact steps_nil
      rintro b a w9 hall ⟨ha, Q_T, Q_G, Q_Z, Q_B, Q_F⟩
      clear B G T Z
      have hb0_ := hall 0 (by kernel_rfl)
      have hb4_ := hall 4 (by kernel_rfl)
      have hb5_ := hall 5 (by kernel_rfl)
      have hb6_ := hall 6 (by kernel_rfl)
      subst ha
      simp only [putSel, hb0_, hb4_, hb5_, hb6_, if_true, Act.put, List.setIfInBounds_toArray, List.set_cons_zero, List.set_cons_succ]
      have T := Aside0.mk Q_T
      clear Q_T
      have G := Aside0.mk Q_G
      clear Q_G
      have Z := Aside0.mk Q_Z
      clear Q_Z
      clear Q_B
      have F := Aside0.mk (Q_F hb5_)
      clear Q_F
      clear hall hb0_ hb4_ hb5_ hb6_
      go_wp2_with (fail)
      refine bodyPost_ret (results_ct rfl _ _ w.heap.size 24 _ (0, 0) _ rfl F.out Tryd.underlying24 rfl (by kernel_rfl)) rfl ?_
      rw [HEND.out]
      exact ⟨_, rfl, Kd.R_nil _ _ _ _ _, T.out⟩
    · have hl0 : l = [] := List.eq_nil_of_length_eq_zero (by omega)
      subst hl0
      have HEND := Aside0.mk (show endP z24 x [] 0 = (x, 0) from rfl)
      have y0 := blk_cell C.out 0
      have x0 := blk_cell B.out 0
      have y1 := blk_cell C.out 1
      have x1 := blk_cell B.out 1
      have y2 := blk_cell C.out 2
      have x2 := blk_cell B.out 2
      have y3 := blk_cell C.out 3
      have x3 := blk_cell B.out 3
      have xf := blk_frozen B.out
      go_wp2_with (fail)
      refine bodyPost_ret (results_ct rfl _ _ w.heap.size 24 _ (0, 0) _ rfl (blk_put (blk_put (blk_put (blk_put (B.out) 0 _ rfl) 1 _ rfl) 2 _ rfl) 3 _ rfl) Tryd.underlying24 rfl (by kernel_rfl)) rfl ?_
      rw [HEND.out]
      exact ⟨_, rfl, R_out (R_far (R_far (R_far (R_far (R3.out) (by show w.heap.size < _; omega) _) (by show w.heap.size < _; omega) _) (by show w.heap.size < _; omega) _) (by show w.heap.size < _; omega) _) (by omega), below_set (below_set (below_set (below_set (T.out) (Nat.le_refl _)) (Nat.le_refl _)) (Nat.le_refl _)) (Nat.le_refl _)⟩
  · have HEND := Aside0.mk (show endP z24 x l e = (z24, e) from by rw [endP, if_neg he])
    go_upto_region 7 with (fail)
    have hs8 : w2.heap.size = w2.heap.size := rfl
    clear C R3 z0 z1 zf
    generalize w2 = wa at T G B hs8 ⊢
    have HB8 := Aside0.mk (show w.heap.size < wa.heap.size by rw [← hs8]; exact blk_lt B.out)
    have hal := below_alloc (Below.refl _ wa) (.cells #[.int .i64 0, .int .i64 0, .int .i64 0, .slice none 0 0] 24 : Obj)
    have Z0 := blk_new wa (.cells #[.int .i64 0, .int .i64 0, .int .i64 0, .slice none 0 0] 24 : Obj)
    have Z := Aside0.mk Z0
    replace T := Aside0.mk (below_then T.out T.out.size hal)
    replace G := Aside0.mk (blk_below G.out hal)
    replace B := Aside0.mk (blk_below B.out hal)
    clear hal Z0 hs8
    generalize hb8 : wa.heap.size = b8 at HB8 Z ⊢
    generalize World.alloc wa _ = wz at T G Z B ⊢
    clear hb8
    replace T := Aside0.mk (below_drew T.out)
    replace G := Aside0.mk (blk_below G.out (below_drew (Below.refl _ wz)))
    replace Z := Aside0.mk (blk_below Z.out (below_drew (Below.refl _ wz)))
    replace B := Aside0.mk (blk_below B.out (below_drew (Below.refl _ wz)))
    refine start_ (n := 7) (S := fun w' => True) (ds := []) #[false, false, false, false, false, false, false] (by kernel_rfl) rfl rfl trivial (fun hHeld => ?_)
    refine with_tabW dec56.tab7 dec56.bits7 (fun HT_ HW_ => ?_)
    generalize hwd : wz.drew = wy at T G Z B ⊢
    clear hwd
    refine pure_ (i := 1) (N := some 38) (v := ?_) (a' := ?_) #[false, true, false, false, false, false, false] rfl rfl (any_of HT_.out (by kernel_rfl)) (fun _ _ _ h => h) (Or.inl ⟨by rfl, ?_⟩) ?_ ?_
    rotate_left
    · intro w'
      go_simp
      with_reducible rfl
    rotate_left
    · simp only [Act.put, List.setIfInBounds_toArray, List.set_cons_zero, List.set_cons_succ, i64_w, i32_w]
      rfl
    refine pure_ (i := 2) (N := some 39) (v := ?_) (a' := ?_) #[false, true, true, false, false, false, false] rfl rfl (any_of HT_.out (by kernel_rfl)) (fun _ _ _ h => h) (Or.inl ⟨by rfl, ?_⟩) ?_ ?_
    rotate_left
    · intro w'
      go_simp
      with_reducible rfl
    rotate_left
    · simp only [Act.put, List.setIfInBounds_toArray, List.set_cons_zero, List.set_cons_succ, i64_w, i32_w]
      rfl
    refine pure_ (i := 3) (N := some 40) (v := ?_) (a' := ?_) #[false, true, true, true, false, false, false] rfl rfl (any_of HT_.out (by kernel_rfl)) (fun _ _ _ h => h) (Or.inl ⟨by rfl, ?_⟩) ?_ ?_
    rotate_left
    · intro w'
      go_simp
      with_reducible rfl
    rotate_left
    · simp only [Act.put, List.setIfInBounds_toArray, List.set_cons_zero, List.set_cons_succ, i64_w, i32_w]
      rfl
    refine inv_at [0, 4, 5, 6] (fun a0_ b a w' => a = putSel a0_ b [(0, 37, .agg #[.int .i64 0, .int .i64 0, .int .i64 0, .slice none 0 0]), (4, 41, .int .i64 e), (6, 5, .int .i64 e)] ∧ (Below w.heap.size w w') ∧ (w'.heap[g]? = some (.cells #[.slice AL l.length cL, .int .i64 e] 121 (0, 0))) ∧ (w'.heap[b8]? = some (.cells #[.int .i64 0, .int .i64 0, .int .i64 0, .slice none 0 0] 24 : Obj)) ∧ (b 5 = false → w'.heap[w.heap.size]? = some (.cells #[.int .i64 0, .int .i64 0, .int .i64 0, .slice none 0 0] 24 : Obj)) ∧ (b 5 = true → w'.heap[w.heap.size]? = some (.cells #[.int .i64 0, .int .i64 0, .int .i64 0, .slice none 0 0] 24 : Obj))) HT_.out HW_.out (by kernel_rfl) (by kernel_rfl) ?_ ?_ ?_
    · exact ⟨by simp only [putSel, Bool.false_eq_true, if_false], T.out, G.out, Z.out, fun _ => B.out, fun h_ => absurd h_ (by decide)⟩
    · skip
      clear B G T Z
      refine steps_cons ?_ ?_
      · rintro b a w' ⟨ha, Q_T, Q_G, Q_Z, Q_B, Q_F⟩ hb_ hon hoff
        refine ⟨_, rfl, fun K hK => ?_⟩
        have e8 : a.tmps[8]? = some (.pointer (some ⟨b8, 0, none⟩)) := by rw [ha]; exact (putSel_off rfl).trans rfl
        replace ha := Aside0.mk ha
        have T := Aside0.mk Q_T
        have G := Aside0.mk Q_G
        have Z := Aside0.mk Q_Z
        have B := Aside0.mk (Q_B (hoff 5 (by kernel_rfl)))
        have y0 := blk_cell Z.out 0
        have y1 := blk_cell Z.out 1
        have y2 := blk_cell Z.out 2
        have y3 := blk_cell Z.out 3
        refine value_ (w1 := w') (v := .agg #[.int .i64 0, .int .i64 0, .int .i64 0, .slice none 0 0]) (by rfl) rfl ?_ ?_
        · go_simp
          (try simp only [i64_w, IntKind.wrap_u32])
          try first | rfl | omega
        refine hK.out _ _ ⟨(by rw [ha.out]; exact putSel_upk 0 hb_ rfl rfl rfl), Q_T, Q_G, Q_Z, Q_B, fun h0_ => absurd ((hoff 5 (by kernel_rfl)).symm.trans h0_) (by decide)⟩
      refine steps_cons ?_ ?_
      · rintro b a w' ⟨ha, Q_T, Q_G, Q_Z, Q_B, Q_F⟩ hb_ hon hoff
        refine ⟨_, rfl, fun K hK => ?_⟩
        have e40 : a.tmps[40]? = some (.pointer (some ⟨g, 1, none⟩)) := by rw [ha]; exact (putSel_off rfl).trans rfl
        replace ha := Aside0.mk ha
        have T := Aside0.mk Q_T
        have G := Aside0.mk Q_G
        have Z := Aside0.mk Q_Z
        have z1 := blk_cell G.out 1
        refine value_ (w1 := w') (v := .int .i64 e) (by rfl) rfl ?_ ?_
        · go_simp
          (try simp only [i64_w, IntKind.wrap_u32])
          try first | rfl | omega
        refine hK.out _ _ ⟨(by rw [ha.out]; exact putSel_upk 1 hb_ rfl rfl rfl), Q_T, Q_G, Q_Z, Q_B, Q_F⟩
      refine steps_cons ?_ ?_
      · rintro b a w' ⟨ha, Q_T, Q_G, Q_Z, Q_B, Q_F⟩ hb_ hon hoff
        refine ⟨_, rfl, fun K hK => ?_⟩
        have e4 : a.tmps[4]? = some (.pointer (some ⟨w.heap.size, 0, none⟩)) := by rw [ha]; exact (putSel_off rfl).trans rfl
        have e37 : a.tmps[37]? = some (.agg #[.int .i64 0, .int .i64 0, .int .i64 0, .slice none 0 0]) := by rw [ha]; exact putSel_on (e := (0, 37, .agg #[.int .i64 0, .int .i64 0, .int .i64 0, .slice none 0 0])) 0 rfl rfl (hon 0 (by kernel_rfl)) rfl
        replace ha := Aside0.mk ha
        have T := Aside0.mk Q_T
        have G := Aside0.mk Q_G
        have Z := Aside0.mk Q_Z
        have B := Aside0.mk (Q_B hb_)
        have z0 := blk_cell B.out 0
        have z1 := blk_cell B.out 1
        have z2 := blk_cell B.out 2
        have z3 := blk_cell B.out 3
        have zf := blk_frozen B.out
        refine skip_ (w1 := ?_) (by rfl) rfl ?_ ?_
        rotate_left
        · go_simp
          rfl
        refine hK.out _ _ ⟨(by rw [ha.out]; exact putSel_none (v := undef) rfl), below_set (below_set (below_set (below_set (T.out) (Nat.le_refl _)) (Nat.le_refl _)) (Nat.le_refl _)) (Nat.le_refl _), blk_far (blk_far (blk_far (blk_far (G.out) (by have := HG.out; show g ≠ w.heap.size; omega) _) (by have := HG.out; show g ≠ w.heap.size; omega) _) (by have := HG.out; show g ≠ w.heap.size; omega) _) (by have := HG.out; show g ≠ w.heap.size; omega) _, blk_far (blk_far (blk_far (blk_far (Z.out) (by have := HB8.out; show b8 ≠ w.heap.size; omega) _) (by have := HB8.out; show b8 ≠ w.heap.size; omega) _) (by have := HB8.out; show b8 ≠ w.heap.size; omega) _) (by have := HB8.out; show b8 ≠ w.heap.size; omega) _, fun h0_ => absurd ((up_self b 5).symm.trans h0_) (by decide), fun _ => blk_put (blk_put (blk_put (blk_put (B.out) 0 _ rfl) 1 _ rfl) 2 _ rfl) 3 _ rfl⟩
      refine steps_cons ?_ ?_
      · rintro b a w' ⟨ha, Q_T, Q_G, Q_Z, Q_B, Q_F⟩ hb_ hon hoff
        refine ⟨_, rfl, fun K hK => ?_⟩
        have e41 : a.tmps[41]? = some (.int .i64 e) := by rw [ha]; exact putSel_on (e := (4, 41, .int .i64 e)) 1 rfl rfl (hon 4 (by kernel_rfl)) rfl
        replace ha := Aside0.mk ha
        have T := Aside0.mk Q_T
        have G := Aside0.mk Q_G
        have Z := Aside0.mk Q_Z
        have F := Aside0.mk (Q_F (hon 5 (by kernel_rfl)))
        refine value_ (w1 := w') (v := .int .i64 e) (by rfl) rfl ?_ ?_
        · go_simp
          (try simp only [i64_w, IntKind.wrap_u32])
          try first | rfl | omega
        refine hK.out _ _ ⟨(by rw [ha.out]; exact putSel_upk 2 hb_ rfl rfl rfl), Q_T, Q_G, Q_Z, fun h0_ => absurd ((hon 5 (by kernel_rfl)).symm.trans h0_) (by decide), Q_F⟩
      exact steps_nil
    rintro b a w9 hall ⟨ha, Q_T, Q_G, Q_Z, Q_B, Q_F⟩
    clear B G T Z
    have hb0_ := hall 0 (by kernel_rfl)
    have hb4_ := hall 4 (by kernel_rfl)
    have hb5_ := hall 5 (by kernel_rfl)
    have hb6_ := hall 6 (by kernel_rfl)
    subst ha
    simp only [putSel, hb0_, hb4_, hb5_, hb6_, if_true, Act.put, List.setIfInBounds_toArray, List.set_cons_zero, List.set_cons_succ]
    have T := Aside0.mk Q_T
    clear Q_T
    have G := Aside0.mk Q_G
    clear Q_G
    have Z := Aside0.mk Q_Z
    clear Q_Z
    clear Q_B
    have F := Aside0.mk (Q_F hb5_)
    clear Q_F
    clear hall hb0_ hb4_ hb5_ hb6_
    go_wp2_with (fail)
    refine bodyPost_ret (results_ct rfl _ _ w.heap.size 24 _ (0, 0) _ rfl F.out Tryd.underlying24 rfl (by kernel_rfl)) rfl ?_
    rw [HEND.out]
    exact ⟨_, rfl, Kd.R_nil _ _ _ _ _, T.out⟩
def dec60.T7 : Bool × List (List Nat × List Nat) := (true, [([], []), ([], []), ([1], [1]), ([2], [2]), ([3], [3]), ([0, 0], [0]), ([4, 5, 0, 1, 2, 3, 4, 5], [4])])
def dec60.B7 : List Nat := [0, 0, 2, 6, 14, 1, 63]
theorem dec60.tab7 : rtab .any (opsOf Tryd.f60 7) = dec60.T7 := by kernel_rfl
theorem dec60.bits7 : waitsOk dec60.T7.2 dec60.B7 = true := by kernel_rfl
set_option maxRecDepth 100000 in
set_option maxHeartbeats 1000000 in
theorem decode_keys_calls (k : Nat) (s : ByteArray) (x : S30) (l : List Int) (e : Int) (w : World) (hs : s.size < 140737488355328) (h : keysP k (bytesOf s) 0 = some (x, l, e)) :
    Calls Tryd.prog 60 #[.string s, .func (.func 61) #[] #[]] w fun o w' => ∃ v3 : Value, o = .returned (.tuple #[.agg #[.int .i64 (endP z30 x l e).1.f0, .int .i64 (endP z30 x l e).1.f1, .int .i64 (endP z30 x l e).1.f2, v3], .int .i64 (endP z30 x l e).2]) ∧ Kd.R k38 38 w' w.heap.size (fun k => True) v3 (endP z30 x l e).1.f3 ∧ Below w.heap.size w w' := by
  have H := Aside0.mk h
  have HDN := Aside0.mk (dec_new (W := w.alloc (.cells #[.int .i64 0, .int .i64 0, .int .i64 0, .slice none 0 0] 30 : Obj)) s hs (World.size_alloc _ _))
  have kb := fun W => print_bytes (P := Tryd.prog) 9 74 5 Tryd.underlying9 Tryd.underlying74 Tryd.underlying5 s W
  have hbw : Below w.heap.size w (Lib.bytesWorld (w.alloc (.cells #[.int .i64 0, .int .i64 0, .int .i64 0, .slice none 0 0] 30 : Obj)) 5 s) := bytes_below (below_alloc (Below.refl _ w) _) (by rw [World.size_alloc]; omega) 5 s
  have HBB := Aside0.mk (show Below w.heap.size w ((Lib.bytesWorld (w.alloc (.cells #[.int .i64 0, .int .i64 0, .int .i64 0, .slice none 0 0] 30 : Obj)) 5 s).alloc (.cells #[.slice (some ⟨w.heap.size + 1, 0, none⟩) s.size (grownCap (w.alloc (.cells #[.int .i64 0, .int .i64 0, .int .i64 0, .slice none 0 0] 30 : Obj)) s.size 0 5), .int .i64 0] 121)) from below_then hbw hbw.size (below_alloc (Below.refl _ _) _))
  have HB0 := Aside0.mk (show (Lib.bytesWorld (w.alloc (.cells #[.int .i64 0, .int .i64 0, .int .i64 0, .slice none 0 0] 30 : Obj)) 5 s).heap[w.heap.size]? = some (.cells #[.int .i64 0, .int .i64 0, .int .i64 0, .slice none 0 0] 30 : Obj) from blk_below (blk_new w _) (bytes_below (Below.refl _ _) (Nat.le_refl _) 5 s))
  clear h hbw
  go_enter Tryd.func60, Tryd.ntmps60
  go_wp2_with (fail)
  clear kb
  have B0 := blk_alloc HB0.out (.cells #[.slice (some ⟨w.heap.size + 1, 0, none⟩) s.size (grownCap (w.alloc (.cells #[.int .i64 0, .int .i64 0, .int .i64 0, .slice none 0 0] 30 : Obj)) s.size 0 5), .int .i64 0] 121)
  have HGL := Aside0.mk (blk_lt HB0.out)
  generalize hgg : (Lib.bytesWorld (w.alloc (.cells #[.int .i64 0, .int .i64 0, .int .i64 0, .slice none 0 0] 30 : Obj)) 5 s).heap.size = g at HDN HGL ⊢
  clear HB0 hgg
  generalize World.alloc _ _ = w0 at HDN HBB B0 ⊢
  refine (keys_calls k g (bytesOf s) l 0 e x w0 HDN.out H.out).mono ?_
  rintro e_ w1 ⟨v3, rfl, hR3, hd, ht⟩
  have hglt := HDN.out.lt
  have HG := Aside0.mk HGL.out
  have hsz0 := ht.size
  have hsz1 := HBB.out.size
  obtain ⟨AL, cL, hG, -, -, -⟩ := hd
  have hal := below_alloc (Below.refl _ w1) (.cells #[.int .i64 x.f0, .int .i64 x.f1, .int .i64 x.f2, v3] 30)
  have hdt : DecTo w1 (w1.alloc (.cells #[.int .i64 x.f0, .int .i64 x.f1, .int .i64 x.f2, v3] 30)) g := DecTo.of_below hal (by omega)
  have T := Aside0.mk (HBB.out.trans ((ht.trans hdt).1.mono (Nat.le_of_lt HG.out)))
  have B := Aside0.mk (blk_below (ht.blk B0 (by have := HG.out; omega)) hal)
  have G := Aside0.mk (blk_below hG hal)
  have C := Aside0.mk (blk_new w1 (.cells #[.int .i64 x.f0, .int .i64 x.f1, .int .i64 x.f2, v3] 30))
  have HB7 := Aside0.mk (show w.heap.size < w1.heap.size from blk_lt (ht.blk B0 (by have := HG.out; omega)))
  have R3 := Aside0.mk (R_out (R_dec hR3 (by have := HG.out; omega) hdt) (by have := HG.out; omega : w.heap.size + 1 ≤ w0.heap.size))
  obtain ⟨A3, c3, rfl⟩ := Kd.R_slice hR3
  clear hR3 hal hdt hG ht HDN HBB B0 HGL hsz0 hsz1 hglt H
  go_upto_region 3 with (fail)
  generalize hb7 : w1.heap.size = b7 at C HB7 ⊢
  generalize World.alloc w1 _ = w2 at T G B C R3 ⊢
  clear hb7
  have z0 := blk_cell G.out 0
  have z1 := blk_cell G.out 1
  have zf := blk_frozen G.out
  by_cases he : e = 0
  · subst he
    by_cases hl : 0 < l.length
    · have HEND := Aside0.mk (show endP z30 x l 0 = (z30, 7) from by rw [endP, if_pos rfl, if_pos hl])
      replace G := Aside0.mk (blk_put G.out 1 (.int .i64 7) rfl)
      replace T := Aside0.mk (below_set (j := 1) (v := .int .i64 7) T.out (Nat.le_of_lt HG.out))
      replace B := Aside0.mk (blk_far B.out (p := ⟨g, 1, none⟩) (by have := HG.out; show w.heap.size ≠ g; omega) (.int .i64 7))
      go_upto_region 7 with (fail)
      have hs8 : (w2.setCell ⟨g, 1, none⟩ (.int .i64 7)).heap.size = w2.heap.size := by simp [World.setCell]
      clear C R3 z0 z1 zf
      generalize World.setCell w2 _ _ = wa at T G B hs8 ⊢
      have HB8 := Aside0.mk (show w.heap.size < w2.heap.size by rw [← hs8]; exact blk_lt B.out)
      have hal := below_alloc (Below.refl _ wa) (.cells #[.int .i64 0, .int .i64 0, .int .i64 0, .slice none 0 0] 30 : Obj)
      have Z0 := blk_new wa (.cells #[.int .i64 0, .int .i64 0, .int .i64 0, .slice none 0 0] 30 : Obj)
      rw [hs8] at Z0
      have Z := Aside0.mk Z0
      replace T := Aside0.mk (below_then T.out T.out.size hal)
      replace G := Aside0.mk (blk_below G.out hal)
      replace B := Aside0.mk (blk_below B.out hal)
      clear hal Z0 hs8
      generalize hb8 : w2.heap.size = b8 at HB8 Z ⊢
      generalize World.alloc wa _ = wz at T G Z B ⊢
      clear hb8
      replace T := Aside0.mk (below_drew T.out)
      replace G := Aside0.mk (blk_below G.out (below_drew (Below.refl _ wz)))
      replace Z := Aside0.mk (blk_below Z.out (below_drew (Below.refl _ wz)))
      replace B := Aside0.mk (blk_below B.out (below_drew (Below.refl _ wz)))
      refine start_ (n := 7) (S := fun w' => True) (ds := []) #[false, false, false, false, false, false, false] (by kernel_rfl) rfl rfl trivial (fun hHeld => ?_)
      refine with_tabW dec60.tab7 dec60.bits7 (fun HT_ HW_ => ?_)
      generalize hwd : wz.drew = wy at T G Z B ⊢
      clear hwd
      refine pure_ (i := 1) (N := some 38) (v := ?_) (a' := ?_) #[false, true, false, false, false, false, false] rfl rfl (any_of HT_.out (by kernel_rfl)) (fun _ _ _ h => h) (Or.inl ⟨by rfl, ?_⟩) ?_ ?_
      rotate_left
      · intro w'
        go_simp
        with_reducible rfl
      rotate_left
      · simp only [Act.put, List.setIfInBounds_toArray, List.set_cons_zero, List.set_cons_succ, i64_w, i32_w]
        rfl
      refine pure_ (i := 2) (N := some 39) (v := ?_) (a' := ?_) #[false, true, true, false, false, false, false] rfl rfl (any_of HT_.out (by kernel_rfl)) (fun _ _ _ h => h) (Or.inl ⟨by rfl, ?_⟩) ?_ ?_
      rotate_left
      · intro w'
        go_simp
        with_reducible rfl
      rotate_left
      · simp only [Act.put, List.setIfInBounds_toArray, List.set_cons_zero, List.set_cons_succ, i64_w, i32_w]
        rfl
      refine pure_ (i := 3) (N := some 40) (v := ?_) (a' := ?_) #[false, true, true, true, false, false, false] rfl rfl (any_of HT_.out (by kernel_rfl)) (fun _ _ _ h => h) (Or.inl ⟨by rfl, ?_⟩) ?_ ?_
      rotate_left
      · intro w'
        go_simp
        with_reducible rfl
      rotate_left
      · simp only [Act.put, List.setIfInBounds_toArray, List.set_cons_zero, List.set_cons_succ, i64_w, i32_w]
        rfl
      refine inv_at [0, 4, 5, 6] (fun a0_ b a w' => a = putSel a0_ b [(0, 37, .agg #[.int .i64 0, .int .i64 0, .int .i64 0, .slice none 0 0]), (4, 41, .int .i64 7), (6, 5, .int .i64 7)] ∧ (Below w.heap.size w w') ∧ (w'.heap[g]? = some (.cells #[.slice AL l.length cL, .int .i64 7] 121 (0, 0))) ∧ (w'.heap[b8]? = some (.cells #[.int .i64 0, .int .i64 0, .int .i64 0, .slice none 0 0] 30 : Obj)) ∧ (b 5 = false → w'.heap[w.heap.size]? = some (.cells #[.int .i64 0, .int .i64 0, .int .i64 0, .slice none 0 0] 30 : Obj)) ∧ (b 5 = true → w'.heap[w.heap.size]? = some (.cells #[.int .i64 0, .int .i64 0, .int .i64 0, .slice none 0 0] 30 : Obj))) HT_.out HW_.out (by kernel_rfl) (by kernel_rfl) ?_ ?_ ?_
      · exact ⟨by simp only [putSel, Bool.false_eq_true, if_false], T.out, G.out, Z.out, fun _ => B.out, fun h_ => absurd h_ (by decide)⟩
      · skip
        clear B G T Z
        refine steps_cons ?_ ?_
        · rintro b a w' ⟨ha, Q_T, Q_G, Q_Z, Q_B, Q_F⟩ hb_ hon hoff
          refine ⟨_, rfl, fun K hK => ?_⟩
          have e8 : a.tmps[8]? = some (.pointer (some ⟨b8, 0, none⟩)) := by rw [ha]; exact (putSel_off rfl).trans rfl
          replace ha := Aside0.mk ha
          have T := Aside0.mk Q_T
          have G := Aside0.mk Q_G
          have Z := Aside0.mk Q_Z
          have B := Aside0.mk (Q_B (hoff 5 (by kernel_rfl)))
          have y0 := blk_cell Z.out 0
          have y1 := blk_cell Z.out 1
          have y2 := blk_cell Z.out 2
          have y3 := blk_cell Z.out 3
          refine value_ (w1 := w') (v := .agg #[.int .i64 0, .int .i64 0, .int .i64 0, .slice none 0 0]) (by rfl) rfl ?_ ?_
          · go_simp
            (try simp only [i64_w, IntKind.wrap_u32])
            try first | rfl | omega
          refine hK.out _ _ ⟨(by rw [ha.out]; exact putSel_upk 0 hb_ rfl rfl rfl), Q_T, Q_G, Q_Z, Q_B, fun h0_ => absurd ((hoff 5 (by kernel_rfl)).symm.trans h0_) (by decide)⟩
        refine steps_cons ?_ ?_
        · rintro b a w' ⟨ha, Q_T, Q_G, Q_Z, Q_B, Q_F⟩ hb_ hon hoff
          refine ⟨_, rfl, fun K hK => ?_⟩
          have e40 : a.tmps[40]? = some (.pointer (some ⟨g, 1, none⟩)) := by rw [ha]; exact (putSel_off rfl).trans rfl
          replace ha := Aside0.mk ha
          have T := Aside0.mk Q_T
          have G := Aside0.mk Q_G
          have Z := Aside0.mk Q_Z
          have z1 := blk_cell G.out 1
          refine value_ (w1 := w') (v := .int .i64 7) (by rfl) rfl ?_ ?_
          · go_simp
            (try simp only [i64_w, IntKind.wrap_u32])
            try first | rfl | omega
          refine hK.out _ _ ⟨(by rw [ha.out]; exact putSel_upk 1 hb_ rfl rfl rfl), Q_T, Q_G, Q_Z, Q_B, Q_F⟩
        refine steps_cons ?_ ?_
        · rintro b a w' ⟨ha, Q_T, Q_G, Q_Z, Q_B, Q_F⟩ hb_ hon hoff
          refine ⟨_, rfl, fun K hK => ?_⟩
          have e4 : a.tmps[4]? = some (.pointer (some ⟨w.heap.size, 0, none⟩)) := by rw [ha]; exact (putSel_off rfl).trans rfl
          have e37 : a.tmps[37]? = some (.agg #[.int .i64 0, .int .i64 0, .int .i64 0, .slice none 0 0]) := by rw [ha]; exact putSel_on (e := (0, 37, .agg #[.int .i64 0, .int .i64 0, .int .i64 0, .slice none 0 0])) 0 rfl rfl (hon 0 (by kernel_rfl)) rfl
          replace ha := Aside0.mk ha
          have T := Aside0.mk Q_T
          have G := Aside0.mk Q_G
          have Z := Aside0.mk Q_Z
          have B := Aside0.mk (Q_B hb_)
          have z0 := blk_cell B.out 0
          have z1 := blk_cell B.out 1
          have z2 := blk_cell B.out 2
          have z3 := blk_cell B.out 3
          have zf := blk_frozen B.out
          refine skip_ (w1 := ?_) (by rfl) rfl ?_ ?_
          rotate_left
          · go_simp
            rfl
          refine hK.out _ _ ⟨(by rw [ha.out]; exact putSel_none (v := undef) rfl), below_set (below_set (below_set (below_set (T.out) (Nat.le_refl _)) (Nat.le_refl _)) (Nat.le_refl _)) (Nat.le_refl _), blk_far (blk_far (blk_far (blk_far (G.out) (by have := HG.out; show g ≠ w.heap.size; omega) _) (by have := HG.out; show g ≠ w.heap.size; omega) _) (by have := HG.out; show g ≠ w.heap.size; omega) _) (by have := HG.out; show g ≠ w.heap.size; omega) _, blk_far (blk_far (blk_far (blk_far (Z.out) (by have := HB8.out; show b8 ≠ w.heap.size; omega) _) (by have := HB8.out; show b8 ≠ w.heap.size; omega) _) (by have := HB8.out; show b8 ≠ w.heap.size; omega) _) (by have := HB8.out; show b8 ≠ w.heap.size; omega) _, fun h0_ => absurd ((up_self b 5).symm.trans h0_) (by decide), fun _ => blk_put (blk_put (blk_put (blk_put (B.out) 0 _ rfl) 1 _ rfl) 2 _ rfl) 3 _ rfl⟩
        refine steps_cons ?_ ?_
        · rintro b a w' ⟨ha, Q_T, Q_G, Q_Z, Q_B, Q_F⟩ hb_ hon hoff
          refine ⟨_, rfl, fun K hK => ?_⟩
          have e41 : a.tmps[41]? = some (.int .i64 7) := by rw [ha]; exact putSel_on (e := (4, 41, .int .i64 7)) 1 rfl rfl (hon 4 (by kernel_rfl)) rfl
          replace ha := Aside0.mk ha
          have T := Aside0.mk Q_T
          have G := Aside0.mk Q_G
          have Z := Aside0.mk Q_Z
          have F := Aside0.mk (Q_F (hon 5 (by kernel_rfl)))
          refine value_ (w1 := w') (v := .int .i64 7) (by rfl) rfl ?_ ?_
          · go_simp
            (try simp only [i64_w, IntKind.wrap_u32])
            try first | rfl | omega
          refine hK.out _ _ ⟨(by rw [ha.out]; exact putSel_upk 2 hb_ rfl rfl rfl), Q_T, Q_G, Q_Z, fun h0_ => absurd ((hon 5 (by kernel_rfl)).symm.trans h0_) (by decide), Q_F⟩
        exact steps_nil
      rintro b a w9 hall ⟨ha, Q_T, Q_G, Q_Z, Q_B, Q_F⟩
      clear B G T Z
      have hb0_ := hall 0 (by kernel_rfl)
      have hb4_ := hall 4 (by kernel_rfl)
      have hb5_ := hall 5 (by kernel_rfl)
      have hb6_ := hall 6 (by kernel_rfl)
      subst ha
      simp only [putSel, hb0_, hb4_, hb5_, hb6_, if_true, Act.put, List.setIfInBounds_toArray, List.set_cons_zero, List.set_cons_succ]
      have T := Aside0.mk Q_T
      clear Q_T
      have G := Aside0.mk Q_G
      clear Q_G
      have Z := Aside0.mk Q_Z
      clear Q_Z
      clear Q_B
      have F := Aside0.mk (Q_F hb5_)
      clear Q_F
      clear hall hb0_ hb4_ hb5_ hb6_
      go_wp2_with (fail)
      refine bodyPost_ret (results_ct rfl _ _ w.heap.size 30 _ (0, 0) _ rfl F.out Tryd.underlying30 rfl (by kernel_rfl)) rfl ?_
      rw [HEND.out]
      exact ⟨_, rfl, Kd.R_nil _ _ _ _ _, T.out⟩
    · have hl0 : l = [] := List.eq_nil_of_length_eq_zero (by omega)
      subst hl0
      have HEND := Aside0.mk (show endP z30 x [] 0 = (x, 0) from rfl)
      have y0 := blk_cell C.out 0
      have x0 := blk_cell B.out 0
      have y1 := blk_cell C.out 1
      have x1 := blk_cell B.out 1
      have y2 := blk_cell C.out 2
      have x2 := blk_cell B.out 2
      have y3 := blk_cell C.out 3
      have x3 := blk_cell B.out 3
      have xf := blk_frozen B.out
      go_wp2_with (fail)
      refine bodyPost_ret (results_ct rfl _ _ w.heap.size 30 _ (0, 0) _ rfl (blk_put (blk_put (blk_put (blk_put (B.out) 0 _ rfl) 1 _ rfl) 2 _ rfl) 3 _ rfl) Tryd.underlying30 rfl (by kernel_rfl)) rfl ?_
      rw [HEND.out]
      exact ⟨_, rfl, R_out (R_far (R_far (R_far (R_far (R3.out) (by show w.heap.size < _; omega) _) (by show w.heap.size < _; omega) _) (by show w.heap.size < _; omega) _) (by show w.heap.size < _; omega) _) (by omega), below_set (below_set (below_set (below_set (T.out) (Nat.le_refl _)) (Nat.le_refl _)) (Nat.le_refl _)) (Nat.le_refl _)⟩
  · have HEND := Aside0.mk (show endP z30 x l e = (z30, e) from by rw [endP, if_neg he])
    go_upto_region 7 with (fail)
    have hs8 : w2.heap.size = w2.heap.size := rfl
    clear C R3 z0 z1 zf
    generalize w2 = wa at T G B hs8 ⊢
    have HB8 := Aside0.mk (show w.heap.size < wa.heap.size by rw [← hs8]; exact blk_lt B.out)
    have hal := below_alloc (Below.refl _ wa) (.cells #[.int .i64 0, .int .i64 0, .int .i64 0, .slice none 0 0] 30 : Obj)
    have Z0 := blk_new wa (.cells #[.int .i64 0, .int .i64 0, .int .i64 0, .slice none 0 0] 30 : Obj)
    have Z := Aside0.mk Z0
    replace T := Aside0.mk (below_then T.out T.out.size hal)
    replace G := Aside0.mk (blk_below G.out hal)
    replace B := Aside0.mk (blk_below B.out hal)
    clear hal Z0 hs8
    generalize hb8 : wa.heap.size = b8 at HB8 Z ⊢
    generalize World.alloc wa _ = wz at T G Z B ⊢
    clear hb8
    replace T := Aside0.mk (below_drew T.out)
    replace G := Aside0.mk (blk_below G.out (below_drew (Below.refl _ wz)))
    replace Z := Aside0.mk (blk_below Z.out (below_drew (Below.refl _ wz)))
    replace B := Aside0.mk (blk_below B.out (below_drew (Below.refl _ wz)))
    refine start_ (n := 7) (S := fun w' => True) (ds := []) #[false, false, false, false, false, false, false] (by kernel_rfl) rfl rfl trivial (fun hHeld => ?_)
    refine with_tabW dec60.tab7 dec60.bits7 (fun HT_ HW_ => ?_)
    generalize hwd : wz.drew = wy at T G Z B ⊢
    clear hwd
    refine pure_ (i := 1) (N := some 38) (v := ?_) (a' := ?_) #[false, true, false, false, false, false, false] rfl rfl (any_of HT_.out (by kernel_rfl)) (fun _ _ _ h => h) (Or.inl ⟨by rfl, ?_⟩) ?_ ?_
    rotate_left
    · intro w'
      go_simp
      with_reducible rfl
    rotate_left
    · simp only [Act.put, List.setIfInBounds_toArray, List.set_cons_zero, List.set_cons_succ, i64_w, i32_w]
      rfl
    refine pure_ (i := 2) (N := some 39) (v := ?_) (a' := ?_) #[false, true, true, false, false, false, false] rfl rfl (any_of HT_.out (by kernel_rfl)) (fun _ _ _ h => h) (Or.inl ⟨by rfl, ?_⟩) ?_ ?_
    rotate_left
    · intro w'
      go_simp
      with_reducible rfl
    rotate_left
    · simp only [Act.put, List.setIfInBounds_toArray, List.set_cons_zero, List.set_cons_succ, i64_w, i32_w]
      rfl
    refine pure_ (i := 3) (N := some 40) (v := ?_) (a' := ?_) #[false, true, true, true, false, false, false] rfl rfl (any_of HT_.out (by kernel_rfl)) (fun _ _ _ h => h) (Or.inl ⟨by rfl, ?_⟩) ?_ ?_
    rotate_left
    · intro w'
      go_simp
      with_reducible rfl
    rotate_left
    · simp only [Act.put, List.setIfInBounds_toArray, List.set_cons_zero, List.set_cons_succ, i64_w, i32_w]
      rfl
    refine inv_at [0, 4, 5, 6] (fun a0_ b a w' => a = putSel a0_ b [(0, 37, .agg #[.int .i64 0, .int .i64 0, .int .i64 0, .slice none 0 0]), (4, 41, .int .i64 e), (6, 5, .int .i64 e)] ∧ (Below w.heap.size w w') ∧ (w'.heap[g]? = some (.cells #[.slice AL l.length cL, .int .i64 e] 121 (0, 0))) ∧ (w'.heap[b8]? = some (.cells #[.int .i64 0, .int .i64 0, .int .i64 0, .slice none 0 0] 30 : Obj)) ∧ (b 5 = false → w'.heap[w.heap.size]? = some (.cells #[.int .i64 0, .int .i64 0, .int .i64 0, .slice none 0 0] 30 : Obj)) ∧ (b 5 = true → w'.heap[w.heap.size]? = some (.cells #[.int .i64 0, .int .i64 0, .int .i64 0, .slice none 0 0] 30 : Obj))) HT_.out HW_.out (by kernel_rfl) (by kernel_rfl) ?_ ?_ ?_
    · exact ⟨by simp only [putSel, Bool.false_eq_true, if_false], T.out, G.out, Z.out, fun _ => B.out, fun h_ => absurd h_ (by decide)⟩
    · skip
      clear B G T Z
      refine steps_cons ?_ ?_
      · rintro b a w' ⟨ha, Q_T, Q_G, Q_Z, Q_B, Q_F⟩ hb_ hon hoff
        refine ⟨_, rfl, fun K hK => ?_⟩
        have e8 : a.tmps[8]? = some (.pointer (some ⟨b8, 0, none⟩)) := by rw [ha]; exact (putSel_off rfl).trans rfl
        replace ha := Aside0.mk ha
        have T := Aside0.mk Q_T
        have G := Aside0.mk Q_G
        have Z := Aside0.mk Q_Z
        have B := Aside0.mk (Q_B (hoff 5 (by kernel_rfl)))
        have y0 := blk_cell Z.out 0
        have y1 := blk_cell Z.out 1
        have y2 := blk_cell Z.out 2
        have y3 := blk_cell Z.out 3
        refine value_ (w1 := w') (v := .agg #[.int .i64 0, .int .i64 0, .int .i64 0, .slice none 0 0]) (by rfl) rfl ?_ ?_
        · go_simp
          (try simp only [i64_w, IntKind.wrap_u32])
          try first | rfl | omega
        refine hK.out _ _ ⟨(by rw [ha.out]; exact putSel_upk 0 hb_ rfl rfl rfl), Q_T, Q_G, Q_Z, Q_B, fun h0_ => absurd ((hoff 5 (by kernel_rfl)).symm.trans h0_) (by decide)⟩
      refine steps_cons ?_ ?_
      · rintro b a w' ⟨ha, Q_T, Q_G, Q_Z, Q_B, Q_F⟩ hb_ hon hoff
        refine ⟨_, rfl, fun K hK => ?_⟩
        have e40 : a.tmps[40]? = some (.pointer (some ⟨g, 1, none⟩)) := by rw [ha]; exact (putSel_off rfl).trans rfl
        replace ha := Aside0.mk ha
        have T := Aside0.mk Q_T
        have G := Aside0.mk Q_G
        have Z := Aside0.mk Q_Z
        have z1 := blk_cell G.out 1
        refine value_ (w1 := w') (v := .int .i64 e) (by rfl) rfl ?_ ?_
        · go_simp
          (try simp only [i64_w, IntKind.wrap_u32])
          try first | rfl | omega
        refine hK.out _ _ ⟨(by rw [ha.out]; exact putSel_upk 1 hb_ rfl rfl rfl), Q_T, Q_G, Q_Z, Q_B, Q_F⟩
      refine steps_cons ?_ ?_
      · rintro b a w' ⟨ha, Q_T, Q_G, Q_Z, Q_B, Q_F⟩ hb_ hon hoff
        refine ⟨_, rfl, fun K hK => ?_⟩
        have e4 : a.tmps[4]? = some (.pointer (some ⟨w.heap.size, 0, none⟩)) := by rw [ha]; exact (putSel_off rfl).trans rfl
        have e37 : a.tmps[37]? = some (.agg #[.int .i64 0, .int .i64 0, .int .i64 0, .slice none 0 0]) := by rw [ha]; exact putSel_on (e := (0, 37, .agg #[.int .i64 0, .int .i64 0, .int .i64 0, .slice none 0 0])) 0 rfl rfl (hon 0 (by kernel_rfl)) rfl
        replace ha := Aside0.mk ha
        have T := Aside0.mk Q_T
        have G := Aside0.mk Q_G
        have Z := Aside0.mk Q_Z
        have B := Aside0.mk (Q_B hb_)
        have z0 := blk_cell B.out 0
        have z1 := blk_cell B.out 1
        have z2 := blk_cell B.out 2
        have z3 := blk_cell B.out 3
        have zf := blk_frozen B.out
        refine skip_ (w1 := ?_) (by rfl) rfl ?_ ?_
        rotate_left
        · go_simp
          rfl
        refine hK.out _ _ ⟨(by rw [ha.out]; exact putSel_none (v := undef) rfl), below_set (below_set (below_set (below_set (T.out) (Nat.le_refl _)) (Nat.le_refl _)) (Nat.le_refl _)) (Nat.le_refl _), blk_far (blk_far (blk_far (blk_far (G.out) (by have := HG.out; show g ≠ w.heap.size; omega) _) (by have := HG.out; show g ≠ w.heap.size; omega) _) (by have := HG.out; show g ≠ w.heap.size; omega) _) (by have := HG.out; show g ≠ w.heap.size; omega) _, blk_far (blk_far (blk_far (blk_far (Z.out) (by have := HB8.out; show b8 ≠ w.heap.size; omega) _) (by have := HB8.out; show b8 ≠ w.heap.size; omega) _) (by have := HB8.out; show b8 ≠ w.heap.size; omega) _) (by have := HB8.out; show b8 ≠ w.heap.size; omega) _, fun h0_ => absurd ((up_self b 5).symm.trans h0_) (by decide), fun _ => blk_put (blk_put (blk_put (blk_put (B.out) 0 _ rfl) 1 _ rfl) 2 _ rfl) 3 _ rfl⟩
      refine steps_cons ?_ ?_
      · rintro b a w' ⟨ha, Q_T, Q_G, Q_Z, Q_B, Q_F⟩ hb_ hon hoff
        refine ⟨_, rfl, fun K hK => ?_⟩
        have e41 : a.tmps[41]? = some (.int .i64 e) := by rw [ha]; exact putSel_on (e := (4, 41, .int .i64 e)) 1 rfl rfl (hon 4 (by kernel_rfl)) rfl
        replace ha := Aside0.mk ha
        have T := Aside0.mk Q_T
        have G := Aside0.mk Q_G
        have Z := Aside0.mk Q_Z
        have F := Aside0.mk (Q_F (hon 5 (by kernel_rfl)))
        refine value_ (w1 := w') (v := .int .i64 e) (by rfl) rfl ?_ ?_
        · go_simp
          (try simp only [i64_w, IntKind.wrap_u32])
          try first | rfl | omega
        refine hK.out _ _ ⟨(by rw [ha.out]; exact putSel_upk 2 hb_ rfl rfl rfl), Q_T, Q_G, Q_Z, fun h0_ => absurd ((hon 5 (by kernel_rfl)).symm.trans h0_) (by decide), Q_F⟩
      exact steps_nil
    rintro b a w9 hall ⟨ha, Q_T, Q_G, Q_Z, Q_B, Q_F⟩
    clear B G T Z
    have hb0_ := hall 0 (by kernel_rfl)
    have hb4_ := hall 4 (by kernel_rfl)
    have hb5_ := hall 5 (by kernel_rfl)
    have hb6_ := hall 6 (by kernel_rfl)
    subst ha
    simp only [putSel, hb0_, hb4_, hb5_, hb6_, if_true, Act.put, List.setIfInBounds_toArray, List.set_cons_zero, List.set_cons_succ]
    have T := Aside0.mk Q_T
    clear Q_T
    have G := Aside0.mk Q_G
    clear Q_G
    have Z := Aside0.mk Q_Z
    clear Q_Z
    clear Q_B
    have F := Aside0.mk (Q_F hb5_)
    clear Q_F
    clear hall hb0_ hb4_ hb5_ hb6_
    go_wp2_with (fail)
    refine bodyPost_ret (results_ct rfl _ _ w.heap.size 30 _ (0, 0) _ rfl F.out Tryd.underlying30 rfl (by kernel_rfl)) rfl ?_
    rw [HEND.out]
    exact ⟨_, rfl, Kd.R_nil _ _ _ _ _, T.out⟩
def dec62.T7 : Bool × List (List Nat × List Nat) := (true, [([], []), ([], []), ([1], [1]), ([2], [2]), ([3], [3]), ([0, 0], [0]), ([4, 5, 0, 1, 2, 3, 4, 5], [4])])
def dec62.B7 : List Nat := [0, 0, 2, 6, 14, 1, 63]
theorem dec62.tab7 : rtab .any (opsOf Tryd.f62 7) = dec62.T7 := by kernel_rfl
theorem dec62.bits7 : waitsOk dec62.T7.2 dec62.B7 = true := by kernel_rfl
set_option maxRecDepth 100000 in
set_option maxHeartbeats 1000000 in
theorem decode_bun_calls (k : Nat) (s : ByteArray) (x : S28) (l : List Int) (e : Int) (w : World) (hs : s.size < 140737488355328) (h : bunP k (bytesOf s) 0 = some (x, l, e)) :
    Calls Tryd.prog 62 #[.string s, .func (.func 63) #[] #[]] w fun o w' => ∃ v3 v4 v5 : Value, o = .returned (.tuple #[.agg #[.int .i64 (endP z28 x l e).1.f0.f0, .int .i64 (endP z28 x l e).1.f0.f1, .int .i64 (endP z28 x l e).1.f0.f2, v3, v4, v5], .int .i64 (endP z28 x l e).2]) ∧ Kd.R k38 38 w' w.heap.size (fun k => True) v3 (endP z28 x l e).1.f0.f3 ∧ Kd.R k72 72 w' w.heap.size (fun k => some k ≠ v3.ownBlock) v4 (endP z28 x l e).1.f1 ∧ Kd.R Kd.string 9 w' w.heap.size (fun k => True) v5 (endP z28 x l e).1.f2 ∧ Below w.heap.size w w' := by
  have H := Aside0.mk h
  have HDN := Aside0.mk (dec_new (W := w.alloc (.cells #[.int .i64 0, .int .i64 0, .int .i64 0, .slice none 0 0, .slice none 0 0, .slice none 0 0] 28 : Obj)) s hs (World.size_alloc _ _))
  have kb := fun W => print_bytes (P := Tryd.prog) 9 74 5 Tryd.underlying9 Tryd.underlying74 Tryd.underlying5 s W
  have hbw : Below w.heap.size w (Lib.bytesWorld (w.alloc (.cells #[.int .i64 0, .int .i64 0, .int .i64 0, .slice none 0 0, .slice none 0 0, .slice none 0 0] 28 : Obj)) 5 s) := bytes_below (below_alloc (Below.refl _ w) _) (by rw [World.size_alloc]; omega) 5 s
  have HBB := Aside0.mk (show Below w.heap.size w ((Lib.bytesWorld (w.alloc (.cells #[.int .i64 0, .int .i64 0, .int .i64 0, .slice none 0 0, .slice none 0 0, .slice none 0 0] 28 : Obj)) 5 s).alloc (.cells #[.slice (some ⟨w.heap.size + 1, 0, none⟩) s.size (grownCap (w.alloc (.cells #[.int .i64 0, .int .i64 0, .int .i64 0, .slice none 0 0, .slice none 0 0, .slice none 0 0] 28 : Obj)) s.size 0 5), .int .i64 0] 121)) from below_then hbw hbw.size (below_alloc (Below.refl _ _) _))
  have HB0 := Aside0.mk (show (Lib.bytesWorld (w.alloc (.cells #[.int .i64 0, .int .i64 0, .int .i64 0, .slice none 0 0, .slice none 0 0, .slice none 0 0] 28 : Obj)) 5 s).heap[w.heap.size]? = some (.cells #[.int .i64 0, .int .i64 0, .int .i64 0, .slice none 0 0, .slice none 0 0, .slice none 0 0] 28 : Obj) from blk_below (blk_new w _) (bytes_below (Below.refl _ _) (Nat.le_refl _) 5 s))
  clear h hbw
  go_enter Tryd.func62, Tryd.ntmps62
  go_wp2_with (fail)
  clear kb
  have B0 := blk_alloc HB0.out (.cells #[.slice (some ⟨w.heap.size + 1, 0, none⟩) s.size (grownCap (w.alloc (.cells #[.int .i64 0, .int .i64 0, .int .i64 0, .slice none 0 0, .slice none 0 0, .slice none 0 0] 28 : Obj)) s.size 0 5), .int .i64 0] 121)
  have HGL := Aside0.mk (blk_lt HB0.out)
  generalize hgg : (Lib.bytesWorld (w.alloc (.cells #[.int .i64 0, .int .i64 0, .int .i64 0, .slice none 0 0, .slice none 0 0, .slice none 0 0] 28 : Obj)) 5 s).heap.size = g at HDN HGL ⊢
  clear HB0 hgg
  generalize World.alloc _ _ = w0 at HDN HBB B0 ⊢
  refine (bun_calls k g (bytesOf s) l 0 e x w0 HDN.out H.out).mono ?_
  rintro e_ w1 ⟨v3, v4, v5, rfl, hR3, hR4, hR5, hd, ht⟩
  have hglt := HDN.out.lt
  have HG := Aside0.mk HGL.out
  have hsz0 := ht.size
  have hsz1 := HBB.out.size
  obtain ⟨AL, cL, hG, -, -, -⟩ := hd
  have hal := below_alloc (Below.refl _ w1) (.cells #[.int .i64 x.f0.f0, .int .i64 x.f0.f1, .int .i64 x.f0.f2, v3, v4, v5] 28)
  have hdt : DecTo w1 (w1.alloc (.cells #[.int .i64 x.f0.f0, .int .i64 x.f0.f1, .int .i64 x.f0.f2, v3, v4, v5] 28)) g := DecTo.of_below hal (by omega)
  have T := Aside0.mk (HBB.out.trans ((ht.trans hdt).1.mono (Nat.le_of_lt HG.out)))
  have B := Aside0.mk (blk_below (ht.blk B0 (by have := HG.out; omega)) hal)
  have G := Aside0.mk (blk_below hG hal)
  have C := Aside0.mk (blk_new w1 (.cells #[.int .i64 x.f0.f0, .int .i64 x.f0.f1, .int .i64 x.f0.f2, v3, v4, v5] 28))
  have HB7 := Aside0.mk (show w.heap.size < w1.heap.size from blk_lt (ht.blk B0 (by have := HG.out; omega)))
  have R3 := Aside0.mk (R_out (R_dec hR3 (by have := HG.out; omega) hdt) (by have := HG.out; omega : w.heap.size + 1 ≤ w0.heap.size))
  have R4 := Aside0.mk (R_out (R_dec hR4 (by have := HG.out; omega) hdt) (by have := HG.out; omega : w.heap.size + 1 ≤ w0.heap.size))
  have R5 := Aside0.mk (R_out (R_dec hR5 (by have := HG.out; omega) hdt) (by have := HG.out; omega : w.heap.size + 1 ≤ w0.heap.size))
  obtain ⟨A3, c3, rfl⟩ := Kd.R_slice hR3
  obtain ⟨A4, c4, rfl⟩ := Kd.R_slice hR4
  obtain ⟨A5, c5, rfl⟩ := Kd.R_slice hR5
  clear hR3 hR4 hR5 hal hdt hG ht HDN HBB B0 HGL hsz0 hsz1 hglt H
  go_upto_region 3 with (fail)
  generalize hb7 : w1.heap.size = b7 at C HB7 ⊢
  generalize World.alloc w1 _ = w2 at T G B C R3 R4 R5 ⊢
  clear hb7
  have z0 := blk_cell G.out 0
  have z1 := blk_cell G.out 1
  have zf := blk_frozen G.out
  by_cases he : e = 0
  · subst he
    by_cases hl : 0 < l.length
    · have HEND := Aside0.mk (show endP z28 x l 0 = (z28, 7) from by rw [endP, if_pos rfl, if_pos hl])
      replace G := Aside0.mk (blk_put G.out 1 (.int .i64 7) rfl)
      replace T := Aside0.mk (below_set (j := 1) (v := .int .i64 7) T.out (Nat.le_of_lt HG.out))
      replace B := Aside0.mk (blk_far B.out (p := ⟨g, 1, none⟩) (by have := HG.out; show w.heap.size ≠ g; omega) (.int .i64 7))
      go_upto_region 7 with (fail)
      have hs8 : (w2.setCell ⟨g, 1, none⟩ (.int .i64 7)).heap.size = w2.heap.size := by simp [World.setCell]
      clear C R3 R4 R5 z0 z1 zf
      generalize World.setCell w2 _ _ = wa at T G B hs8 ⊢
      have HB8 := Aside0.mk (show w.heap.size < w2.heap.size by rw [← hs8]; exact blk_lt B.out)
      have hal := below_alloc (Below.refl _ wa) (.cells #[.int .i64 0, .int .i64 0, .int .i64 0, .slice none 0 0, .slice none 0 0, .slice none 0 0] 28 : Obj)
      have Z0 := blk_new wa (.cells #[.int .i64 0, .int .i64 0, .int .i64 0, .slice none 0 0, .slice none 0 0, .slice none 0 0] 28 : Obj)
      rw [hs8] at Z0
      have Z := Aside0.mk Z0
      replace T := Aside0.mk (below_then T.out T.out.size hal)
      replace G := Aside0.mk (blk_below G.out hal)
      replace B := Aside0.mk (blk_below B.out hal)
      clear hal Z0 hs8
      generalize hb8 : w2.heap.size = b8 at HB8 Z ⊢
      generalize World.alloc wa _ = wz at T G Z B ⊢
      clear hb8
      replace T := Aside0.mk (below_drew T.out)
      replace G := Aside0.mk (blk_below G.out (below_drew (Below.refl _ wz)))
      replace Z := Aside0.mk (blk_below Z.out (below_drew (Below.refl _ wz)))
      replace B := Aside0.mk (blk_below B.out (below_drew (Below.refl _ wz)))
      refine start_ (n := 7) (S := fun w' => True) (ds := []) #[false, false, false, false, false, false, false] (by kernel_rfl) rfl rfl trivial (fun hHeld => ?_)
      refine with_tabW dec62.tab7 dec62.bits7 (fun HT_ HW_ => ?_)
      generalize hwd : wz.drew = wy at T G Z B ⊢
      clear hwd
      refine pure_ (i := 1) (N := some 38) (v := ?_) (a' := ?_) #[false, true, false, false, false, false, false] rfl rfl (any_of HT_.out (by kernel_rfl)) (fun _ _ _ h => h) (Or.inl ⟨by rfl, ?_⟩) ?_ ?_
      rotate_left
      · intro w'
        go_simp
        with_reducible rfl
      rotate_left
      · simp only [Act.put, List.setIfInBounds_toArray, List.set_cons_zero, List.set_cons_succ, i64_w, i32_w]
        rfl
      refine pure_ (i := 2) (N := some 39) (v := ?_) (a' := ?_) #[false, true, true, false, false, false, false] rfl rfl (any_of HT_.out (by kernel_rfl)) (fun _ _ _ h => h) (Or.inl ⟨by rfl, ?_⟩) ?_ ?_
      rotate_left
      · intro w'
        go_simp
        with_reducible rfl
      rotate_left
      · simp only [Act.put, List.setIfInBounds_toArray, List.set_cons_zero, List.set_cons_succ, i64_w, i32_w]
        rfl
      refine pure_ (i := 3) (N := some 40) (v := ?_) (a' := ?_) #[false, true, true, true, false, false, false] rfl rfl (any_of HT_.out (by kernel_rfl)) (fun _ _ _ h => h) (Or.inl ⟨by rfl, ?_⟩) ?_ ?_
      rotate_left
      · intro w'
        go_simp
        with_reducible rfl
      rotate_left
      · simp only [Act.put, List.setIfInBounds_toArray, List.set_cons_zero, List.set_cons_succ, i64_w, i32_w]
        rfl
      refine inv_at [0, 4, 5, 6] (fun a0_ b a w' => a = putSel a0_ b [(0, 37, .agg #[.int .i64 0, .int .i64 0, .int .i64 0, .slice none 0 0, .slice none 0 0, .slice none 0 0]), (4, 41, .int .i64 7), (6, 5, .int .i64 7)] ∧ (Below w.heap.size w w') ∧ (w'.heap[g]? = some (.cells #[.slice AL l.length cL, .int .i64 7] 121 (0, 0))) ∧ (w'.heap[b8]? = some (.cells #[.int .i64 0, .int .i64 0, .int .i64 0, .slice none 0 0, .slice none 0 0, .slice none 0 0] 28 : Obj)) ∧ (b 5 = false → w'.heap[w.heap.size]? = some (.cells #[.int .i64 0, .int .i64 0, .int .i64 0, .slice none 0 0, .slice none 0 0, .slice none 0 0] 28 : Obj)) ∧ (b 5 = true → w'.heap[w.heap.size]? = some (.cells #[.int .i64 0, .int .i64 0, .int .i64 0, .slice none 0 0, .slice none 0 0, .slice none 0 0] 28 : Obj))) HT_.out HW_.out (by kernel_rfl) (by kernel_rfl) ?_ ?_ ?_
      · exact ⟨by simp only [putSel, Bool.false_eq_true, if_false], T.out, G.out, Z.out, fun _ => B.out, fun h_ => absurd h_ (by decide)⟩
      · skip
        clear B G T Z
        refine steps_cons ?_ ?_
        · rintro b a w' ⟨ha, Q_T, Q_G, Q_Z, Q_B, Q_F⟩ hb_ hon hoff
          refine ⟨_, rfl, fun K hK => ?_⟩
          have e8 : a.tmps[8]? = some (.pointer (some ⟨b8, 0, none⟩)) := by rw [ha]; exact (putSel_off rfl).trans rfl
          replace ha := Aside0.mk ha
          have T := Aside0.mk Q_T
          have G := Aside0.mk Q_G
          have Z := Aside0.mk Q_Z
          have B := Aside0.mk (Q_B (hoff 5 (by kernel_rfl)))
          have y0 := blk_cell Z.out 0
          have y1 := blk_cell Z.out 1
          have y2 := blk_cell Z.out 2
          have y3 := blk_cell Z.out 3
          have y4 := blk_cell Z.out 4
          have y5 := blk_cell Z.out 5
          refine value_ (w1 := w') (v := .agg #[.int .i64 0, .int .i64 0, .int .i64 0, .slice none 0 0, .slice none 0 0, .slice none 0 0]) (by rfl) rfl ?_ ?_
          · go_simp
            (try simp only [i64_w, IntKind.wrap_u32])
            try first | rfl | omega
          refine hK.out _ _ ⟨(by rw [ha.out]; exact putSel_upk 0 hb_ rfl rfl rfl), Q_T, Q_G, Q_Z, Q_B, fun h0_ => absurd ((hoff 5 (by kernel_rfl)).symm.trans h0_) (by decide)⟩
        refine steps_cons ?_ ?_
        · rintro b a w' ⟨ha, Q_T, Q_G, Q_Z, Q_B, Q_F⟩ hb_ hon hoff
          refine ⟨_, rfl, fun K hK => ?_⟩
          have e40 : a.tmps[40]? = some (.pointer (some ⟨g, 1, none⟩)) := by rw [ha]; exact (putSel_off rfl).trans rfl
          replace ha := Aside0.mk ha
          have T := Aside0.mk Q_T
          have G := Aside0.mk Q_G
          have Z := Aside0.mk Q_Z
          have z1 := blk_cell G.out 1
          refine value_ (w1 := w') (v := .int .i64 7) (by rfl) rfl ?_ ?_
          · go_simp
            (try simp only [i64_w, IntKind.wrap_u32])
            try first | rfl | omega
          refine hK.out _ _ ⟨(by rw [ha.out]; exact putSel_upk 1 hb_ rfl rfl rfl), Q_T, Q_G, Q_Z, Q_B, Q_F⟩
        refine steps_cons ?_ ?_
        · rintro b a w' ⟨ha, Q_T, Q_G, Q_Z, Q_B, Q_F⟩ hb_ hon hoff
          refine ⟨_, rfl, fun K hK => ?_⟩
          have e4 : a.tmps[4]? = some (.pointer (some ⟨w.heap.size, 0, none⟩)) := by rw [ha]; exact (putSel_off rfl).trans rfl
          have e37 : a.tmps[37]? = some (.agg #[.int .i64 0, .int .i64 0, .int .i64 0, .slice none 0 0, .slice none 0 0, .slice none 0 0]) := by rw [ha]; exact putSel_on (e := (0, 37, .agg #[.int .i64 0, .int .i64 0, .int .i64 0, .slice none 0 0, .slice none 0 0, .slice none 0 0])) 0 rfl rfl (hon 0 (by kernel_rfl)) rfl
          replace ha := Aside0.mk ha
          have T := Aside0.mk Q_T
          have G := Aside0.mk Q_G
          have Z := Aside0.mk Q_Z
          have B := Aside0.mk (Q_B hb_)
          have z0 := blk_cell B.out 0
          have z1 := blk_cell B.out 1
          have z2 := blk_cell B.out 2
          have z3 := blk_cell B.out 3
          have z4 := blk_cell B.out 4
          have z5 := blk_cell B.out 5
          have zf := blk_frozen B.out
          refine skip_ (w1 := ?_) (by rfl) rfl ?_ ?_
          rotate_left
          · go_simp
            rfl
          refine hK.out _ _ ⟨(by rw [ha.out]; exact putSel_none (v := undef) rfl), below_set (below_set (below_set (below_set (below_set (below_set (T.out) (Nat.le_refl _)) (Nat.le_refl _)) (Nat.le_refl _)) (Nat.le_refl _)) (Nat.le_refl _)) (Nat.le_refl _), blk_far (blk_far (blk_far (blk_far (blk_far (blk_far (G.out) (by have := HG.out; show g ≠ w.heap.size; omega) _) (by have := HG.out; show g ≠ w.heap.size; omega) _) (by have := HG.out; show g ≠ w.heap.size; omega) _) (by have := HG.out; show g ≠ w.heap.size; omega) _) (by have := HG.out; show g ≠ w.heap.size; omega) _) (by have := HG.out; show g ≠ w.heap.size; omega) _, blk_far (blk_far (blk_far (blk_far (blk_far (blk_far (Z.out) (by have := HB8.out; show b8 ≠ w.heap.size; omega) _) (by have := HB8.out; show b8 ≠ w.heap.size; omega) _) (by have := HB8.out; show b8 ≠ w.heap.size; omega) _) (by have := HB8.out; show b8 ≠ w.heap.size; omega) _) (by have := HB8.out; show b8 ≠ w.heap.size; omega) _) (by have := HB8.out; show b8 ≠ w.heap.size; omega) _, fun h0_ => absurd ((up_self b 5).symm.trans h0_) (by decide), fun _ => blk_put (blk_put (blk_put (blk_put (blk_put (blk_put (B.out) 0 _ rfl) 1 _ rfl) 2 _ rfl) 3 _ rfl) 4 _ rfl) 5 _ rfl⟩
        refine steps_cons ?_ ?_
        · rintro b a w' ⟨ha, Q_T, Q_G, Q_Z, Q_B, Q_F⟩ hb_ hon hoff
          refine ⟨_, rfl, fun K hK => ?_⟩
          have e41 : a.tmps[41]? = some (.int .i64 7) := by rw [ha]; exact putSel_on (e := (4, 41, .int .i64 7)) 1 rfl rfl (hon 4 (by kernel_rfl)) rfl
          replace ha := Aside0.mk ha
          have T := Aside0.mk Q_T
          have G := Aside0.mk Q_G
          have Z := Aside0.mk Q_Z
          have F := Aside0.mk (Q_F (hon 5 (by kernel_rfl)))
          refine value_ (w1 := w') (v := .int .i64 7) (by rfl) rfl ?_ ?_
          · go_simp
            (try simp only [i64_w, IntKind.wrap_u32])
            try first | rfl | omega
          refine hK.out _ _ ⟨(by rw [ha.out]; exact putSel_upk 2 hb_ rfl rfl rfl), Q_T, Q_G, Q_Z, fun h0_ => absurd ((hon 5 (by kernel_rfl)).symm.trans h0_) (by decide), Q_F⟩
        exact steps_nil
      rintro b a w9 hall ⟨ha, Q_T, Q_G, Q_Z, Q_B, Q_F⟩
      clear B G T Z
      have hb0_ := hall 0 (by kernel_rfl)
      have hb4_ := hall 4 (by kernel_rfl)
      have hb5_ := hall 5 (by kernel_rfl)
      have hb6_ := hall 6 (by kernel_rfl)
      subst ha
      simp only [putSel, hb0_, hb4_, hb5_, hb6_, if_true, Act.put, List.setIfInBounds_toArray, List.set_cons_zero, List.set_cons_succ]
      have T := Aside0.mk Q_T
      clear Q_T
      have G := Aside0.mk Q_G
      clear Q_G
      have Z := Aside0.mk Q_Z
      clear Q_Z
      clear Q_B
      have F := Aside0.mk (Q_F hb5_)
      clear Q_F
      clear hall hb0_ hb4_ hb5_ hb6_
      go_wp2_with (fail)
      refine bodyPost_ret (results_ct rfl _ _ w.heap.size 28 _ (0, 0) _ rfl F.out Tryd.underlying28 rfl (by kernel_rfl)) rfl ?_
      rw [HEND.out]
      exact ⟨_, _, _, rfl, Kd.R_nil _ _ _ _ _, Kd.R_nil _ _ _ _ _, Kd.R_nil _ _ _ _ _, T.out⟩
    · have hl0 : l = [] := List.eq_nil_of_length_eq_zero (by omega)
      subst hl0
      have HEND := Aside0.mk (show endP z28 x [] 0 = (x, 0) from rfl)
      have y0 := blk_cell C.out 0
      have x0 := blk_cell B.out 0
      have y1 := blk_cell C.out 1
      have x1 := blk_cell B.out 1
      have y2 := blk_cell C.out 2
      have x2 := blk_cell B.out 2
      have y3 := blk_cell C.out 3
      have x3 := blk_cell B.out 3
      have y4 := blk_cell C.out 4
      have x4 := blk_cell B.out 4
      have y5 := blk_cell C.out 5
      have x5 := blk_cell B.out 5
      have xf := blk_frozen B.out
      go_wp2_with (fail)
      refine bodyPost_ret (results_ct rfl _ _ w.heap.size 28 _ (0, 0) _ rfl (blk_put (blk_put (blk_put (blk_put (blk_put (blk_put (B.out) 0 _ rfl) 1 _ rfl) 2 _ rfl) 3 _ rfl) 4 _ rfl) 5 _ rfl) Tryd.underlying28 rfl (by kernel_rfl)) rfl ?_
      rw [HEND.out]
      exact ⟨_, _, _, rfl, R_out (R_far (R_far (R_far (R_far (R_far (R_far (R3.out) (by show w.heap.size < _; omega) _) (by show w.heap.size < _; omega) _) (by show w.heap.size < _; omega) _) (by show w.heap.size < _; omega) _) (by show w.heap.size < _; omega) _) (by show w.heap.size < _; omega) _) (by omega), R_out (R_far (R_far (R_far (R_far (R_far (R_far (R4.out) (by show w.heap.size < _; omega) _) (by show w.heap.size < _; omega) _) (by show w.heap.size < _; omega) _) (by show w.heap.size < _; omega) _) (by show w.heap.size < _; omega) _) (by show w.heap.size < _; omega) _) (by omega), R_out (R_far (R_far (R_far (R_far (R_far (R_far (R5.out) (by show w.heap.size < _; omega) _) (by show w.heap.size < _; omega) _) (by show w.heap.size < _; omega) _) (by show w.heap.size < _; omega) _) (by show w.heap.size < _; omega) _) (by show w.heap.size < _; omega) _) (by omega), below_set (below_set (below_set (below_set (below_set (below_set (T.out) (Nat.le_refl _)) (Nat.le_refl _)) (Nat.le_refl _)) (Nat.le_refl _)) (Nat.le_refl _)) (Nat.le_refl _)⟩
  · have HEND := Aside0.mk (show endP z28 x l e = (z28, e) from by rw [endP, if_neg he])
    go_upto_region 7 with (fail)
    have hs8 : w2.heap.size = w2.heap.size := rfl
    clear C R3 R4 R5 z0 z1 zf
    generalize w2 = wa at T G B hs8 ⊢
    have HB8 := Aside0.mk (show w.heap.size < wa.heap.size by rw [← hs8]; exact blk_lt B.out)
    have hal := below_alloc (Below.refl _ wa) (.cells #[.int .i64 0, .int .i64 0, .int .i64 0, .slice none 0 0, .slice none 0 0, .slice none 0 0] 28 : Obj)
    have Z0 := blk_new wa (.cells #[.int .i64 0, .int .i64 0, .int .i64 0, .slice none 0 0, .slice none 0 0, .slice none 0 0] 28 : Obj)
    have Z := Aside0.mk Z0
    replace T := Aside0.mk (below_then T.out T.out.size hal)
    replace G := Aside0.mk (blk_below G.out hal)
    replace B := Aside0.mk (blk_below B.out hal)
    clear hal Z0 hs8
    generalize hb8 : wa.heap.size = b8 at HB8 Z ⊢
    generalize World.alloc wa _ = wz at T G Z B ⊢
    clear hb8
    replace T := Aside0.mk (below_drew T.out)
    replace G := Aside0.mk (blk_below G.out (below_drew (Below.refl _ wz)))
    replace Z := Aside0.mk (blk_below Z.out (below_drew (Below.refl _ wz)))
    replace B := Aside0.mk (blk_below B.out (below_drew (Below.refl _ wz)))
    refine start_ (n := 7) (S := fun w' => True) (ds := []) #[false, false, false, false, false, false, false] (by kernel_rfl) rfl rfl trivial (fun hHeld => ?_)
    refine with_tabW dec62.tab7 dec62.bits7 (fun HT_ HW_ => ?_)
    generalize hwd : wz.drew = wy at T G Z B ⊢
    clear hwd
    refine pure_ (i := 1) (N := some 38) (v := ?_) (a' := ?_) #[false, true, false, false, false, false, false] rfl rfl (any_of HT_.out (by kernel_rfl)) (fun _ _ _ h => h) (Or.inl ⟨by rfl, ?_⟩) ?_ ?_
    rotate_left
    · intro w'
      go_simp
      with_reducible rfl
    rotate_left
    · simp only [Act.put, List.setIfInBounds_toArray, List.set_cons_zero, List.set_cons_succ, i64_w, i32_w]
      rfl
    refine pure_ (i := 2) (N := some 39) (v := ?_) (a' := ?_) #[false, true, true, false, false, false, false] rfl rfl (any_of HT_.out (by kernel_rfl)) (fun _ _ _ h => h) (Or.inl ⟨by rfl, ?_⟩) ?_ ?_
    rotate_left
    · intro w'
      go_simp
      with_reducible rfl
    rotate_left
    · simp only [Act.put, List.setIfInBounds_toArray, List.set_cons_zero, List.set_cons_succ, i64_w, i32_w]
      rfl
    refine pure_ (i := 3) (N := some 40) (v := ?_) (a' := ?_) #[false, true, true, true, false, false, false] rfl rfl (any_of HT_.out (by kernel_rfl)) (fun _ _ _ h => h) (Or.inl ⟨by rfl, ?_⟩) ?_ ?_
    rotate_left
    · intro w'
      go_simp
      with_reducible rfl
    rotate_left
    · simp only [Act.put, List.setIfInBounds_toArray, List.set_cons_zero, List.set_cons_succ, i64_w, i32_w]
      rfl
    refine inv_at [0, 4, 5, 6] (fun a0_ b a w' => a = putSel a0_ b [(0, 37, .agg #[.int .i64 0, .int .i64 0, .int .i64 0, .slice none 0 0, .slice none 0 0, .slice none 0 0]), (4, 41, .int .i64 e), (6, 5, .int .i64 e)] ∧ (Below w.heap.size w w') ∧ (w'.heap[g]? = some (.cells #[.slice AL l.length cL, .int .i64 e] 121 (0, 0))) ∧ (w'.heap[b8]? = some (.cells #[.int .i64 0, .int .i64 0, .int .i64 0, .slice none 0 0, .slice none 0 0, .slice none 0 0] 28 : Obj)) ∧ (b 5 = false → w'.heap[w.heap.size]? = some (.cells #[.int .i64 0, .int .i64 0, .int .i64 0, .slice none 0 0, .slice none 0 0, .slice none 0 0] 28 : Obj)) ∧ (b 5 = true → w'.heap[w.heap.size]? = some (.cells #[.int .i64 0, .int .i64 0, .int .i64 0, .slice none 0 0, .slice none 0 0, .slice none 0 0] 28 : Obj))) HT_.out HW_.out (by kernel_rfl) (by kernel_rfl) ?_ ?_ ?_
    · exact ⟨by simp only [putSel, Bool.false_eq_true, if_false], T.out, G.out, Z.out, fun _ => B.out, fun h_ => absurd h_ (by decide)⟩
    · skip
      clear B G T Z
      refine steps_cons ?_ ?_
      · rintro b a w' ⟨ha, Q_T, Q_G, Q_Z, Q_B, Q_F⟩ hb_ hon hoff
        refine ⟨_, rfl, fun K hK => ?_⟩
        have e8 : a.tmps[8]? = some (.pointer (some ⟨b8, 0, none⟩)) := by rw [ha]; exact (putSel_off rfl).trans rfl
        replace ha := Aside0.mk ha
        have T := Aside0.mk Q_T
        have G := Aside0.mk Q_G
        have Z := Aside0.mk Q_Z
        have B := Aside0.mk (Q_B (hoff 5 (by kernel_rfl)))
        have y0 := blk_cell Z.out 0
        have y1 := blk_cell Z.out 1
        have y2 := blk_cell Z.out 2
        have y3 := blk_cell Z.out 3
        have y4 := blk_cell Z.out 4
        have y5 := blk_cell Z.out 5
        refine value_ (w1 := w') (v := .agg #[.int .i64 0, .int .i64 0, .int .i64 0, .slice none 0 0, .slice none 0 0, .slice none 0 0]) (by rfl) rfl ?_ ?_
        · go_simp
          (try simp only [i64_w, IntKind.wrap_u32])
          try first | rfl | omega
        refine hK.out _ _ ⟨(by rw [ha.out]; exact putSel_upk 0 hb_ rfl rfl rfl), Q_T, Q_G, Q_Z, Q_B, fun h0_ => absurd ((hoff 5 (by kernel_rfl)).symm.trans h0_) (by decide)⟩
      refine steps_cons ?_ ?_
      · rintro b a w' ⟨ha, Q_T, Q_G, Q_Z, Q_B, Q_F⟩ hb_ hon hoff
        refine ⟨_, rfl, fun K hK => ?_⟩
        have e40 : a.tmps[40]? = some (.pointer (some ⟨g, 1, none⟩)) := by rw [ha]; exact (putSel_off rfl).trans rfl
        replace ha := Aside0.mk ha
        have T := Aside0.mk Q_T
        have G := Aside0.mk Q_G
        have Z := Aside0.mk Q_Z
        have z1 := blk_cell G.out 1
        refine value_ (w1 := w') (v := .int .i64 e) (by rfl) rfl ?_ ?_
        · go_simp
          (try simp only [i64_w, IntKind.wrap_u32])
          try first | rfl | omega
        refine hK.out _ _ ⟨(by rw [ha.out]; exact putSel_upk 1 hb_ rfl rfl rfl), Q_T, Q_G, Q_Z, Q_B, Q_F⟩
      refine steps_cons ?_ ?_
      · rintro b a w' ⟨ha, Q_T, Q_G, Q_Z, Q_B, Q_F⟩ hb_ hon hoff
        refine ⟨_, rfl, fun K hK => ?_⟩
        have e4 : a.tmps[4]? = some (.pointer (some ⟨w.heap.size, 0, none⟩)) := by rw [ha]; exact (putSel_off rfl).trans rfl
        have e37 : a.tmps[37]? = some (.agg #[.int .i64 0, .int .i64 0, .int .i64 0, .slice none 0 0, .slice none 0 0, .slice none 0 0]) := by rw [ha]; exact putSel_on (e := (0, 37, .agg #[.int .i64 0, .int .i64 0, .int .i64 0, .slice none 0 0, .slice none 0 0, .slice none 0 0])) 0 rfl rfl (hon 0 (by kernel_rfl)) rfl
        replace ha := Aside0.mk ha
        have T := Aside0.mk Q_T
        have G := Aside0.mk Q_G
        have Z := Aside0.mk Q_Z
        have B := Aside0.mk (Q_B hb_)
        have z0 := blk_cell B.out 0
        have z1 := blk_cell B.out 1
        have z2 := blk_cell B.out 2
        have z3 := blk_cell B.out 3
        have z4 := blk_cell B.out 4
        have z5 := blk_cell B.out 5
        have zf := blk_frozen B.out
        refine skip_ (w1 := ?_) (by rfl) rfl ?_ ?_
        rotate_left
        · go_simp
          rfl
        refine hK.out _ _ ⟨(by rw [ha.out]; exact putSel_none (v := undef) rfl), below_set (below_set (below_set (below_set (below_set (below_set (T.out) (Nat.le_refl _)) (Nat.le_refl _)) (Nat.le_refl _)) (Nat.le_refl _)) (Nat.le_refl _)) (Nat.le_refl _), blk_far (blk_far (blk_far (blk_far (blk_far (blk_far (G.out) (by have := HG.out; show g ≠ w.heap.size; omega) _) (by have := HG.out; show g ≠ w.heap.size; omega) _) (by have := HG.out; show g ≠ w.heap.size; omega) _) (by have := HG.out; show g ≠ w.heap.size; omega) _) (by have := HG.out; show g ≠ w.heap.size; omega) _) (by have := HG.out; show g ≠ w.heap.size; omega) _, blk_far (blk_far (blk_far (blk_far (blk_far (blk_far (Z.out) (by have := HB8.out; show b8 ≠ w.heap.size; omega) _) (by have := HB8.out; show b8 ≠ w.heap.size; omega) _) (by have := HB8.out; show b8 ≠ w.heap.size; omega) _) (by have := HB8.out; show b8 ≠ w.heap.size; omega) _) (by have := HB8.out; show b8 ≠ w.heap.size; omega) _) (by have := HB8.out; show b8 ≠ w.heap.size; omega) _, fun h0_ => absurd ((up_self b 5).symm.trans h0_) (by decide), fun _ => blk_put (blk_put (blk_put (blk_put (blk_put (blk_put (B.out) 0 _ rfl) 1 _ rfl) 2 _ rfl) 3 _ rfl) 4 _ rfl) 5 _ rfl⟩
      refine steps_cons ?_ ?_
      · rintro b a w' ⟨ha, Q_T, Q_G, Q_Z, Q_B, Q_F⟩ hb_ hon hoff
        refine ⟨_, rfl, fun K hK => ?_⟩
        have e41 : a.tmps[41]? = some (.int .i64 e) := by rw [ha]; exact putSel_on (e := (4, 41, .int .i64 e)) 1 rfl rfl (hon 4 (by kernel_rfl)) rfl
        replace ha := Aside0.mk ha
        have T := Aside0.mk Q_T
        have G := Aside0.mk Q_G
        have Z := Aside0.mk Q_Z
        have F := Aside0.mk (Q_F (hon 5 (by kernel_rfl)))
        refine value_ (w1 := w') (v := .int .i64 e) (by rfl) rfl ?_ ?_
        · go_simp
          (try simp only [i64_w, IntKind.wrap_u32])
          try first | rfl | omega
        refine hK.out _ _ ⟨(by rw [ha.out]; exact putSel_upk 2 hb_ rfl rfl rfl), Q_T, Q_G, Q_Z, fun h0_ => absurd ((hon 5 (by kernel_rfl)).symm.trans h0_) (by decide), Q_F⟩
      exact steps_nil
    rintro b a w9 hall ⟨ha, Q_T, Q_G, Q_Z, Q_B, Q_F⟩
    clear B G T Z
    have hb0_ := hall 0 (by kernel_rfl)
    have hb4_ := hall 4 (by kernel_rfl)
    have hb5_ := hall 5 (by kernel_rfl)
    have hb6_ := hall 6 (by kernel_rfl)
    subst ha
    simp only [putSel, hb0_, hb4_, hb5_, hb6_, if_true, Act.put, List.setIfInBounds_toArray, List.set_cons_zero, List.set_cons_succ]
    have T := Aside0.mk Q_T
    clear Q_T
    have G := Aside0.mk Q_G
    clear Q_G
    have Z := Aside0.mk Q_Z
    clear Q_Z
    clear Q_B
    have F := Aside0.mk (Q_F hb5_)
    clear Q_F
    clear hall hb0_ hb4_ hb5_ hb6_
    go_wp2_with (fail)
    refine bodyPost_ret (results_ct rfl _ _ w.heap.size 28 _ (0, 0) _ rfl F.out Tryd.underlying28 rfl (by kernel_rfl)) rfl ?_
    rw [HEND.out]
    exact ⟨_, _, _, rfl, Kd.R_nil _ _ _ _ _, Kd.R_nil _ _ _ _ _, Kd.R_nil _ _ _ _ _, T.out⟩
def dec67.T7 : Bool × List (List Nat × List Nat) := (true, [([], []), ([], []), ([1], [1]), ([2], [2]), ([3], [3]), ([0, 0], [0]), ([4, 5, 0, 1, 2, 3, 4, 5], [4])])
def dec67.B7 : List Nat := [0, 0, 2, 6, 14, 1, 63]
theorem dec67.tab7 : rtab .any (opsOf Tryd.f67 7) = dec67.T7 := by kernel_rfl
theorem dec67.bits7 : waitsOk dec67.T7.2 dec67.B7 = true := by kernel_rfl
set_option maxRecDepth 100000 in
set_option maxHeartbeats 1000000 in
theorem decode_rot_calls (k : Nat) (s : ByteArray) (x : S32) (l : List Int) (e : Int) (w : World) (hs : s.size < 140737488355328) (h : rotP k (bytesOf s) 0 = some (x, l, e)) :
    Calls Tryd.prog 67 #[.string s, .func (.func 68) #[] #[]] w fun o w' => ∃ v3 v4 : Value, o = .returned (.tuple #[.agg #[.int .i64 (endP z32 x l e).1.f0.f0, .int .i64 (endP z32 x l e).1.f0.f1, .int .i64 (endP z32 x l e).1.f0.f2, v3, v4], .int .i64 (endP z32 x l e).2]) ∧ Kd.R k38 38 w' w.heap.size (fun k => True) v3 (endP z32 x l e).1.f0.f3 ∧ Kd.R k72 72 w' w.heap.size (fun k => some k ≠ v3.ownBlock) v4 (endP z32 x l e).1.f1 ∧ Below w.heap.size w w' := by
  have H := Aside0.mk h
  have HDN := Aside0.mk (dec_new (W := w.alloc (.cells #[.int .i64 0, .int .i64 0, .int .i64 0, .slice none 0 0, .slice none 0 0] 32 : Obj)) s hs (World.size_alloc _ _))
  have kb := fun W => print_bytes (P := Tryd.prog) 9 74 5 Tryd.underlying9 Tryd.underlying74 Tryd.underlying5 s W
  have hbw : Below w.heap.size w (Lib.bytesWorld (w.alloc (.cells #[.int .i64 0, .int .i64 0, .int .i64 0, .slice none 0 0, .slice none 0 0] 32 : Obj)) 5 s) := bytes_below (below_alloc (Below.refl _ w) _) (by rw [World.size_alloc]; omega) 5 s
  have HBB := Aside0.mk (show Below w.heap.size w ((Lib.bytesWorld (w.alloc (.cells #[.int .i64 0, .int .i64 0, .int .i64 0, .slice none 0 0, .slice none 0 0] 32 : Obj)) 5 s).alloc (.cells #[.slice (some ⟨w.heap.size + 1, 0, none⟩) s.size (grownCap (w.alloc (.cells #[.int .i64 0, .int .i64 0, .int .i64 0, .slice none 0 0, .slice none 0 0] 32 : Obj)) s.size 0 5), .int .i64 0] 121)) from below_then hbw hbw.size (below_alloc (Below.refl _ _) _))
  have HB0 := Aside0.mk (show (Lib.bytesWorld (w.alloc (.cells #[.int .i64 0, .int .i64 0, .int .i64 0, .slice none 0 0, .slice none 0 0] 32 : Obj)) 5 s).heap[w.heap.size]? = some (.cells #[.int .i64 0, .int .i64 0, .int .i64 0, .slice none 0 0, .slice none 0 0] 32 : Obj) from blk_below (blk_new w _) (bytes_below (Below.refl _ _) (Nat.le_refl _) 5 s))
  clear h hbw
  go_enter Tryd.func67, Tryd.ntmps67
  go_wp2_with (fail)
  clear kb
  have B0 := blk_alloc HB0.out (.cells #[.slice (some ⟨w.heap.size + 1, 0, none⟩) s.size (grownCap (w.alloc (.cells #[.int .i64 0, .int .i64 0, .int .i64 0, .slice none 0 0, .slice none 0 0] 32 : Obj)) s.size 0 5), .int .i64 0] 121)
  have HGL := Aside0.mk (blk_lt HB0.out)
  generalize hgg : (Lib.bytesWorld (w.alloc (.cells #[.int .i64 0, .int .i64 0, .int .i64 0, .slice none 0 0, .slice none 0 0] 32 : Obj)) 5 s).heap.size = g at HDN HGL ⊢
  clear HB0 hgg
  generalize World.alloc _ _ = w0 at HDN HBB B0 ⊢
  refine (rot_calls k g (bytesOf s) l 0 e x w0 HDN.out H.out).mono ?_
  rintro e_ w1 ⟨v3, v4, rfl, hR3, hR4, hd, ht⟩
  have hglt := HDN.out.lt
  have HG := Aside0.mk HGL.out
  have hsz0 := ht.size
  have hsz1 := HBB.out.size
  obtain ⟨AL, cL, hG, -, -, -⟩ := hd
  have hal := below_alloc (Below.refl _ w1) (.cells #[.int .i64 x.f0.f0, .int .i64 x.f0.f1, .int .i64 x.f0.f2, v3, v4] 32)
  have hdt : DecTo w1 (w1.alloc (.cells #[.int .i64 x.f0.f0, .int .i64 x.f0.f1, .int .i64 x.f0.f2, v3, v4] 32)) g := DecTo.of_below hal (by omega)
  have T := Aside0.mk (HBB.out.trans ((ht.trans hdt).1.mono (Nat.le_of_lt HG.out)))
  have B := Aside0.mk (blk_below (ht.blk B0 (by have := HG.out; omega)) hal)
  have G := Aside0.mk (blk_below hG hal)
  have C := Aside0.mk (blk_new w1 (.cells #[.int .i64 x.f0.f0, .int .i64 x.f0.f1, .int .i64 x.f0.f2, v3, v4] 32))
  have HB7 := Aside0.mk (show w.heap.size < w1.heap.size from blk_lt (ht.blk B0 (by have := HG.out; omega)))
  have R3 := Aside0.mk (R_out (R_dec hR3 (by have := HG.out; omega) hdt) (by have := HG.out; omega : w.heap.size + 1 ≤ w0.heap.size))
  have R4 := Aside0.mk (R_out (R_dec hR4 (by have := HG.out; omega) hdt) (by have := HG.out; omega : w.heap.size + 1 ≤ w0.heap.size))
  obtain ⟨A3, c3, rfl⟩ := Kd.R_slice hR3
  obtain ⟨A4, c4, rfl⟩ := Kd.R_slice hR4
  clear hR3 hR4 hal hdt hG ht HDN HBB B0 HGL hsz0 hsz1 hglt H
  go_upto_region 3 with (fail)
  generalize hb7 : w1.heap.size = b7 at C HB7 ⊢
  generalize World.alloc w1 _ = w2 at T G B C R3 R4 ⊢
  clear hb7
  have z0 := blk_cell G.out 0
  have z1 := blk_cell G.out 1
  have zf := blk_frozen G.out
  by_cases he : e = 0
  · subst he
    by_cases hl : 0 < l.length
    · have HEND := Aside0.mk (show endP z32 x l 0 = (z32, 7) from by rw [endP, if_pos rfl, if_pos hl])
      replace G := Aside0.mk (blk_put G.out 1 (.int .i64 7) rfl)
      replace T := Aside0.mk (below_set (j := 1) (v := .int .i64 7) T.out (Nat.le_of_lt HG.out))
      replace B := Aside0.mk (blk_far B.out (p := ⟨g, 1, none⟩) (by have := HG.out; show w.heap.size ≠ g; omega) (.int .i64 7))
      go_upto_region 7 with (fail)
      have hs8 : (w2.setCell ⟨g, 1, none⟩ (.int .i64 7)).heap.size = w2.heap.size := by simp [World.setCell]
      clear C R3 R4 z0 z1 zf
      generalize World.setCell w2 _ _ = wa at T G B hs8 ⊢
      have HB8 := Aside0.mk (show w.heap.size < w2.heap.size by rw [← hs8]; exact blk_lt B.out)
      have hal := below_alloc (Below.refl _ wa) (.cells #[.int .i64 0, .int .i64 0, .int .i64 0, .slice none 0 0, .slice none 0 0] 32 : Obj)
      have Z0 := blk_new wa (.cells #[.int .i64 0, .int .i64 0, .int .i64 0, .slice none 0 0, .slice none 0 0] 32 : Obj)
      rw [hs8] at Z0
      have Z := Aside0.mk Z0
      replace T := Aside0.mk (below_then T.out T.out.size hal)
      replace G := Aside0.mk (blk_below G.out hal)
      replace B := Aside0.mk (blk_below B.out hal)
      clear hal Z0 hs8
      generalize hb8 : w2.heap.size = b8 at HB8 Z ⊢
      generalize World.alloc wa _ = wz at T G Z B ⊢
      clear hb8
      replace T := Aside0.mk (below_drew T.out)
      replace G := Aside0.mk (blk_below G.out (below_drew (Below.refl _ wz)))
      replace Z := Aside0.mk (blk_below Z.out (below_drew (Below.refl _ wz)))
      replace B := Aside0.mk (blk_below B.out (below_drew (Below.refl _ wz)))
      refine start_ (n := 7) (S := fun w' => True) (ds := []) #[false, false, false, false, false, false, false] (by kernel_rfl) rfl rfl trivial (fun hHeld => ?_)
      refine with_tabW dec67.tab7 dec67.bits7 (fun HT_ HW_ => ?_)
      generalize hwd : wz.drew = wy at T G Z B ⊢
      clear hwd
      refine pure_ (i := 1) (N := some 38) (v := ?_) (a' := ?_) #[false, true, false, false, false, false, false] rfl rfl (any_of HT_.out (by kernel_rfl)) (fun _ _ _ h => h) (Or.inl ⟨by rfl, ?_⟩) ?_ ?_
      rotate_left
      · intro w'
        go_simp
        with_reducible rfl
      rotate_left
      · simp only [Act.put, List.setIfInBounds_toArray, List.set_cons_zero, List.set_cons_succ, i64_w, i32_w]
        rfl
      refine pure_ (i := 2) (N := some 39) (v := ?_) (a' := ?_) #[false, true, true, false, false, false, false] rfl rfl (any_of HT_.out (by kernel_rfl)) (fun _ _ _ h => h) (Or.inl ⟨by rfl, ?_⟩) ?_ ?_
      rotate_left
      · intro w'
        go_simp
        with_reducible rfl
      rotate_left
      · simp only [Act.put, List.setIfInBounds_toArray, List.set_cons_zero, List.set_cons_succ, i64_w, i32_w]
        rfl
      refine pure_ (i := 3) (N := some 40) (v := ?_) (a' := ?_) #[false, true, true, true, false, false, false] rfl rfl (any_of HT_.out (by kernel_rfl)) (fun _ _ _ h => h) (Or.inl ⟨by rfl, ?_⟩) ?_ ?_
      rotate_left
      · intro w'
        go_simp
        with_reducible rfl
      rotate_left
      · simp only [Act.put, List.setIfInBounds_toArray, List.set_cons_zero, List.set_cons_succ, i64_w, i32_w]
        rfl
      refine inv_at [0, 4, 5, 6] (fun a0_ b a w' => a = putSel a0_ b [(0, 37, .agg #[.int .i64 0, .int .i64 0, .int .i64 0, .slice none 0 0, .slice none 0 0]), (4, 41, .int .i64 7), (6, 5, .int .i64 7)] ∧ (Below w.heap.size w w') ∧ (w'.heap[g]? = some (.cells #[.slice AL l.length cL, .int .i64 7] 121 (0, 0))) ∧ (w'.heap[b8]? = some (.cells #[.int .i64 0, .int .i64 0, .int .i64 0, .slice none 0 0, .slice none 0 0] 32 : Obj)) ∧ (b 5 = false → w'.heap[w.heap.size]? = some (.cells #[.int .i64 0, .int .i64 0, .int .i64 0, .slice none 0 0, .slice none 0 0] 32 : Obj)) ∧ (b 5 = true → w'.heap[w.heap.size]? = some (.cells #[.int .i64 0, .int .i64 0, .int .i64 0, .slice none 0 0, .slice none 0 0] 32 : Obj))) HT_.out HW_.out (by kernel_rfl) (by kernel_rfl) ?_ ?_ ?_
      · exact ⟨by simp only [putSel, Bool.false_eq_true, if_false], T.out, G.out, Z.out, fun _ => B.out, fun h_ => absurd h_ (by decide)⟩
      · skip
        clear B G T Z
        refine steps_cons ?_ ?_
        · rintro b a w' ⟨ha, Q_T, Q_G, Q_Z, Q_B, Q_F⟩ hb_ hon hoff
          refine ⟨_, rfl, fun K hK => ?_⟩
          have e8 : a.tmps[8]? = some (.pointer (some ⟨b8, 0, none⟩)) := by rw [ha]; exact (putSel_off rfl).trans rfl
          replace ha := Aside0.mk ha
          have T := Aside0.mk Q_T
          have G := Aside0.mk Q_G
          have Z := Aside0.mk Q_Z
          have B := Aside0.mk (Q_B (hoff 5 (by kernel_rfl)))
          have y0 := blk_cell Z.out 0
          have y1 := blk_cell Z.out 1
          have y2 := blk_cell Z.out 2
          have y3 := blk_cell Z.out 3
          have y4 := blk_cell Z.out 4
          refine value_ (w1 := w') (v := .agg #[.int .i64 0, .int .i64 0, .int .i64 0, .slice none 0 0, .slice none 0 0]) (by rfl) rfl ?_ ?_
          · go_simp
            (try simp only [i64_w, IntKind.wrap_u32])
            try first | rfl | omega
          refine hK.out _ _ ⟨(by rw [ha.out]; exact putSel_upk 0 hb_ rfl rfl rfl), Q_T, Q_G, Q_Z, Q_B, fun h0_ => absurd ((hoff 5 (by kernel_rfl)).symm.trans h0_) (by decide)⟩
        refine steps_cons ?_ ?_
        · rintro b a w' ⟨ha, Q_T, Q_G, Q_Z, Q_B, Q_F⟩ hb_ hon hoff
          refine ⟨_, rfl, fun K hK => ?_⟩
          have e40 : a.tmps[40]? = some (.pointer (some ⟨g, 1, none⟩)) := by rw [ha]; exact (putSel_off rfl).trans rfl
          replace ha := Aside0.mk ha
          have T := Aside0.mk Q_T
          have G := Aside0.mk Q_G
          have Z := Aside0.mk Q_Z
          have z1 := blk_cell G.out 1
          refine value_ (w1 := w') (v := .int .i64 7) (by rfl) rfl ?_ ?_
          · go_simp
            (try simp only [i64_w, IntKind.wrap_u32])
            try first | rfl | omega
          refine hK.out _ _ ⟨(by rw [ha.out]; exact putSel_upk 1 hb_ rfl rfl rfl), Q_T, Q_G, Q_Z, Q_B, Q_F⟩
        refine steps_cons ?_ ?_
        · rintro b a w' ⟨ha, Q_T, Q_G, Q_Z, Q_B, Q_F⟩ hb_ hon hoff
          refine ⟨_, rfl, fun K hK => ?_⟩
          have e4 : a.tmps[4]? = some (.pointer (some ⟨w.heap.size, 0, none⟩)) := by rw [ha]; exact (putSel_off rfl).trans rfl
          have e37 : a.tmps[37]? = some (.agg #[.int .i64 0, .int .i64 0, .int .i64 0, .slice none 0 0, .slice none 0 0]) := by rw [ha]; exact putSel_on (e := (0, 37, .agg #[.int .i64 0, .int .i64 0, .int .i64 0, .slice none 0 0, .slice none 0 0])) 0 rfl rfl (hon 0 (by kernel_rfl)) rfl
          replace ha := Aside0.mk ha
          have T := Aside0.mk Q_T
          have G := Aside0.mk Q_G
          have Z := Aside0.mk Q_Z
          have B := Aside0.mk (Q_B hb_)
          have z0 := blk_cell B.out 0
          have z1 := blk_cell B.out 1
          have z2 := blk_cell B.out 2
          have z3 := blk_cell B.out 3
          have z4 := blk_cell B.out 4
          have zf := blk_frozen B.out
          refine skip_ (w1 := ?_) (by rfl) rfl ?_ ?_
          rotate_left
          · go_simp
            rfl
          refine hK.out _ _ ⟨(by rw [ha.out]; exact putSel_none (v := undef) rfl), below_set (below_set (below_set (below_set (below_set (T.out) (Nat.le_refl _)) (Nat.le_refl _)) (Nat.le_refl _)) (Nat.le_refl _)) (Nat.le_refl _), blk_far (blk_far (blk_far (blk_far (blk_far (G.out) (by have := HG.out; show g ≠ w.heap.size; omega) _) (by have := HG.out; show g ≠ w.heap.size; omega) _) (by have := HG.out; show g ≠ w.heap.size; omega) _) (by have := HG.out; show g ≠ w.heap.size; omega) _) (by have := HG.out; show g ≠ w.heap.size; omega) _, blk_far (blk_far (blk_far (blk_far (blk_far (Z.out) (by have := HB8.out; show b8 ≠ w.heap.size; omega) _) (by have := HB8.out; show b8 ≠ w.heap.size; omega) _) (by have := HB8.out; show b8 ≠ w.heap.size; omega) _) (by have := HB8.out; show b8 ≠ w.heap.size; omega) _) (by have := HB8.out; show b8 ≠ w.heap.size; omega) _, fun h0_ => absurd ((up_self b 5).symm.trans h0_) (by decide), fun _ => blk_put (blk_put (blk_put (blk_put (blk_put (B.out) 0 _ rfl) 1 _ rfl) 2 _ rfl) 3 _ rfl) 4 _ rfl⟩
        refine steps_cons ?_ ?_
        · rintro b a w' ⟨ha, Q_T, Q_G, Q_Z, Q_B, Q_F⟩ hb_ hon hoff
          refine ⟨_, rfl, fun K hK => ?_⟩
          have e41 : a.tmps[41]? = some (.int .i64 7) := by rw [ha]; exact putSel_on (e := (4, 41, .int .i64 7)) 1 rfl rfl (hon 4 (by kernel_rfl)) rfl
          replace ha := Aside0.mk ha
          have T := Aside0.mk Q_T
          have G := Aside0.mk Q_G
          have Z := Aside0.mk Q_Z
          have F := Aside0.mk (Q_F (hon 5 (by kernel_rfl)))
          refine value_ (w1 := w') (v := .int .i64 7) (by rfl) rfl ?_ ?_
          · go_simp
            (try simp only [i64_w, IntKind.wrap_u32])
            try first | rfl | omega
          refine hK.out _ _ ⟨(by rw [ha.out]; exact putSel_upk 2 hb_ rfl rfl rfl), Q_T, Q_G, Q_Z, fun h0_ => absurd ((hon 5 (by kernel_rfl)).symm.trans h0_) (by decide), Q_F⟩
        exact steps_nil
      rintro b a w9 hall ⟨ha, Q_T, Q_G, Q_Z, Q_B, Q_F⟩
      clear B G T Z
      have hb0_ := hall 0 (by kernel_rfl)
      have hb4_ := hall 4 (by kernel_rfl)
      have hb5_ := hall 5 (by kernel_rfl)
      have hb6_ := hall 6 (by kernel_rfl)
      subst ha
      simp only [putSel, hb0_, hb4_, hb5_, hb6_, if_true, Act.put, List.setIfInBounds_toArray, List.set_cons_zero, List.set_cons_succ]
      have T := Aside0.mk Q_T
      clear Q_T
      have G := Aside0.mk Q_G
      clear Q_G
      have Z := Aside0.mk Q_Z
      clear Q_Z
      clear Q_B
      have F := Aside0.mk (Q_F hb5_)
      clear Q_F
      clear hall hb0_ hb4_ hb5_ hb6_
      go_wp2_with (fail)
      refine bodyPost_ret (results_ct rfl _ _ w.heap.size 32 _ (0, 0) _ rfl F.out Tryd.underlying32 rfl (by kernel_rfl)) rfl ?_
      rw [HEND.out]
      exact ⟨_, _, rfl, Kd.R_nil _ _ _ _ _, Kd.R_nil _ _ _ _ _, T.out⟩
    · have hl0 : l = [] := List.eq_nil_of_length_eq_zero (by omega)
      subst hl0
      have HEND := Aside0.mk (show endP z32 x [] 0 = (x, 0) from rfl)
      have y0 := blk_cell C.out 0
      have x0 := blk_cell B.out 0
      have y1 := blk_cell C.out 1
      have x1 := blk_cell B.out 1
      have y2 := blk_cell C.out 2
      have x2 := blk_cell B.out 2
      have y3 := blk_cell C.out 3
      have x3 := blk_cell B.out 3
      have y4 := blk_cell C.out 4
      have x4 := blk_cell B.out 4
      have xf := blk_frozen B.out
      go_wp2_with (fail)
      refine bodyPost_ret (results_ct rfl _ _ w.heap.size 32 _ (0, 0) _ rfl (blk_put (blk_put (blk_put (blk_put (blk_put (B.out) 0 _ rfl) 1 _ rfl) 2 _ rfl) 3 _ rfl) 4 _ rfl) Tryd.underlying32 rfl (by kernel_rfl)) rfl ?_
      rw [HEND.out]
      exact ⟨_, _, rfl, R_out (R_far (R_far (R_far (R_far (R_far (R3.out) (by show w.heap.size < _; omega) _) (by show w.heap.size < _; omega) _) (by show w.heap.size < _; omega) _) (by show w.heap.size < _; omega) _) (by show w.heap.size < _; omega) _) (by omega), R_out (R_far (R_far (R_far (R_far (R_far (R4.out) (by show w.heap.size < _; omega) _) (by show w.heap.size < _; omega) _) (by show w.heap.size < _; omega) _) (by show w.heap.size < _; omega) _) (by show w.heap.size < _; omega) _) (by omega), below_set (below_set (below_set (below_set (below_set (T.out) (Nat.le_refl _)) (Nat.le_refl _)) (Nat.le_refl _)) (Nat.le_refl _)) (Nat.le_refl _)⟩
  · have HEND := Aside0.mk (show endP z32 x l e = (z32, e) from by rw [endP, if_neg he])
    go_upto_region 7 with (fail)
    have hs8 : w2.heap.size = w2.heap.size := rfl
    clear C R3 R4 z0 z1 zf
    generalize w2 = wa at T G B hs8 ⊢
    have HB8 := Aside0.mk (show w.heap.size < wa.heap.size by rw [← hs8]; exact blk_lt B.out)
    have hal := below_alloc (Below.refl _ wa) (.cells #[.int .i64 0, .int .i64 0, .int .i64 0, .slice none 0 0, .slice none 0 0] 32 : Obj)
    have Z0 := blk_new wa (.cells #[.int .i64 0, .int .i64 0, .int .i64 0, .slice none 0 0, .slice none 0 0] 32 : Obj)
    have Z := Aside0.mk Z0
    replace T := Aside0.mk (below_then T.out T.out.size hal)
    replace G := Aside0.mk (blk_below G.out hal)
    replace B := Aside0.mk (blk_below B.out hal)
    clear hal Z0 hs8
    generalize hb8 : wa.heap.size = b8 at HB8 Z ⊢
    generalize World.alloc wa _ = wz at T G Z B ⊢
    clear hb8
    replace T := Aside0.mk (below_drew T.out)
    replace G := Aside0.mk (blk_below G.out (below_drew (Below.refl _ wz)))
    replace Z := Aside0.mk (blk_below Z.out (below_drew (Below.refl _ wz)))
    replace B := Aside0.mk (blk_below B.out (below_drew (Below.refl _ wz)))
    refine start_ (n := 7) (S := fun w' => True) (ds := []) #[false, false, false, false, false, false, false] (by kernel_rfl) rfl rfl trivial (fun hHeld => ?_)
    refine with_tabW dec67.tab7 dec67.bits7 (fun HT_ HW_ => ?_)
    generalize hwd : wz.drew = wy at T G Z B ⊢
    clear hwd
    refine pure_ (i := 1) (N := some 38) (v := ?_) (a' := ?_) #[false, true, false, false, false, false, false] rfl rfl (any_of HT_.out (by kernel_rfl)) (fun _ _ _ h => h) (Or.inl ⟨by rfl, ?_⟩) ?_ ?_
    rotate_left
    · intro w'
      go_simp
      with_reducible rfl
    rotate_left
    · simp only [Act.put, List.setIfInBounds_toArray, List.set_cons_zero, List.set_cons_succ, i64_w, i32_w]
      rfl
    refine pure_ (i := 2) (N := some 39) (v := ?_) (a' := ?_) #[false, true, true, false, false, false, false] rfl rfl (any_of HT_.out (by kernel_rfl)) (fun _ _ _ h => h) (Or.inl ⟨by rfl, ?_⟩) ?_ ?_
    rotate_left
    · intro w'
      go_simp
      with_reducible rfl
    rotate_left
    · simp only [Act.put, List.setIfInBounds_toArray, List.set_cons_zero, List.set_cons_succ, i64_w, i32_w]
      rfl
    refine pure_ (i := 3) (N := some 40) (v := ?_) (a' := ?_) #[false, true, true, true, false, false, false] rfl rfl (any_of HT_.out (by kernel_rfl)) (fun _ _ _ h => h) (Or.inl ⟨by rfl, ?_⟩) ?_ ?_
    rotate_left
    · intro w'
      go_simp
      with_reducible rfl
    rotate_left
    · simp only [Act.put, List.setIfInBounds_toArray, List.set_cons_zero, List.set_cons_succ, i64_w, i32_w]
      rfl
    refine inv_at [0, 4, 5, 6] (fun a0_ b a w' => a = putSel a0_ b [(0, 37, .agg #[.int .i64 0, .int .i64 0, .int .i64 0, .slice none 0 0, .slice none 0 0]), (4, 41, .int .i64 e), (6, 5, .int .i64 e)] ∧ (Below w.heap.size w w') ∧ (w'.heap[g]? = some (.cells #[.slice AL l.length cL, .int .i64 e] 121 (0, 0))) ∧ (w'.heap[b8]? = some (.cells #[.int .i64 0, .int .i64 0, .int .i64 0, .slice none 0 0, .slice none 0 0] 32 : Obj)) ∧ (b 5 = false → w'.heap[w.heap.size]? = some (.cells #[.int .i64 0, .int .i64 0, .int .i64 0, .slice none 0 0, .slice none 0 0] 32 : Obj)) ∧ (b 5 = true → w'.heap[w.heap.size]? = some (.cells #[.int .i64 0, .int .i64 0, .int .i64 0, .slice none 0 0, .slice none 0 0] 32 : Obj))) HT_.out HW_.out (by kernel_rfl) (by kernel_rfl) ?_ ?_ ?_
    · exact ⟨by simp only [putSel, Bool.false_eq_true, if_false], T.out, G.out, Z.out, fun _ => B.out, fun h_ => absurd h_ (by decide)⟩
    · skip
      clear B G T Z
      refine steps_cons ?_ ?_
      · rintro b a w' ⟨ha, Q_T, Q_G, Q_Z, Q_B, Q_F⟩ hb_ hon hoff
        refine ⟨_, rfl, fun K hK => ?_⟩
        have e8 : a.tmps[8]? = some (.pointer (some ⟨b8, 0, none⟩)) := by rw [ha]; exact (putSel_off rfl).trans rfl
        replace ha := Aside0.mk ha
        have T := Aside0.mk Q_T
        have G := Aside0.mk Q_G
        have Z := Aside0.mk Q_Z
        have B := Aside0.mk (Q_B (hoff 5 (by kernel_rfl)))
        have y0 := blk_cell Z.out 0
        have y1 := blk_cell Z.out 1
        have y2 := blk_cell Z.out 2
        have y3 := blk_cell Z.out 3
        have y4 := blk_cell Z.out 4
        refine value_ (w1 := w') (v := .agg #[.int .i64 0, .int .i64 0, .int .i64 0, .slice none 0 0, .slice none 0 0]) (by rfl) rfl ?_ ?_
        · go_simp
          (try simp only [i64_w, IntKind.wrap_u32])
          try first | rfl | omega
        refine hK.out _ _ ⟨(by rw [ha.out]; exact putSel_upk 0 hb_ rfl rfl rfl), Q_T, Q_G, Q_Z, Q_B, fun h0_ => absurd ((hoff 5 (by kernel_rfl)).symm.trans h0_) (by decide)⟩
      refine steps_cons ?_ ?_
      · rintro b a w' ⟨ha, Q_T, Q_G, Q_Z, Q_B, Q_F⟩ hb_ hon hoff
        refine ⟨_, rfl, fun K hK => ?_⟩
        have e40 : a.tmps[40]? = some (.pointer (some ⟨g, 1, none⟩)) := by rw [ha]; exact (putSel_off rfl).trans rfl
        replace ha := Aside0.mk ha
        have T := Aside0.mk Q_T
        have G := Aside0.mk Q_G
        have Z := Aside0.mk Q_Z
        have z1 := blk_cell G.out 1
        refine value_ (w1 := w') (v := .int .i64 e) (by rfl) rfl ?_ ?_
        · go_simp
          (try simp only [i64_w, IntKind.wrap_u32])
          try first | rfl | omega
        refine hK.out _ _ ⟨(by rw [ha.out]; exact putSel_upk 1 hb_ rfl rfl rfl), Q_T, Q_G, Q_Z, Q_B, Q_F⟩
      refine steps_cons ?_ ?_
      · rintro b a w' ⟨ha, Q_T, Q_G, Q_Z, Q_B, Q_F⟩ hb_ hon hoff
        refine ⟨_, rfl, fun K hK => ?_⟩
        have e4 : a.tmps[4]? = some (.pointer (some ⟨w.heap.size, 0, none⟩)) := by rw [ha]; exact (putSel_off rfl).trans rfl
        have e37 : a.tmps[37]? = some (.agg #[.int .i64 0, .int .i64 0, .int .i64 0, .slice none 0 0, .slice none 0 0]) := by rw [ha]; exact putSel_on (e := (0, 37, .agg #[.int .i64 0, .int .i64 0, .int .i64 0, .slice none 0 0, .slice none 0 0])) 0 rfl rfl (hon 0 (by kernel_rfl)) rfl
        replace ha := Aside0.mk ha
        have T := Aside0.mk Q_T
        have G := Aside0.mk Q_G
        have Z := Aside0.mk Q_Z
        have B := Aside0.mk (Q_B hb_)
        have z0 := blk_cell B.out 0
        have z1 := blk_cell B.out 1
        have z2 := blk_cell B.out 2
        have z3 := blk_cell B.out 3
        have z4 := blk_cell B.out 4
        have zf := blk_frozen B.out
        refine skip_ (w1 := ?_) (by rfl) rfl ?_ ?_
        rotate_left
        · go_simp
          rfl
        refine hK.out _ _ ⟨(by rw [ha.out]; exact putSel_none (v := undef) rfl), below_set (below_set (below_set (below_set (below_set (T.out) (Nat.le_refl _)) (Nat.le_refl _)) (Nat.le_refl _)) (Nat.le_refl _)) (Nat.le_refl _), blk_far (blk_far (blk_far (blk_far (blk_far (G.out) (by have := HG.out; show g ≠ w.heap.size; omega) _) (by have := HG.out; show g ≠ w.heap.size; omega) _) (by have := HG.out; show g ≠ w.heap.size; omega) _) (by have := HG.out; show g ≠ w.heap.size; omega) _) (by have := HG.out; show g ≠ w.heap.size; omega) _, blk_far (blk_far (blk_far (blk_far (blk_far (Z.out) (by have := HB8.out; show b8 ≠ w.heap.size; omega) _) (by have := HB8.out; show b8 ≠ w.heap.size; omega) _) (by have := HB8.out; show b8 ≠ w.heap.size; omega) _) (by have := HB8.out; show b8 ≠ w.heap.size; omega) _) (by have := HB8.out; show b8 ≠ w.heap.size; omega) _, fun h0_ => absurd ((up_self b 5).symm.trans h0_) (by decide), fun _ => blk_put (blk_put (blk_put (blk_put (blk_put (B.out) 0 _ rfl) 1 _ rfl) 2 _ rfl) 3 _ rfl) 4 _ rfl⟩
      refine steps_cons ?_ ?_
      · rintro b a w' ⟨ha, Q_T, Q_G, Q_Z, Q_B, Q_F⟩ hb_ hon hoff
        refine ⟨_, rfl, fun K hK => ?_⟩
        have e41 : a.tmps[41]? = some (.int .i64 e) := by rw [ha]; exact putSel_on (e := (4, 41, .int .i64 e)) 1 rfl rfl (hon 4 (by kernel_rfl)) rfl
        replace ha := Aside0.mk ha
        have T := Aside0.mk Q_T
        have G := Aside0.mk Q_G
        have Z := Aside0.mk Q_Z
        have F := Aside0.mk (Q_F (hon 5 (by kernel_rfl)))
        refine value_ (w1 := w') (v := .int .i64 e) (by rfl) rfl ?_ ?_
        · go_simp
          (try simp only [i64_w, IntKind.wrap_u32])
          try first | rfl | omega
        refine hK.out _ _ ⟨(by rw [ha.out]; exact putSel_upk 2 hb_ rfl rfl rfl), Q_T, Q_G, Q_Z, fun h0_ => absurd ((hon 5 (by kernel_rfl)).symm.trans h0_) (by decide), Q_F⟩
      exact steps_nil
    rintro b a w9 hall ⟨ha, Q_T, Q_G, Q_Z, Q_B, Q_F⟩
    clear B G T Z
    have hb0_ := hall 0 (by kernel_rfl)
    have hb4_ := hall 4 (by kernel_rfl)
    have hb5_ := hall 5 (by kernel_rfl)
    have hb6_ := hall 6 (by kernel_rfl)
    subst ha
    simp only [putSel, hb0_, hb4_, hb5_, hb6_, if_true, Act.put, List.setIfInBounds_toArray, List.set_cons_zero, List.set_cons_succ]
    have T := Aside0.mk Q_T
    clear Q_T
    have G := Aside0.mk Q_G
    clear Q_G
    have Z := Aside0.mk Q_Z
    clear Q_Z
    clear Q_B
    have F := Aside0.mk (Q_F hb5_)
    clear Q_F
    clear hall hb0_ hb4_ hb5_ hb6_
    go_wp2_with (fail)
    refine bodyPost_ret (results_ct rfl _ _ w.heap.size 32 _ (0, 0) _ rfl F.out Tryd.underlying32 rfl (by kernel_rfl)) rfl ?_
    rw [HEND.out]
    exact ⟨_, _, rfl, Kd.R_nil _ _ _ _ _, Kd.R_nil _ _ _ _ _, T.out⟩
end Go.Proofs.YtfdgihdmhdhpcaaDoor.P
