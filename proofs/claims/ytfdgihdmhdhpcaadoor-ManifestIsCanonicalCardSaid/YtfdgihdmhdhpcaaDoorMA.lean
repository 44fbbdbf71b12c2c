/- Some small texts of the machine's walk, in one. -/
import Derived.Test.YtfdgihdmhdhpcaaDoorProg
import Derived.Below
import Derived.Deep.Draws
import Derived.Deep.AppendLies
import Derived.Maps.AppendAt
import Derived.OwnWalk
import Derived.Laws.BytesArg
import Derived.Laws.MakeOwn
import Derived.Laws.OwnMore
import Derived.Deep.OwnRows
import Derived.Tactics
import Derived.Lib.ConvBytes
import Derived.Laws.Slices
import Derived.WalkKit
import Derived.KernelRfl
import Derived.RowKit3
import Derived.Deep.LoopGhost
import Derived.Deep.QuietTactic
import Derived.BigQuiet
import Derived.WideLaws
import Derived.Deep.DeepCutAuto
import Derived.Deep.CutBlock
import Derived.Deep.RegionHeld3
import Derived.Laws.Rows
import Derived.Lib.AppendStr
import Derived.ArgAppend
import Derived.Laws.IdiomCopy
import Derived.OrdersHeld
import Derived.Laws.BitsLemmas
import Derived.RowKit
import Derived.Test.YtfdgihdmhdhpcaaDoorWWords
import Derived.Test.YtfdgihdmhdhpcaaDoorWLast
import Derived.Test.YtfdgihdmhdhpcaaDoorWTab
import Derived.Test.YtfdgihdmhdhpcaaDoorWFour
import Derived.Test.YtfdgihdmhdhpcaaDoorWQPut
import Derived.Test.YtfdgihdmhdhpcaaDoorWApart
import Derived.Test.YtfdgihdmhdhpcaaDoorWArr
import Derived.Test.YtfdgihdmhdhpcaaDoorWZeros
import Derived.Test.YtfdgihdmhdhpcaaDoorWFoot
import Derived.Test.YtfdgihdmhdhpcaaDoorWKept
import Derived.Test.YtfdgihdmhdhpcaaDoorWShare
import Derived.Test.YtfdgihdmhdhpcaaDoorWN
import Derived.Test.YtfdgihdmhdhpcaaDoorWFootNe
import Derived.Test.YtfdgihdmhdhpcaaDoorWAt
import Derived.Test.YtfdgihdmhdhpcaaDoorWEqStruct
import Derived.Test.YtfdgihdmhdhpcaaDoorWRepsOne
import Derived.Test.YtfdgihdmhdhpcaaDoorWInv
import Derived.Test.YtfdgihdmhdhpcaaDoorWInvWords
import Derived.Test.YtfdgihdmhdhpcaaDoorWGuard
import Derived.Test.YtfdgihdmhdhpcaaDoorWNEv
import Derived.Test.YtfdgihdmhdhpcaaDoorWMore
import Derived.Lib.Hide
import Derived.Outline
import Derived.Recover
import Derived.WalkLawsBesides
import Derived.Laws.Panics
import Derived.Laws.Pointers
import Derived.Tactics2
import Derived.Deep.RegionWith
import Derived.WalkSpells
import Derived.WalkMore
import Derived.Laws.Cover3
import Derived.Deep.MidRow
import Derived.Deep.Upon
import Derived.ChangeKeysEq
import Derived.Test.YtfdgihdmhdhpcaaDoorP0
import Derived.Test.YtfdgihdmhdhpcaaDoorA1
import Derived.Test.YtfdgihdmhdhpcaaDoorSB
section
namespace Go.Proofs.YtfdgihdmhdhpcaaDoor.P
open Go.RowKit Go.Proofs.YtfdgihdmhdhpcaaDoorW.PrintWords Go.Proofs.YtfdgihdmhdhpcaaDoorW.PrintLast Go.Proofs.YtfdgihdmhdhpcaaDoorW.PrintMore
attribute [local go_sem] max2_int min2_int max_two min_two max_three min_three max_four min_four
set_option linter.unusedVariables false
set_option linter.unusedSimpArgs false
/-- What the decoder at g holds: the bytes that are left and the first error. -/
def Dec (w : World) (g : Nat) (l : List Int) (e : Int) : Prop :=
  ∃ A c, w.heap[g]? = some (.cells #[.slice A l.length c, .int .i64 e] 121 (0, 0)) ∧ l.length ≤ c ∧ l.length < 140737488355328 ∧ ∀ W, Below g w W → Kd.C (Kd.int .u8) W A l.length l
/-- The decoder's own change of the world. -/
def DecTo (w w' : World) (g : Nat) : Prop := Below g w w' ∧ KeepBut w w' g none
theorem DecTo.refl (w : World) (g : Nat) : DecTo w w g := ⟨Below.refl _ _, KeepBut.refl _ _ _⟩
theorem DecTo.trans {w w1 w2 : World} {g : Nat} (h : DecTo w w1 g) (k : DecTo w1 w2 g) : DecTo w w2 g := ⟨h.1.trans k.1, h.2.trans k.2 (.inl rfl)⟩
theorem DecTo.of_below {w w' : World} {g : Nat} (h : Below w.heap.size w w') (hg : g ≤ w.heap.size) : DecTo w w' g := ⟨h.mono hg, KeepBut.of_below h g none⟩
theorem DecTo.set {w w' : World} {g : Nat} (h : DecTo w w' g) (j : Nat) (u : Value) : DecTo w (w'.setCell ⟨g, j, none⟩ u) g := ⟨h.1.setCell (Nat.le_refl _) _, h.2.set_ j u⟩
theorem DecTo.size {w w' : World} {g : Nat} (h : DecTo w w' g) : w.heap.size ≤ w'.heap.size := h.2.1
theorem Dec.lt {w : World} {g : Nat} {l : List Int} {e : Int} (h : Dec w g l e) : g < w.heap.size := by
  obtain ⟨A, c, hb, _⟩ := h
  exact blk_lt hb
theorem Dec.below {w w' : World} {g : Nat} {l : List Int} {e : Int} (h : Dec w g l e) (hb : Below w.heap.size w w') : Dec w' g l e := by
  obtain ⟨A, c, h1, h2, h3, h4⟩ := h
  exact ⟨A, c, blk_below h1 hb, h2, h3, fun W hk => h4 W ((hb.mono (Nat.le_of_lt (blk_lt h1))).trans hk)⟩
theorem Dec.err {w : World} {g : Nat} {l : List Int} {e : Int} (h : Dec w g l e) (e' : Int) : Dec (w.setCell ⟨g, 1, none⟩ (.int .i64 e')) g l e' := by
  obtain ⟨A, c, h1, h2, h3, h4⟩ := h
  exact ⟨A, c, blk_put h1 1 _ rfl, h2, h3, fun W hk => h4 W (((Below.refl g w).setCell (Nat.le_refl _) _).trans hk)⟩
theorem Dec.far {w : World} {g : Nat} {l : List Int} {e : Int} (h : Dec w g l e) {p : Addr} (hp : g < p.block) (u : Value) : Dec (w.setCell p u) g l e := by
  obtain ⟨A, c, h1, h2, h3, h4⟩ := h
  exact ⟨A, c, blk_far h1 (by omega) u, h2, h3, fun W hk => h4 W (((Below.refl g w).setCell (Nat.le_of_lt hp) _).trans hk)⟩
/-- A row of the call's own, behind the decoder's own change. -/
theorem R_dec {α : Type} {d : Kd α} {e g base : Nat} {ok : Nat → Prop} {w w' : World} {v : Value} {xs : List α} (h : d.R e w base ok v xs) (hg : g < base) (hk : DecTo w w' g) : d.R e w' base ok v xs :=
  Kd.R_mono (Kd.R_move (Kd.R_bound h) (fun k hk' => hk.2.2 k hk'.2.2.1 (by have := hk'.2.1; omega) (by simp))) (fun _ hk' => hk'.1)
/-- next: an element, or the first error. -/
def nextP {α : Type} (get : List Int → Option (α × Int × Int)) (z : α) (l : List Int) (e : Int) : Option (α × List Int × Int) :=
  if e ≠ 0 then some (z, l, e) else (get l).bind fun t => if t.2.2 ≠ 0 then some (z, l, t.2.2) else if 0 ≤ t.2.1 ∧ t.2.1 ≤ (l.length : Int) then some (t.1, l.drop t.2.1.toNat, 0) else none
theorem dec_cut {w w1 : World} {g n c : Nat} {l : List Int} {A A2 : Option Addr} (hd : Dec w g l 0) (hb : Below w.heap.size w w1) (h1 : w1.heap[g]? = some (.cells #[.slice A l.length c, .int .i64 0] 121 (0, 0)))
    (hA2 : ∀ (w : World) (k : IntKind) (xs : List Int), l.length ≤ c → ReadsInt w k A l.length xs → ReadsInt w k A2 (l.length - n) (xs.drop n)) (h4 : ∀ W, Below g w W → Kd.C (Kd.int .u8) W A l.length l) (h2 : l.length ≤ c) (h3 : l.length < 140737488355328) (hn : n ≤ l.length) :
    Dec (w1.setCell ⟨g, 0, none⟩ (.slice A2 (l.length - n) (c - n))) g (l.drop n) 0 := by
  refine ⟨A2, c - n, ?_, by rw [List.length_drop]; omega, by rw [List.length_drop]; omega, fun W hk => ?_⟩
  · rw [List.length_drop]
    exact blk_put h1 0 _ rfl
  · have hk2 : Below g w W := ((hb.mono (Nat.le_of_lt hd.lt)).setCell (Nat.le_refl _) _).trans hk
    rw [List.length_drop]
    exact Kd.C_of_reads (d := (0 : Int)) (h1 := fun _ => rfl) (hA2 W .u8 l h2 (Kd.reads_of_C (h4 W hk2)))
set_option maxRecDepth 100000 in
set_option maxHeartbeats 1000000 in
theorem next_int_calls (k g : Nat) (l l' : List Int) (e e' : Int) (x : Int) (w : World) (hd : Dec w g l e) (h : nextP (wire_GetInt.f k) 0 l e = some (x, l', e')) :
    Calls Tryd.prog 80 #[.pointer (some ⟨g, 0, none⟩), .func (.func 81) #[] #[]] w fun o w' => o = .returned (.int .i64 x) ∧ Dec w' g l' e' ∧ DecTo w w' g := by
  obtain ⟨A, c, h1, h2, h3, h4⟩ := id hd
  have z0 : w.cell? ⟨g, 0, none⟩ = some (.slice A l.length c) := blk_cell h1 0
  have z1 : w.cell? ⟨g, 1, none⟩ = some (.int .i64 e) := blk_cell h1 1
  have zf := blk_frozen h1
  have HD := Aside0.mk hd
  have HC := Aside0.mk (h4 w (Below.refl _ _))
  have H4 := Aside0.mk h4
  have H1 := Aside0.mk h1
  clear hd h4 h1
  have H := Aside0.mk h
  clear h
  go_enter Tryd.func80, Tryd.ntmps80
  by_cases he : e ≠ 0
  · have h := H.out
    unfold nextP at h
    rw [if_pos he] at h
    simp only [Option.some.injEq, Prod.mk.injEq] at h
    obtain ⟨rfl, rfl, rfl⟩ := h
    clear H
    go_wp2_with (fail)
    go_ret
    exact ⟨rfl, HD.out, DecTo.refl _ _⟩
  · have h := H.out
    unfold nextP at h
    clear H
    rw [if_neg he] at h
    obtain rfl : e = 0 := by omega
    obtain ⟨⟨x1, n1, e1⟩, hget, h⟩ := Option.bind_eq_some_iff.1 h
    have HG := Aside0.mk hget
    clear hget he
    simp only at h
    have H := Aside0.mk h
    clear h
    go_wp2_with (fail)
    refine (wire_GetInt.calls k A c l x1 n1 e1 w HC.out h2 HG.out).mono ?_
    rintro e_ w1 ⟨rfl, hb⟩
    have HB := Aside0.mk hb
    have h1 := blk_below H1.out hb
    clear z0 z1 zf
    have z0 : w1.cell? ⟨g, 0, none⟩ = some (.slice A l.length c) := blk_cell h1 0
    have z1 : w1.cell? ⟨g, 1, none⟩ = some (.int .i64 0) := blk_cell h1 1
    have zf := blk_frozen h1
    have HH1 := Aside0.mk h1
    clear hb h1
    by_cases h5 : e1 ≠ 0
    · have h := H.out
      clear H
      rw [if_pos h5] at h
      simp only [Option.some.injEq, Prod.mk.injEq] at h
      obtain ⟨rfl, rfl, rfl⟩ := h
      go_wp2_with (fail)
      go_ret
      exact ⟨rfl, (HD.out.below HB.out).err e1, (DecTo.of_below HB.out (Nat.le_of_lt HD.out.lt)).set 1 _⟩
    · have h := H.out
      clear H
      rw [if_neg h5] at h
      obtain rfl : e1 = 0 := by omega
      by_cases h6 : 0 ≤ n1 ∧ n1 ≤ (l.length : Int)
      case neg => rw [if_neg h6] at h; cases h
      rw [if_pos h6] at h
      simp only [Option.some.injEq, Prod.mk.injEq] at h
      obtain ⟨rfl, rfl, rfl⟩ := h
      obtain ⟨n, rfl⟩ := Int.eq_ofNat_of_zero_le h6.1
      have hn : n ≤ l.length := by omega
      obtain ⟨i5, hi5, hs5⟩ : ∃ i, Tryd.prog.info? 5 = some i ∧ i.size = 1 := by
        obtain ⟨i, hi, he⟩ := Option.map_eq_some_iff.1 info5
        exact ⟨i, hi, by have := congrArg (fun p => p.2.1) he; exact this⟩
      obtain ⟨A2, hcut, hA2⟩ := print_cut (P := Tryd.prog) 74 5 .i64 Tryd.underlying74 hi5 hs5 A l.length c n hn
      have HA2 := Aside0.mk hA2
      clear hA2 h5 h6 hi5 hs5
      go_wp2_with (fail)
      go_ret
      exact ⟨rfl, dec_cut HD.out HB.out HH1.out HA2.out H4.out h2 h3 hn, (DecTo.of_below HB.out (Nat.le_of_lt HD.out.lt)).set 0 _⟩
set_option maxRecDepth 100000 in
set_option maxHeartbeats 1000000 in
theorem next_bytes_calls (k g : Nat) (l l' : List Int) (e e' : Int) (x : ByteArray) (w : World) (hd : Dec w g l e) (h : nextP (wire_GetBytes.f k) (⟨#[]⟩ : ByteArray) l e = some (x, l', e')) :
    Calls Tryd.prog 100 #[.pointer (some ⟨g, 0, none⟩), .func (.func 101) #[] #[]] w fun o w' => o = .returned (.string x) ∧ Dec w' g l' e' ∧ DecTo w w' g := by
  obtain ⟨A, c, h1, h2, h3, h4⟩ := id hd
  have z0 : w.cell? ⟨g, 0, none⟩ = some (.slice A l.length c) := blk_cell h1 0
  have z1 : w.cell? ⟨g, 1, none⟩ = some (.int .i64 e) := blk_cell h1 1
  have zf := blk_frozen h1
  have HD := Aside0.mk hd
  have HC := Aside0.mk (h4 w (Below.refl _ _))
  have H4 := Aside0.mk h4
  have H1 := Aside0.mk h1
  clear hd h4 h1
  have H := Aside0.mk h
  clear h
  go_enter Tryd.func100, Tryd.ntmps100
  by_cases he : e ≠ 0
  · have h := H.out
    unfold nextP at h
    rw [if_pos he] at h
    simp only [Option.some.injEq, Prod.mk.injEq] at h
    obtain ⟨rfl, rfl, rfl⟩ := h
    clear H
    go_wp2_with (fail)
    go_ret
    exact ⟨rfl, HD.out, DecTo.refl _ _⟩
  · have h := H.out
    unfold nextP at h
    clear H
    rw [if_neg he] at h
    obtain rfl : e = 0 := by omega
    obtain ⟨⟨x1, n1, e1⟩, hget, h⟩ := Option.bind_eq_some_iff.1 h
    have HG := Aside0.mk hget
    clear hget he
    simp only at h
    have H := Aside0.mk h
    clear h
    go_wp2_with (fail)
    refine (wire_GetBytes.calls k A c l x1 n1 e1 w HC.out h2 HG.out).mono ?_
    rintro e_ w1 ⟨rfl, hb⟩
    have HB := Aside0.mk hb
    have h1 := blk_below H1.out hb
    clear z0 z1 zf
    have z0 : w1.cell? ⟨g, 0, none⟩ = some (.slice A l.length c) := blk_cell h1 0
    have z1 : w1.cell? ⟨g, 1, none⟩ = some (.int .i64 0) := blk_cell h1 1
    have zf := blk_frozen h1
    have HH1 := Aside0.mk h1
    clear hb h1
    by_cases h5 : e1 ≠ 0
    · have h := H.out
      clear H
      rw [if_pos h5] at h
      simp only [Option.some.injEq, Prod.mk.injEq] at h
      obtain ⟨rfl, rfl, rfl⟩ := h
      go_wp2_with (fail)
      go_ret
      exact ⟨rfl, (HD.out.below HB.out).err e1, (DecTo.of_below HB.out (Nat.le_of_lt HD.out.lt)).set 1 _⟩
    · have h := H.out
      clear H
      rw [if_neg h5] at h
      obtain rfl : e1 = 0 := by omega
      by_cases h6 : 0 ≤ n1 ∧ n1 ≤ (l.length : Int)
      case neg => rw [if_neg h6] at h; cases h
      rw [if_pos h6] at h
      simp only [Option.some.injEq, Prod.mk.injEq] at h
      obtain ⟨rfl, rfl, rfl⟩ := h
      obtain ⟨n, rfl⟩ := Int.eq_ofNat_of_zero_le h6.1
      have hn : n ≤ l.length := by omega
      obtain ⟨i5, hi5, hs5⟩ : ∃ i, Tryd.prog.info? 5 = some i ∧ i.size = 1 := by
        obtain ⟨i, hi, he⟩ := Option.map_eq_some_iff.1 info5
        exact ⟨i, hi, by have := congrArg (fun p => p.2.1) he; exact this⟩
      obtain ⟨A2, hcut, hA2⟩ := print_cut (P := Tryd.prog) 74 5 .i64 Tryd.underlying74 hi5 hs5 A l.length c n hn
      have HA2 := Aside0.mk hA2
      clear hA2 h5 h6 hi5 hs5
      go_wp2_with (fail)
      go_ret
      exact ⟨rfl, dec_cut HD.out HB.out HH1.out HA2.out H4.out h2 h3 hn, (DecTo.of_below HB.out (Nat.le_of_lt HD.out.lt)).set 0 _⟩
set_option maxRecDepth 100000 in
set_option maxHeartbeats 1000000 in
theorem next_digests_calls (k g : Nat) (l l' : List Int) (e e' : Int) (x : List S38) (w : World) (hd : Dec w g l e) (h : nextP (wire_GetDigests.f k) [] l e = some (x, l', e')) :
    Calls Tryd.prog 96 #[.pointer (some ⟨g, 0, none⟩), .func (.func 97) #[] #[]] w fun o w' => (∃ v0_, o = .returned v0_ ∧ Kd.R k38 38 w' w.heap.size (fun _ => True) v0_ x) ∧ Dec w' g l' e' ∧ DecTo w w' g := by
  obtain ⟨A, c, h1, h2, h3, h4⟩ := id hd
  have z0 : w.cell? ⟨g, 0, none⟩ = some (.slice A l.length c) := blk_cell h1 0
  have z1 : w.cell? ⟨g, 1, none⟩ = some (.int .i64 e) := blk_cell h1 1
  have zf := blk_frozen h1
  have HD := Aside0.mk hd
  have HC := Aside0.mk (h4 w (Below.refl _ _))
  have H4 := Aside0.mk h4
  have H1 := Aside0.mk h1
  clear hd h4 h1
  have H := Aside0.mk h
  clear h
  go_enter Tryd.func96, Tryd.ntmps96
  by_cases he : e ≠ 0
  · have h := H.out
    unfold nextP at h
    rw [if_pos he] at h
    simp only [Option.some.injEq, Prod.mk.injEq] at h
    obtain ⟨rfl, rfl, rfl⟩ := h
    clear H
    go_wp2_with (fail)
    go_ret
    exact ⟨⟨_, rfl, Kd.R_nil _ _ _ _ _⟩, HD.out, DecTo.refl _ _⟩
  · have h := H.out
    unfold nextP at h
    clear H
    rw [if_neg he] at h
    obtain rfl : e = 0 := by omega
    obtain ⟨⟨x1, n1, e1⟩, hget, h⟩ := Option.bind_eq_some_iff.1 h
    have HG := Aside0.mk hget
    clear hget he
    simp only at h
    have H := Aside0.mk h
    clear h
    go_wp2_with (fail)
    refine (wire_GetDigests.calls k A c l x1 n1 e1 w HC.out h2 HG.out).mono ?_
    rintro e_ w1 ⟨v0_, rfl, hR, hb⟩
    have HR := Aside0.mk hR
    clear hR
    have HB := Aside0.mk hb
    have h1 := blk_below H1.out hb
    clear z0 z1 zf
    have z0 : w1.cell? ⟨g, 0, none⟩ = some (.slice A l.length c) := blk_cell h1 0
    have z1 : w1.cell? ⟨g, 1, none⟩ = some (.int .i64 0) := blk_cell h1 1
    have zf := blk_frozen h1
    have HH1 := Aside0.mk h1
    clear hb h1
    by_cases h5 : e1 ≠ 0
    · have h := H.out
      clear H
      rw [if_pos h5] at h
      simp only [Option.some.injEq, Prod.mk.injEq] at h
      obtain ⟨rfl, rfl, rfl⟩ := h
      go_wp2_with (fail)
      go_ret
      exact ⟨⟨_, rfl, Kd.R_nil _ _ _ _ _⟩, (HD.out.below HB.out).err e1, (DecTo.of_below HB.out (Nat.le_of_lt HD.out.lt)).set 1 _⟩
    · have h := H.out
      clear H
      rw [if_neg h5] at h
      obtain rfl : e1 = 0 := by omega
      by_cases h6 : 0 ≤ n1 ∧ n1 ≤ (l.length : Int)
      case neg => rw [if_neg h6] at h; cases h
      rw [if_pos h6] at h
      simp only [Option.some.injEq, Prod.mk.injEq] at h
      obtain ⟨rfl, rfl, rfl⟩ := h
      obtain ⟨n, rfl⟩ := Int.eq_ofNat_of_zero_le h6.1
      have hn : n ≤ l.length := by omega
      obtain ⟨i5, hi5, hs5⟩ : ∃ i, Tryd.prog.info? 5 = some i ∧ i.size = 1 := by
        obtain ⟨i, hi, he⟩ := Option.map_eq_some_iff.1 info5
        exact ⟨i, hi, by have := congrArg (fun p => p.2.1) he; exact this⟩
      obtain ⟨A2, hcut, hA2⟩ := print_cut (P := Tryd.prog) 74 5 .i64 Tryd.underlying74 hi5 hs5 A l.length c n hn
      have HA2 := Aside0.mk hA2
      clear hA2 h5 h6 hi5 hs5
      go_wp2_with (fail)
      go_ret
      exact ⟨⟨_, rfl, R_dec HR.out HD.out.lt ((DecTo.refl w1 g).set 0 _)⟩, dec_cut HD.out HB.out HH1.out HA2.out H4.out h2 h3 hn, (DecTo.of_below HB.out (Nat.le_of_lt HD.out.lt)).set 0 _⟩
end Go.Proofs.YtfdgihdmhdhpcaaDoor.P
end
section
namespace Go.Proofs.YtfdgihdmhdhpcaaDoor.P
open Go.RowKit Go.Proofs.YtfdgihdmhdhpcaaDoorW.PrintWords Go.Proofs.YtfdgihdmhdhpcaaDoorW.PrintLast Go.Proofs.YtfdgihdmhdhpcaaDoorW.PrintMore
attribute [local go_sem] max2_int min2_int max_two min_two max_three min_three max_four min_four
set_option linter.unusedVariables false
set_option linter.unusedSimpArgs false
theorem DecTo.far {w w' : World} {g : Nat} (h : DecTo w w' g) {p : Addr} (hg : g < w.heap.size) (hp : w.heap.size ≤ p.block) (u : Value) : DecTo w (w'.setCell p u) g := ⟨h.1.setCell (by omega) _, keep_far h.2 hp u⟩
theorem DecTo.alloc {w : World} {g : Nat} (o : Obj) (hg : g < w.heap.size) : DecTo w (w.alloc o) g := DecTo.of_below (below_alloc (Below.refl _ _) o) (Nat.le_of_lt hg)
theorem R_far {α : Type} {d : Kd α} {e base : Nat} {ok : Nat → Prop} {w : World} {v : Value} {xs : List α} (h : d.R e w base ok v xs) {p : Addr} (hp : p.block < base) (u : Value) : d.R e (w.setCell p u) base ok v xs :=
  Kd.R_mono (Kd.R_move (Kd.R_bound h) (fun k hk' => Below.heap_setCell w p u k (by have := hk'.2.1; omega))) (fun _ hk' => hk'.1)
theorem DecTo.blk {w w' : World} {g g' : Nat} {o : Obj} (h : DecTo w w' g) (hb : w.heap[g']? = some o) (hne : g' ≠ g) : w'.heap[g']? = some o := KeepBut.blk h.2 hb hne (by simp)
set_option maxRecDepth 100000 in
set_option maxHeartbeats 1000000 in
theorem digests_calls (k g : Nat) (l l' : List Int) (e e' : Int) (x : List S38) (w : World) (hd : Dec w g l e) (h : nextP (wire_GetDigests.f k) [] l e = some (x, l', e')) :
    Calls Tryd.prog 82 #[.pointer (some ⟨g, 0, none⟩)] w fun o w' => (∃ v0_, o = .returned v0_ ∧ Kd.R k38 38 w' w.heap.size (fun _ => True) v0_ x) ∧ Dec w' g l' e' ∧ DecTo w w' g := by
  have HD := Aside0.mk hd
  have H := Aside0.mk h
  clear hd h
  go_enter Tryd.func82, Tryd.ntmps82
  go_wp2_with (fail)
  refine (next_digests_calls k g l l' e e' x w HD.out H.out).mono ?_
  rintro e_ w1 ⟨⟨v0_, rfl, hR⟩, hd1, ht⟩
  obtain ⟨A1, c1, rfl⟩ := Kd.R_slice hR
  have HR := Aside0.mk hR
  have HD1 := Aside0.mk hd1
  have HT := Aside0.mk ht
  clear hR hd1 ht HD H
  by_cases hx : 0 < x.length
  · go_wp2_with (fail)
    go_ret
    exact ⟨⟨_, rfl, HR.out⟩, HD1.out, HT.out⟩
  · obtain rfl : x = [] := List.eq_nil_of_length_eq_zero (by omega)
    go_wp2_with (fail)
    go_ret
    exact ⟨⟨_, rfl, Kd.R_nil _ _ _ _ _⟩, HD1.out, HT.out⟩
theorem stage_calls (k g : Nat) (l l' : List Int) (e e' : Int) (x : ByteArray) (w : World) (hd : Dec w g l e) (h : nextP (wire_GetBytes.f k) (⟨#[]⟩ : ByteArray) l e = some (x, l', e')) :
    Calls Tryd.prog 86 #[.pointer (some ⟨g, 0, none⟩)] w fun o w' => o = .returned (.string x) ∧ Dec w' g l' e' ∧ DecTo w w' g := by
  have HD := Aside0.mk hd
  have H := Aside0.mk h
  clear hd h
  go_enter Tryd.func86, Tryd.ntmps86
  go_wp2_with (fail)
  refine (next_bytes_calls k g l l' e e' x w HD.out H.out).mono ?_
  rintro e_ w1 ⟨rfl, hd1, ht⟩
  have HD1 := Aside0.mk hd1
  have HT := Aside0.mk ht
  clear hd1 ht HD H
  go_wp2_with (fail)
  go_ret
  exact ⟨rfl, HD1.out, HT.out⟩
theorem R_out {α : Type} {d : Kd α} {e base base' : Nat} {ok : Nat → Prop} {w : World} {v : Value} {xs : List α} (h : d.R e w base ok v xs) (hb : base' ≤ base) : d.R e w base' ok v xs := Kd.R_lower h hb
theorem R_new {α : Type} {d : Kd α} {e base : Nat} {ok : Nat → Prop} {w : World} {v u : Value} {xs : List α} (h : d.R e w base ok v xs) (hu : ∀ k, u.ownBlock = some k → k < base) : d.R e w base (fun k => some k ≠ u.ownBlock) v xs :=
  Kd.R_mono (Kd.R_bound h) (fun k hk' he => by have := hu k he.symm; have := hk'.2.1; omega)
def manP (k : Nat) (l : List Int) (e : Int) : Option (S24 × List Int × Int) := (nextP (wire_GetInt.f k) 0 l e).bind fun a0 => (nextP (wire_GetInt.f k) 0 a0.2.1 a0.2.2).bind fun a1 => (nextP (wire_GetInt.f k) 0 a1.2.1 a1.2.2).bind fun a2 => (nextP (wire_GetDigests.f k) [] a2.2.1 a2.2.2).bind fun a3 => some (⟨a0.1, a1.1, a2.1, a3.1⟩, a3.2.1, a3.2.2)
set_option maxRecDepth 100000 in
set_option maxHeartbeats 1000000 in
theorem man_calls (k g : Nat) (l l' : List Int) (e e' : Int) (x : S24) (w : World) (hd : Dec w g l e) (h : manP k l e = some (x, l', e')) :
    Calls Tryd.prog 57 #[.pointer (some ⟨g, 0, none⟩)] w fun o w' => ∃ v3 : Value, o = .returned (.agg #[.int .i64 x.f0, .int .i64 x.f1, .int .i64 x.f2, v3]) ∧ Kd.R k38 38 w' w.heap.size (fun k => True) v3 x.f3 ∧ Dec w' g l' e' ∧ DecTo w w' g := by
  have hlt := hd.lt
  unfold manP at h
  obtain ⟨⟨x0, l0, e0⟩, h0, h⟩ := Option.bind_eq_some_iff.1 h
  have H0 := Aside0.mk h0
  clear h0
  obtain ⟨⟨x1, l1, e1⟩, h1, h⟩ := Option.bind_eq_some_iff.1 h
  have H1 := Aside0.mk h1
  clear h1
  obtain ⟨⟨x2, l2, e2⟩, h2, h⟩ := Option.bind_eq_some_iff.1 h
  have H2 := Aside0.mk h2
  clear h2
  obtain ⟨⟨x3, l3, e3⟩, h3, h⟩ := Option.bind_eq_some_iff.1 h
  have H3 := Aside0.mk h3
  clear h3
  simp only [Option.some.injEq, Prod.mk.injEq] at h
  obtain ⟨rfl, rfl, rfl⟩ := h
  have HD := Aside0.mk (hd.below (below_alloc (Below.refl _ w) (.cells #[.int .i64 0, .int .i64 0, .int .i64 0, .slice none 0 0] 24)))
  have HB0 := Aside0.mk (blk_new w (.cells #[.int .i64 0, .int .i64 0, .int .i64 0, .slice none 0 0] 24))
  have HT0 := Aside0.mk (DecTo.alloc (.cells #[.int .i64 0, .int .i64 0, .int .i64 0, .slice none 0 0] 24) hlt)
  clear hd
  go_enter Tryd.func57, Tryd.ntmps57
  go_wp2_with (fail)
  refine (next_int_calls k g l l0 e e0 x0 (w.alloc (.cells #[.int .i64 0, .int .i64 0, .int .i64 0, .slice none 0 0] 24)) HD.out H0.out).mono ?_
  rintro e_ w1 ⟨rfl, hd, ht⟩
  have HD1 := Aside0.mk hd
  have HB1 := Aside0.mk (ht.blk HB0.out (by omega))
  have HT1 := Aside0.mk (HT0.out.trans ht)
  clear hd ht
  go_wp2_with (fail)
  refine (next_int_calls k g l0 l1 e0 e1 x1 w1 HD1.out H1.out).mono ?_
  rintro e_ w2 ⟨rfl, hd, ht⟩
  have HD2 := Aside0.mk hd
  have HB2 := Aside0.mk (ht.blk HB1.out (by omega))
  have HT2 := Aside0.mk (HT1.out.trans ht)
  clear hd ht
  go_wp2_with (fail)
  refine (next_int_calls k g l1 l2 e1 e2 x2 w2 HD2.out H2.out).mono ?_
  rintro e_ w3 ⟨rfl, hd, ht⟩
  have HD3 := Aside0.mk hd
  have HB3 := Aside0.mk (ht.blk HB2.out (by omega))
  have HT3 := Aside0.mk (HT2.out.trans ht)
  clear hd ht
  go_wp2_with (fail)
  refine (digests_calls k g l2 l3 e2 e3 x3 w3 HD3.out H3.out).mono ?_
  rintro e_ w4 ⟨⟨v3, rfl, hR3⟩, hd, ht⟩
  have HD4 := Aside0.mk hd
  have HB4 := Aside0.mk (ht.blk HB3.out (by omega))
  have HT4 := Aside0.mk (HT3.out.trans ht)
  have HR3 := Aside0.mk hR3
  clear hR3
  clear hd ht
  have z0 := blk_cell HB4.out 0
  have z1 := blk_cell HB4.out 1
  have z2 := blk_cell HB4.out 2
  have z3 := blk_cell HB4.out 3
  have zf := blk_frozen HB4.out
  have hsz : (w.alloc (.cells #[.int .i64 0, .int .i64 0, .int .i64 0, .slice none 0 0] 24)).heap.size = w.heap.size + 1 := World.size_alloc _ _
  have hsz1 := blk_lt HB1.out
  have hsz2 := blk_lt HB2.out
  have hsz3 := blk_lt HB3.out
  have hsz4 := blk_lt HB4.out
  obtain ⟨A3, c3, rfl⟩ := Kd.R_slice HR3.out
  go_wp2_with (fail)
  refine bodyPost_ret (results_cell_row rfl _ _ w.heap.size 24 _ (0, 0) _ rfl (blk_put (blk_put (blk_put (blk_put (HB4.out) 0 _ rfl) 1 _ rfl) 2 _ rfl) 3 _ rfl) Tryd.underlying24 rfl (by kernel_rfl)) rfl ?_
  exact ⟨_, rfl, R_out (R_far (R_far (R_far (R_far (HR3.out) (by show w.heap.size < _; omega) _) (by show w.heap.size < _; omega) _) (by show w.heap.size < _; omega) _) (by show w.heap.size < _; omega) _) (by omega), Dec.far (Dec.far (Dec.far (Dec.far (HD4.out) hlt _) hlt _) hlt _) hlt _, DecTo.far (DecTo.far (DecTo.far (DecTo.far (HT4.out) hlt (Nat.le_refl _) _) hlt (Nat.le_refl _) _) hlt (Nat.le_refl _) _) hlt (Nat.le_refl _) _⟩
def keysP (k : Nat) (l : List Int) (e : Int) : Option (S30 × List Int × Int) := (nextP (wire_GetInt.f k) 0 l e).bind fun a0 => (nextP (wire_GetInt.f k) 0 a0.2.1 a0.2.2).bind fun a1 => (nextP (wire_GetInt.f k) 0 a1.2.1 a1.2.2).bind fun a2 => (nextP (wire_GetDigests.f k) [] a2.2.1 a2.2.2).bind fun a3 => some (⟨a0.1, a1.1, a2.1, a3.1⟩, a3.2.1, a3.2.2)
set_option maxRecDepth 100000 in
set_option maxHeartbeats 1000000 in
theorem keys_calls (k g : Nat) (l l' : List Int) (e e' : Int) (x : S30) (w : World) (hd : Dec w g l e) (h : keysP k l e = some (x, l', e')) :
    Calls Tryd.prog 61 #[.pointer (some ⟨g, 0, none⟩)] w fun o w' => ∃ v3 : Value, o = .returned (.agg #[.int .i64 x.f0, .int .i64 x.f1, .int .i64 x.f2, v3]) ∧ Kd.R k38 38 w' w.heap.size (fun k => True) v3 x.f3 ∧ Dec w' g l' e' ∧ DecTo w w' g := by
  have hlt := hd.lt
  unfold keysP at h
  obtain ⟨⟨x0, l0, e0⟩, h0, h⟩ := Option.bind_eq_some_iff.1 h
  have H0 := Aside0.mk h0
  clear h0
  obtain ⟨⟨x1, l1, e1⟩, h1, h⟩ := Option.bind_eq_some_iff.1 h
  have H1 := Aside0.mk h1
  clear h1
  obtain ⟨⟨x2, l2, e2⟩, h2, h⟩ := Option.bind_eq_some_iff.1 h
  have H2 := Aside0.mk h2
  clear h2
  obtain ⟨⟨x3, l3, e3⟩, h3, h⟩ := Option.bind_eq_some_iff.1 h
  have H3 := Aside0.mk h3
  clear h3
  simp only [Option.some.injEq, Prod.mk.injEq] at h
  obtain ⟨rfl, rfl, rfl⟩ := h
  have HD := Aside0.mk (hd.below (below_alloc (Below.refl _ w) (.cells #[.int .i64 0, .int .i64 0, .int .i64 0, .slice none 0 0] 30)))
  have HB0 := Aside0.mk (blk_new w (.cells #[.int .i64 0, .int .i64 0, .int .i64 0, .slice none 0 0] 30))
  have HT0 := Aside0.mk (DecTo.alloc (.cells #[.int .i64 0, .int .i64 0, .int .i64 0, .slice none 0 0] 30) hlt)
  clear hd
  go_enter Tryd.func61, Tryd.ntmps61
  go_wp2_with (fail)
  refine (next_int_calls k g l l0 e e0 x0 (w.alloc (.cells #[.int .i64 0, .int .i64 0, .int .i64 0, .slice none 0 0] 30)) HD.out H0.out).mono ?_
  rintro e_ w1 ⟨rfl, hd, ht⟩
  have HD1 := Aside0.mk hd
  have HB1 := Aside0.mk (ht.blk HB0.out (by omega))
  have HT1 := Aside0.mk (HT0.out.trans ht)
  clear hd ht
  go_wp2_with (fail)
  refine (next_int_calls k g l0 l1 e0 e1 x1 w1 HD1.out H1.out).mono ?_
  rintro e_ w2 ⟨rfl, hd, ht⟩
  have HD2 := Aside0.mk hd
  have HB2 := Aside0.mk (ht.blk HB1.out (by omega))
  have HT2 := Aside0.mk (HT1.out.trans ht)
  clear hd ht
  go_wp2_with (fail)
  refine (next_int_calls k g l1 l2 e1 e2 x2 w2 HD2.out H2.out).mono ?_
  rintro e_ w3 ⟨rfl, hd, ht⟩
  have HD3 := Aside0.mk hd
  have HB3 := Aside0.mk (ht.blk HB2.out (by omega))
  have HT3 := Aside0.mk (HT2.out.trans ht)
  clear hd ht
  go_wp2_with (fail)
  refine (digests_calls k g l2 l3 e2 e3 x3 w3 HD3.out H3.out).mono ?_
  rintro e_ w4 ⟨⟨v3, rfl, hR3⟩, hd, ht⟩
  have HD4 := Aside0.mk hd
  have HB4 := Aside0.mk (ht.blk HB3.out (by omega))
  have HT4 := Aside0.mk (HT3.out.trans ht)
  have HR3 := Aside0.mk hR3
  clear hR3
  clear hd ht
  have z0 := blk_cell HB4.out 0
  have z1 := blk_cell HB4.out 1
  have z2 := blk_cell HB4.out 2
  have z3 := blk_cell HB4.out 3
  have zf := blk_frozen HB4.out
  have hsz : (w.alloc (.cells #[.int .i64 0, .int .i64 0, .int .i64 0, .slice none 0 0] 30)).heap.size = w.heap.size + 1 := World.size_alloc _ _
  have hsz1 := blk_lt HB1.out
  have hsz2 := blk_lt HB2.out
  have hsz3 := blk_lt HB3.out
  have hsz4 := blk_lt HB4.out
  obtain ⟨A3, c3, rfl⟩ := Kd.R_slice HR3.out
  go_wp2_with (fail)
  refine bodyPost_ret (results_cell_row rfl _ _ w.heap.size 30 _ (0, 0) _ rfl (blk_put (blk_put (blk_put (blk_put (HB4.out) 0 _ rfl) 1 _ rfl) 2 _ rfl) 3 _ rfl) Tryd.underlying30 rfl (by kernel_rfl)) rfl ?_
  exact ⟨_, rfl, R_out (R_far (R_far (R_far (R_far (HR3.out) (by show w.heap.size < _; omega) _) (by show w.heap.size < _; omega) _) (by show w.heap.size < _; omega) _) (by show w.heap.size < _; omega) _) (by omega), Dec.far (Dec.far (Dec.far (Dec.far (HD4.out) hlt _) hlt _) hlt _) hlt _, DecTo.far (DecTo.far (DecTo.far (DecTo.far (HT4.out) hlt (Nat.le_refl _) _) hlt (Nat.le_refl _) _) hlt (Nat.le_refl _) _) hlt (Nat.le_refl _) _⟩
def sigP (k : Nat) (l : List Int) (e : Int) : Option (S72 × List Int × Int) := (nextP (wire_GetInt.f k) 0 l e).bind fun a0 => (nextP (wire_GetInt.f k) 0 a0.2.1 a0.2.2).bind fun a1 => (nextP (wire_GetDigests.f k) [] a1.2.1 a1.2.2).bind fun a2 => (nextP (wire_GetDigests.f k) [] a2.2.1 a2.2.2).bind fun a3 => some (⟨a0.1, a1.1, a2.1, a3.1⟩, a3.2.1, a3.2.2)
set_option maxRecDepth 100000 in
set_option maxHeartbeats 1000000 in
theorem sig_calls (k g : Nat) (l l' : List Int) (e e' : Int) (x : S72) (w : World) (hd : Dec w g l e) (h : sigP k l e = some (x, l', e')) :
    Calls Tryd.prog 85 #[.pointer (some ⟨g, 0, none⟩)] w fun o w' => ∃ v2 v3 : Value, o = .returned (.agg #[.int .i64 x.f0, .int .i64 x.f1.f0, v2, v3]) ∧ Kd.R k38 38 w' w.heap.size (fun k => True) v2 x.f1.f1 ∧ Kd.R k38 38 w' w.heap.size (fun k => some k ≠ v2.ownBlock) v3 x.f1.f2 ∧ Dec w' g l' e' ∧ DecTo w w' g := by
  have hlt := hd.lt
  unfold sigP at h
  obtain ⟨⟨x0, l0, e0⟩, h0, h⟩ := Option.bind_eq_some_iff.1 h
  have H0 := Aside0.mk h0
  clear h0
  obtain ⟨⟨x1, l1, e1⟩, h1, h⟩ := Option.bind_eq_some_iff.1 h
  have H1 := Aside0.mk h1
  clear h1
  obtain ⟨⟨x2, l2, e2⟩, h2, h⟩ := Option.bind_eq_some_iff.1 h
  have H2 := Aside0.mk h2
  clear h2
  obtain ⟨⟨x3, l3, e3⟩, h3, h⟩ := Option.bind_eq_some_iff.1 h
  have H3 := Aside0.mk h3
  clear h3
  simp only [Option.some.injEq, Prod.mk.injEq] at h
  obtain ⟨rfl, rfl, rfl⟩ := h
  have HD := Aside0.mk (hd.below (below_alloc (Below.refl _ w) (.cells #[.int .i64 0, .int .i64 0, .slice none 0 0, .slice none 0 0] 72)))
  have HB0 := Aside0.mk (blk_new w (.cells #[.int .i64 0, .int .i64 0, .slice none 0 0, .slice none 0 0] 72))
  have HT0 := Aside0.mk (DecTo.alloc (.cells #[.int .i64 0, .int .i64 0, .slice none 0 0, .slice none 0 0] 72) hlt)
  clear hd
  go_enter Tryd.func85, Tryd.ntmps85
  go_wp2_with (fail)
  refine (next_int_calls k g l l0 e e0 x0 (w.alloc (.cells #[.int .i64 0, .int .i64 0, .slice none 0 0, .slice none 0 0] 72)) HD.out H0.out).mono ?_
  rintro e_ w1 ⟨rfl, hd, ht⟩
  have HD1 := Aside0.mk hd
  have HB1 := Aside0.mk (ht.blk HB0.out (by omega))
  have HT1 := Aside0.mk (HT0.out.trans ht)
  clear hd ht
  go_wp2_with (fail)
  refine (next_int_calls k g l0 l1 e0 e1 x1 w1 HD1.out H1.out).mono ?_
  rintro e_ w2 ⟨rfl, hd, ht⟩
  have HD2 := Aside0.mk hd
  have HB2 := Aside0.mk (ht.blk HB1.out (by omega))
  have HT2 := Aside0.mk (HT1.out.trans ht)
  clear hd ht
  go_wp2_with (fail)
  refine (digests_calls k g l1 l2 e1 e2 x2 w2 HD2.out H2.out).mono ?_
  rintro e_ w3 ⟨⟨v2, rfl, hR2⟩, hd, ht⟩
  have HD3 := Aside0.mk hd
  have HB3 := Aside0.mk (ht.blk HB2.out (by omega))
  have HT3 := Aside0.mk (HT2.out.trans ht)
  have HR2 := Aside0.mk hR2
  clear hR2
  clear hd ht
  go_wp2_with (fail)
  refine (digests_calls k g l2 l3 e2 e3 x3 w3 HD3.out H3.out).mono ?_
  rintro e_ w4 ⟨⟨v3, rfl, hR3⟩, hd, ht⟩
  have HD4 := Aside0.mk hd
  have HB4 := Aside0.mk (ht.blk HB3.out (by omega))
  have HT4 := Aside0.mk (HT3.out.trans ht)
  have HR3 := Aside0.mk (R_new hR3 (Kd.R_lt HR2.out))
  clear hR3
  have HR2 := Aside0.mk (R_dec HR2.out (by have := HT2.out.size; omega) ht)
  clear hd ht
  have z0 := blk_cell HB4.out 0
  have z1 := blk_cell HB4.out 1
  have z2 := blk_cell HB4.out 2
  have z3 := blk_cell HB4.out 3
  have zf := blk_frozen HB4.out
  have hsz : (w.alloc (.cells #[.int .i64 0, .int .i64 0, .slice none 0 0, .slice none 0 0] 72)).heap.size = w.heap.size + 1 := World.size_alloc _ _
  have hsz1 := blk_lt HB1.out
  have hsz2 := blk_lt HB2.out
  have hsz3 := blk_lt HB3.out
  have hsz4 := blk_lt HB4.out
  obtain ⟨A2, c2, rfl⟩ := Kd.R_slice HR2.out
  obtain ⟨A3, c3, rfl⟩ := Kd.R_slice HR3.out
  go_wp2_with (fail)
  refine bodyPost_ret (results_cell_row rfl _ _ w.heap.size 72 _ (0, 0) _ rfl (blk_put (blk_put (blk_put (blk_put (HB4.out) 0 _ rfl) 1 _ rfl) 2 _ rfl) 3 _ rfl) Tryd.underlying72 rfl (by kernel_rfl)) rfl ?_
  exact ⟨_, _, rfl, R_out (R_far (R_far (R_far (R_far (HR2.out) (by show w.heap.size < _; omega) _) (by show w.heap.size < _; omega) _) (by show w.heap.size < _; omega) _) (by show w.heap.size < _; omega) _) (by omega), R_out (R_far (R_far (R_far (R_far (HR3.out) (by show w.heap.size < _; omega) _) (by show w.heap.size < _; omega) _) (by show w.heap.size < _; omega) _) (by show w.heap.size < _; omega) _) (by omega), Dec.far (Dec.far (Dec.far (Dec.far (HD4.out) hlt _) hlt _) hlt _) hlt _, DecTo.far (DecTo.far (DecTo.far (DecTo.far (HT4.out) hlt (Nat.le_refl _) _) hlt (Nat.le_refl _) _) hlt (Nat.le_refl _) _) hlt (Nat.le_refl _) _⟩
end Go.Proofs.YtfdgihdmhdhpcaaDoor.P
end
section
namespace Go.Proofs.YtfdgihdmhdhpcaaDoor.P
open Go.RowKit Go.Proofs.YtfdgihdmhdhpcaaDoorW.PrintWords Go.Proofs.YtfdgihdmhdhpcaaDoorW.PrintLast Go.Proofs.YtfdgihdmhdhpcaaDoorW.PrintMore
attribute [local go_sem] max2_int min2_int max_two min_two max_three min_three max_four min_four
set_option linter.unusedVariables false
set_option linter.unusedSimpArgs false
theorem Dec.low {w w' : World} {g B : Nat} {l : List Int} {e : Int} (h : Dec w g l e) (hb : Below B w w') (hg : g < B) : Dec w' g l e := by
  obtain ⟨A, c, h1, h2, h3, h4⟩ := h
  exact ⟨A, c, (hb.block g hg).trans h1, h2, h3, fun W hk => h4 W ((hb.mono (Nat.le_of_lt hg)).trans hk)⟩
theorem DecTo.low {w w' w1 : World} {g : Nat} (h : DecTo w w' g) (hb : Below w.heap.size w' w1) (hg : g < w.heap.size) : DecTo w w1 g :=
  ⟨h.1.trans (hb.mono (Nat.le_of_lt hg)), Nat.le_trans h.2.1 hb.size, fun i hi hne hr => (hb.block i hi).trans (h.2.2 i hi hne hr)⟩
theorem sig_M {w' : World} {base B : Nat} {v2 v3 : Value} {x : S72} {ok2 ok3 : Nat → Prop} (h2 : Kd.R k38 38 w' B ok2 v2 x.f1.f1) (h3 : Kd.R k38 38 w' B ok3 v3 x.f1.f2) (hb : base ≤ B) :
    k72.M w' base (fun k => B ≤ k) x [.int .i64 x.f0, .int .i64 x.f1.f0, v2, v3] :=
  k72_mkM _ _ _ x (Kd.R_lower (Kd.R_mono (Kd.R_bound h2) (fun _ hk => hk.2.1)) hb) (Kd.R_lower (Kd.R_mono (Kd.R_bound h3) (fun _ hk => hk.2.1)) hb)
/-- list: elements one by one, till the first error. -/
def loopP {α : Type} (get : List Int → Int → Option (α × List Int × Int)) : Nat → List α → List Int → Int → Option (List α × List Int × Int)
  | 0, acc, l, e => some (acc, l, e)
  | m + 1, acc, l, e => if e ≠ 0 then some (acc, l, e) else (get l e).bind fun t => loopP get m (acc ++ [t.1]) t.2.1 t.2.2
def listP {α : Type} (k : Nat) (get : List Int → Int → Option (α × List Int × Int)) (l : List Int) (e : Int) : Option (List α × List Int × Int) :=
  (nextP (wire_GetInt.f k) 0 l e).bind fun a => if a.2.2 ≠ 0 then some ([], a.2.1, a.2.2) else if a.1 < 0 then some ([], a.2.1, 7) else if a.1 > (a.2.1.length : Int) then some ([], a.2.1, 6) else if a.1 * 64 ≤ 140737488355328 then loopP get a.1.toNat [] a.2.1 0 else none
theorem loopP_stop {α : Type} {get : List Int → Int → Option (α × List Int × Int)} (m : Nat) (acc : List α) (l : List Int) (e : Int) (he : e ≠ 0) : loopP get m acc l e = some (acc, l, e) := by
  cases m with
  | zero => rfl
  | succ m => rw [loopP, if_pos he]
set_option maxRecDepth 100000 in
set_option maxHeartbeats 1000000 in
theorem list_signed_calls (k g : Nat) (l l' : List Int) (e e' : Int) (x : List S72) (w : World) (hd : Dec w g l e) (h : listP k (sigP k) l e = some (x, l', e')) :
    Calls Tryd.prog 87 #[.pointer (some ⟨g, 0, none⟩), .func (.func 85) #[.pointer (some ⟨g, 0, none⟩)] #[]] w fun o w' => (∃ v0_, o = .returned v0_ ∧ Kd.R k72 72 w' w.heap.size (fun _ => True) v0_ x) ∧ Dec w' g l' e' ∧ DecTo w w' g := by
  have hlt := hd.lt
  unfold listP at h
  obtain ⟨⟨n, l1, e1⟩, ha, h⟩ := Option.bind_eq_some_iff.1 h
  have HD := Aside0.mk hd
  have HA := Aside0.mk ha
  clear hd ha
  simp only at h
  have H := Aside0.mk h
  clear h
  go_enter Tryd.func87, Tryd.ntmps87
  go_wp2_with (fail)
  refine (next_int_calls k g l l1 e e1 n w HD.out HA.out).mono ?_
  rintro e_ w1 ⟨rfl, hd1, ht1⟩
  have HD1 := Aside0.mk hd1
  have HT1 := Aside0.mk ht1
  clear HD HA ht1
  obtain ⟨A, c, h1, h2, h3, -⟩ := hd1
  have z0 : w1.cell? ⟨g, 0, none⟩ = some (.slice A l1.length c) := blk_cell h1 0
  have z1 : w1.cell? ⟨g, 1, none⟩ = some (.int .i64 e1) := blk_cell h1 1
  have zf := blk_frozen h1
  clear h1
  by_cases he1 : e1 ≠ 0
  · have h := H.out
    clear H
    rw [if_pos he1] at h
    simp only [Option.some.injEq, Prod.mk.injEq] at h
    obtain ⟨rfl, rfl, rfl⟩ := h
    go_wp2_with (fail)
    go_loopw [6, 7] (fun v6 v7 W => v6 = .slice none 0 0 ∧ v7 = .int .i64 0 ∧ W = w1) (fun _ v _ => 0)
    case atStart => exact ⟨rfl, rfl, rfl⟩
    case round =>
      obtain ⟨rfl, rfl, hW⟩ := hrel
      subst hW
      by_cases hn0 : 0 < n
      · have hb3 : (e1 == 0) = false := by simpa using he1
        go_wp2_with (fail)
        go_ret
        exact ⟨⟨_, rfl, Kd.R_nil _ _ _ _ _⟩, HD1.out, HT1.out⟩
      go_wp2_with (fail)
      go_ret
      exact ⟨⟨_, rfl, Kd.R_nil _ _ _ _ _⟩, HD1.out, HT1.out⟩
  · have h := H.out
    clear H
    rw [if_neg he1] at h
    obtain rfl : e1 = 0 := by omega
    clear he1
    by_cases hn : n < 0
    · rw [if_pos hn] at h
      simp only [Option.some.injEq, Prod.mk.injEq] at h
      obtain ⟨rfl, rfl, rfl⟩ := h
      go_wp2_with (fail)
      go_loopw [6, 7] (fun v6 v7 W => v6 = .slice none 0 0 ∧ v7 = .int .i64 0 ∧ W = (w1.setCell ⟨g, 1, none⟩ (.int .i64 7))) (fun _ v _ => 0)
      case atStart => exact ⟨rfl, rfl, rfl⟩
      case round =>
        obtain ⟨rfl, rfl, hW⟩ := hrel
        subst hW
        go_wp2_with (fail)
        go_ret
        exact ⟨⟨_, rfl, Kd.R_nil _ _ _ _ _⟩, HD1.out.err 7, HT1.out.set 1 _⟩
    · rw [if_neg hn] at h
      by_cases hn2 : n > (l1.length : Int)
      · rw [if_pos hn2] at h
        simp only [Option.some.injEq, Prod.mk.injEq] at h
        obtain ⟨rfl, rfl, rfl⟩ := h
        go_wp2_with (fail)
        go_loopw [6, 7] (fun v6 v7 W => v6 = .slice none 0 0 ∧ v7 = .int .i64 0 ∧ W = (w1.setCell ⟨g, 1, none⟩ (.int .i64 6))) (fun _ v _ => 0)
        case atStart => exact ⟨rfl, rfl, rfl⟩
        case round =>
          obtain ⟨rfl, rfl, hW⟩ := hrel
          subst hW
          go_wp2_with (fail)
          go_ret
          exact ⟨⟨_, rfl, Kd.R_nil _ _ _ _ _⟩, HD1.out.err 6, HT1.out.set 1 _⟩
      · rw [if_neg hn2] at h
        by_cases hn3 : n * 64 ≤ 140737488355328
        case neg => rw [if_neg hn3] at h; cases h
        rw [if_pos hn3] at h
        obtain ⟨N, rfl⟩ := Int.eq_ofNat_of_zero_le (by omega : 0 ≤ n)
        rw [Int.toNat_natCast] at h
        have H := Aside0.mk h
        clear h
        have hN : N * 64 ≤ 140737488355328 := by omega
        have hN2 : N ≤ l1.length := by omega
        clear hn hn2 hn3
        go_wp2_with (fail)
        have eb0 : decide (l1.length < N) = false := decide_eq_false (by omega)
        have eb1 : decide ((N : Int) < 0) = false := decide_eq_false (by omega)
        simp only [eb0, eb1]
        clear eb0 eb1
        go_loopw [6, 7] (fun v6 v7 W => ∃ (i : Nat) (acc : List S72) (lq : List Int) (eq : Int), i ≤ N ∧ v7 = .int .i64 i ∧ acc.length = i ∧ loopP (sigP k) (N - i) acc lq eq = some (x, l', e') ∧ Kd.R k72 72 W w.heap.size (fun _ => True) v6 acc ∧ Dec W g lq eq ∧ DecTo w W g) (fun _ v _ => N - (intOf v).toNat)
        case atStart => exact ⟨0, [], l1, 0, Nat.zero_le _, rfl, rfl, H.out, Kd.R_nil _ _ _ _ _, HD1.out, HT1.out⟩
        case round =>
          obtain ⟨i, acc, lq, eq, hi, rfl, hacc, hl, hR, hdq, htq⟩ := hrel
          have HL := Aside0.mk hl
          have HR := Aside0.mk hR
          have HDQ := Aside0.mk hdq
          have HTQ := Aside0.mk htq
          clear hl hR htq z0 z1 zf H HD1 HT1
          obtain ⟨A, c, h1, -, -, -⟩ := hdq
          have z1 : wr.cell? ⟨g, 1, none⟩ = some (.int .i64 eq) := blk_cell h1 1
          have zf := blk_frozen h1
          clear h1
          by_cases hlt2 : i < N
          · by_cases heq : eq ≠ 0
            · have hl := HL.out
              rw [loopP_stop _ _ _ _ heq] at hl
              simp only [Option.some.injEq, Prod.mk.injEq] at hl
              obtain ⟨rfl, rfl, rfl⟩ := hl
              clear HL
              have hb3 : (eq == 0) = false := by simpa using heq
              go_wp2_with (fail)
              go_ret
              exact ⟨⟨_, rfl, HR.out⟩, HDQ.out, HTQ.out⟩
            · have hl := HL.out
              obtain rfl : eq = 0 := by omega
              obtain ⟨M, hM⟩ : ∃ M, N - i = M + 1 := ⟨N - i - 1, by omega⟩
              rw [hM, loopP, if_neg heq] at hl
              obtain ⟨⟨y, l2, e2⟩, hy, hl⟩ := Option.bind_eq_some_iff.1 hl
              have HY := Aside0.mk hy
              have HM := Aside0.mk (show N - (i + 1) = M by omega)
              have HL2 := Aside0.mk hl
              clear hl hy heq hM HL
              go_wp2_with (fail)
              refine (sig_calls k g lq l2 0 e2 y wr HDQ.out HY.out).mono ?_
              rintro e_ w2 ⟨v4, v5, rfl, hR4, hR5, hd2, ht2⟩
              have HD2 := Aside0.mk hd2
              have HT2 := Aside0.mk (HTQ.out.trans ht2)
              have HR2 := Aside0.mk (R_dec HR.out hlt ht2)
              have HLT := Aside0.mk (Kd.R_lt HR.out)
              have HSZ := Aside0.mk HTQ.out.size
              have HSZ2 := Aside0.mk HT2.out.size
              have HM4 := Aside0.mk (sig_M hR4 hR5 HSZ.out)
              clear hR4 hR5
              clear hd2 ht2
              subst hacc
              go_wp2_with (((with_reducible refine gate_builtin (b := .append) (xs := #[.tmp 45, .tmp 48]) rfl ?_); at_builtin; refine Kd.R_append k72 (w0 := w2) w.heap.size rfl (.tmp 45) (.tmp 48) 25 72 _ 64 rfl Tryd.underlying25 info72 rfl (by show 0 < 4; decide) (by omega) u6 acc y [.int .i64 y.f0, .int .i64 y.f1.f0, v4, v5] (fun _ => True) (fun k => wr.heap.size ≤ k) rfl rfl HM4.out (fun k hk => ⟨trivial, fun he => by have := HLT.out k he.symm; omega⟩) (fun _ _ => trivial) HR2.out (Below.refl _ _) HSZ2.out (by omega) ?_; intro v3 w3 ho hb hg hat; have HR3 := Aside0.mk ho; have HB3 := Aside0.mk hb; clear ho hb hg hat))
              go_roundw
              case rel => exact ⟨acc.length + 1, acc ++ [y], l2, e2, by omega, by go_num, by simp, by rw [HM.out]; exact HL2.out, HR3.out, HD2.out.low HB3.out hlt, HT2.out.low HB3.out hlt⟩
              case measure => simp [intOf]; omega
          · obtain rfl : i = N := by omega
            have hl := HL.out
            rw [Nat.sub_self, loopP] at hl
            simp only [Option.some.injEq, Prod.mk.injEq] at hl
            obtain ⟨rfl, rfl, rfl⟩ := hl
            clear HL
            go_wp2_with (fail)
            go_ret
            exact ⟨⟨_, rfl, HR.out⟩, HDQ.out, HTQ.out⟩
set_option maxRecDepth 100000 in
set_option maxHeartbeats 1000000 in
theorem list_strings_calls (k g : Nat) (l l' : List Int) (e e' : Int) (x : List ByteArray) (w : World) (hd : Dec w g l e) (h : listP k (nextP (wire_GetBytes.f k) (⟨#[]⟩ : ByteArray)) l e = some (x, l', e')) :
    Calls Tryd.prog 88 #[.pointer (some ⟨g, 0, none⟩), .func (.func 86) #[.pointer (some ⟨g, 0, none⟩)] #[]] w fun o w' => (∃ v0_, o = .returned v0_ ∧ Kd.R Kd.string 9 w' w.heap.size (fun _ => True) v0_ x) ∧ Dec w' g l' e' ∧ DecTo w w' g := by
  have hlt := hd.lt
  unfold listP at h
  obtain ⟨⟨n, l1, e1⟩, ha, h⟩ := Option.bind_eq_some_iff.1 h
  have HD := Aside0.mk hd
  have HA := Aside0.mk ha
  clear hd ha
  simp only at h
  have H := Aside0.mk h
  clear h
  go_enter Tryd.func88, Tryd.ntmps88
  go_wp2_with (fail)
  refine (next_int_calls k g l l1 e e1 n w HD.out HA.out).mono ?_
  rintro e_ w1 ⟨rfl, hd1, ht1⟩
  have HD1 := Aside0.mk hd1
  have HT1 := Aside0.mk ht1
  clear HD HA ht1
  obtain ⟨A, c, h1, h2, h3, -⟩ := hd1
  have z0 : w1.cell? ⟨g, 0, none⟩ = some (.slice A l1.length c) := blk_cell h1 0
  have z1 : w1.cell? ⟨g, 1, none⟩ = some (.int .i64 e1) := blk_cell h1 1
  have zf := blk_frozen h1
  clear h1
  by_cases he1 : e1 ≠ 0
  · have h := H.out
    clear H
    rw [if_pos he1] at h
    simp only [Option.some.injEq, Prod.mk.injEq] at h
    obtain ⟨rfl, rfl, rfl⟩ := h
    go_wp2_with (fail)
    go_loopw [6, 7] (fun v6 v7 W => v6 = .slice none 0 0 ∧ v7 = .int .i64 0 ∧ W = w1) (fun _ v _ => 0)
    case atStart => exact ⟨rfl, rfl, rfl⟩
    case round =>
      obtain ⟨rfl, rfl, hW⟩ := hrel
      subst hW
      by_cases hn0 : 0 < n
      · have hb3 : (e1 == 0) = false := by simpa using he1
        go_wp2_with (fail)
        go_ret
        exact ⟨⟨_, rfl, Kd.R_nil _ _ _ _ _⟩, HD1.out, HT1.out⟩
      go_wp2_with (fail)
      go_ret
      exact ⟨⟨_, rfl, Kd.R_nil _ _ _ _ _⟩, HD1.out, HT1.out⟩
  · have h := H.out
    clear H
    rw [if_neg he1] at h
    obtain rfl : e1 = 0 := by omega
    clear he1
    by_cases hn : n < 0
    · rw [if_pos hn] at h
      simp only [Option.some.injEq, Prod.mk.injEq] at h
      obtain ⟨rfl, rfl, rfl⟩ := h
      go_wp2_with (fail)
      go_loopw [6, 7] (fun v6 v7 W => v6 = .slice none 0 0 ∧ v7 = .int .i64 0 ∧ W = (w1.setCell ⟨g, 1, none⟩ (.int .i64 7))) (fun _ v _ => 0)
      case atStart => exact ⟨rfl, rfl, rfl⟩
      case round =>
        obtain ⟨rfl, rfl, hW⟩ := hrel
        subst hW
        go_wp2_with (fail)
        go_ret
        exact ⟨⟨_, rfl, Kd.R_nil _ _ _ _ _⟩, HD1.out.err 7, HT1.out.set 1 _⟩
    · rw [if_neg hn] at h
      by_cases hn2 : n > (l1.length : Int)
      · rw [if_pos hn2] at h
        simp only [Option.some.injEq, Prod.mk.injEq] at h
        obtain ⟨rfl, rfl, rfl⟩ := h
        go_wp2_with (fail)
        go_loopw [6, 7] (fun v6 v7 W => v6 = .slice none 0 0 ∧ v7 = .int .i64 0 ∧ W = (w1.setCell ⟨g, 1, none⟩ (.int .i64 6))) (fun _ v _ => 0)
        case atStart => exact ⟨rfl, rfl, rfl⟩
        case round =>
          obtain ⟨rfl, rfl, hW⟩ := hrel
          subst hW
          go_wp2_with (fail)
          go_ret
          exact ⟨⟨_, rfl, Kd.R_nil _ _ _ _ _⟩, HD1.out.err 6, HT1.out.set 1 _⟩
      · rw [if_neg hn2] at h
        by_cases hn3 : n * 64 ≤ 140737488355328
        case neg => rw [if_neg hn3] at h; cases h
        rw [if_pos hn3] at h
        obtain ⟨N, rfl⟩ := Int.eq_ofNat_of_zero_le (by omega : 0 ≤ n)
        rw [Int.toNat_natCast] at h
        have H := Aside0.mk h
        clear h
        have hN : N * 64 ≤ 140737488355328 := by omega
        have hN2 : N ≤ l1.length := by omega
        clear hn hn2 hn3
        go_wp2_with (fail)
        have eb0 : decide (l1.length < N) = false := decide_eq_false (by omega)
        have eb1 : decide ((N : Int) < 0) = false := decide_eq_false (by omega)
        simp only [eb0, eb1]
        clear eb0 eb1
        go_loopw [6, 7] (fun v6 v7 W => ∃ (i : Nat) (acc : List ByteArray) (lq : List Int) (eq : Int), i ≤ N ∧ v7 = .int .i64 i ∧ acc.length = i ∧ loopP (nextP (wire_GetBytes.f k) (⟨#[]⟩ : ByteArray)) (N - i) acc lq eq = some (x, l', e') ∧ Kd.R Kd.string 9 W w.heap.size (fun _ => True) v6 acc ∧ Dec W g lq eq ∧ DecTo w W g) (fun _ v _ => N - (intOf v).toNat)
        case atStart => exact ⟨0, [], l1, 0, Nat.zero_le _, rfl, rfl, H.out, Kd.R_nil _ _ _ _ _, HD1.out, HT1.out⟩
        case round =>
          obtain ⟨i, acc, lq, eq, hi, rfl, hacc, hl, hR, hdq, htq⟩ := hrel
          have HL := Aside0.mk hl
          have HR := Aside0.mk hR
          have HDQ := Aside0.mk hdq
          have HTQ := Aside0.mk htq
          clear hl hR htq z0 z1 zf H HD1 HT1
          obtain ⟨A, c, h1, -, -, -⟩ := hdq
          have z1 : wr.cell? ⟨g, 1, none⟩ = some (.int .i64 eq) := blk_cell h1 1
          have zf := blk_frozen h1
          clear h1
          by_cases hlt2 : i < N
          · by_cases heq : eq ≠ 0
            · have hl := HL.out
              rw [loopP_stop _ _ _ _ heq] at hl
              simp only [Option.some.injEq, Prod.mk.injEq] at hl
              obtain ⟨rfl, rfl, rfl⟩ := hl
              clear HL
              have hb3 : (eq == 0) = false := by simpa using heq
              go_wp2_with (fail)
              go_ret
              exact ⟨⟨_, rfl, HR.out⟩, HDQ.out, HTQ.out⟩
            · have hl := HL.out
              obtain rfl : eq = 0 := by omega
              obtain ⟨M, hM⟩ : ∃ M, N - i = M + 1 := ⟨N - i - 1, by omega⟩
              rw [hM, loopP, if_neg heq] at hl
              obtain ⟨⟨y, l2, e2⟩, hy, hl⟩ := Option.bind_eq_some_iff.1 hl
              have HY := Aside0.mk hy
              have HM := Aside0.mk (show N - (i + 1) = M by omega)
              have HL2 := Aside0.mk hl
              clear hl hy heq hM HL
              go_wp2_with (fail)
              refine (stage_calls k g lq l2 0 e2 y wr HDQ.out HY.out).mono ?_
              rintro e_ w2 ⟨rfl, hd2, ht2⟩
              have HD2 := Aside0.mk hd2
              have HT2 := Aside0.mk (HTQ.out.trans ht2)
              have HR2 := Aside0.mk (R_dec HR.out hlt ht2)
              have HLT := Aside0.mk (Kd.R_lt HR.out)
              have HSZ := Aside0.mk HTQ.out.size
              have HSZ2 := Aside0.mk HT2.out.size
              skip
              clear hd2 ht2
              subst hacc
              go_wp2_with (((with_reducible refine gate_builtin (b := .append) (xs := #[.tmp 45, .tmp 48]) rfl ?_); at_builtin; refine Kd.R_append Kd.string (w0 := w2) w.heap.size rfl (.tmp 45) (.tmp 48) 26 9 _ 16 rfl Tryd.underlying26 info9 rfl (by show 0 < 1; decide) (by omega) u6 acc y [.string y] (fun _ => True) (fun _ => False) rfl rfl rfl (fun k hk => hk.elim) (fun _ _ => trivial) HR2.out (Below.refl _ _) HSZ2.out (by omega) ?_; intro v3 w3 ho hb hg hat; have HR3 := Aside0.mk ho; have HB3 := Aside0.mk hb; clear ho hb hg hat))
              go_roundw
              case rel => exact ⟨acc.length + 1, acc ++ [y], l2, e2, by omega, by go_num, by simp, by rw [HM.out]; exact HL2.out, HR3.out, HD2.out.low HB3.out hlt, HT2.out.low HB3.out hlt⟩
              case measure => simp [intOf]; omega
          · obtain rfl : i = N := by omega
            have hl := HL.out
            rw [Nat.sub_self, loopP] at hl
            simp only [Option.some.injEq, Prod.mk.injEq] at hl
            obtain ⟨rfl, rfl, rfl⟩ := hl
            clear HL
            go_wp2_with (fail)
            go_ret
            exact ⟨⟨_, rfl, HR.out⟩, HDQ.out, HTQ.out⟩
end Go.Proofs.YtfdgihdmhdhpcaaDoor.P
end
section
namespace Go.Proofs.YtfdgihdmhdhpcaaDoor.P
open Go.RowKit Go.Proofs.YtfdgihdmhdhpcaaDoorW.PrintWords Go.Proofs.YtfdgihdmhdhpcaaDoorW.PrintLast Go.Proofs.YtfdgihdmhdhpcaaDoorW.PrintMore
attribute [local go_sem] max2_int min2_int max_two min_two max_three min_three max_four min_four
set_option linter.unusedVariables false
set_option linter.unusedSimpArgs false
abbrev O32 : Obj := .cells #[.int .i64 0, .int .i64 0, .int .i64 0, .slice none 0 0, .slice none 0 0] 32
abbrev O28 : Obj := .cells #[.int .i64 0, .int .i64 0, .int .i64 0, .slice none 0 0, .slice none 0 0, .slice none 0 0] 28
def rotP (k : Nat) (l : List Int) (e : Int) : Option (S32 × List Int × Int) := (keysP k l e).bind fun a => (listP k (sigP k) a.2.1 a.2.2).bind fun b => some (⟨a.1, b.1⟩, b.2.1, b.2.2)
def dec68.T2 : Bool × List (List Nat × List Nat) := (true, [([], []), ([], []), ([], []), ([2], [2]), ([1, 3], [1, 3]), ([0, 4], [0, 4]), ([5, 4, 0, 1, 2, 3, 4, 5], [5])])
def dec68.B2 : List Nat := [0, 0, 0, 4, 14, 31, 63]
theorem dec68.tab2 : rtab .any (opsOf Tryd.f68 2) = dec68.T2 := by kernel_rfl
theorem dec68.bits2 : waitsOk dec68.T2.2 dec68.B2 = true := by kernel_rfl
set_option maxRecDepth 100000 in
set_option maxHeartbeats 1000000 in
theorem rot_calls (k g : Nat) (l l' : List Int) (e e' : Int) (x : S32) (w : World) (hd : Dec w g l e) (h : rotP k l e = some (x, l', e')) :
    Calls Tryd.prog 68 #[.pointer (some ⟨g, 0, none⟩)] w fun o w' => ∃ v3 v4 : Value, o = .returned (.agg #[.int .i64 x.f0.f0, .int .i64 x.f0.f1, .int .i64 x.f0.f2, v3, v4]) ∧ Kd.R k38 38 w' w.heap.size (fun k => True) v3 x.f0.f3 ∧ Kd.R k72 72 w' w.heap.size (fun k => some k ≠ v3.ownBlock) v4 x.f1 ∧ Dec w' g l' e' ∧ DecTo w w' g := by
  have hlt := hd.lt
  unfold rotP at h
  obtain ⟨⟨x0, l0, e0⟩, h0, h⟩ := Option.bind_eq_some_iff.1 h
  obtain ⟨⟨x1, l1, e1⟩, h1, h⟩ := Option.bind_eq_some_iff.1 h
  simp only [Option.some.injEq, Prod.mk.injEq] at h
  obtain ⟨rfl, rfl, rfl⟩ := h
  have H0 := Aside0.mk h0
  have H1 := Aside0.mk h1
  clear h0 h1
  have HD := Aside0.mk (hd.below (below_alloc (Below.refl _ w) O32))
  have HB0 := Aside0.mk (blk_new w O32)
  have HT0 := Aside0.mk (DecTo.alloc O32 hlt)
  clear hd
  go_enter Tryd.func68, Tryd.ntmps68
  go_wp2_with (fail)
  refine (keys_calls k g l l0 e e0 x0 (w.alloc O32) HD.out H0.out).mono ?_
  rintro e_ w1 ⟨v3, rfl, hR3, hd1, ht1⟩
  obtain ⟨A3, c3, rfl⟩ := Kd.R_slice hR3
  have R0 := hR3
  rw [World.size_alloc] at R0
  have B0 := ht1.blk HB0.out (by omega)
  have hal := below_alloc (Below.refl _ w1) (.cells #[.int .i64 x0.f0, .int .i64 x0.f1, .int .i64 x0.f2, .slice A3 x0.f3.length c3] 30)
  have T := Aside0.mk ((HT0.out.trans ht1).trans (DecTo.of_below hal (Nat.le_of_lt hd1.lt)))
  have B := Aside0.mk (blk_below B0 hal)
  have R := Aside0.mk (R_dec R0 (by omega) (DecTo.of_below hal (Nat.le_of_lt hd1.lt)))
  have D := Aside0.mk (hd1.below hal)
  have HB1 := Aside0.mk (blk_lt B0)
  have C := Aside0.mk (blk_new w1 (.cells #[.int .i64 x0.f0, .int .i64 x0.f1, .int .i64 x0.f2, .slice A3 x0.f3.length c3] 30))
  clear hR3 hd1 ht1 R0 B0 hal HD HB0 HT0
  go_upto_region 2 with (fail)
  generalize hb1 : w1.heap.size = b1 at C HB1 ⊢
  generalize World.alloc w1 _ = w2 at T B R D C ⊢
  clear hb1
  have hdr : Below w2.heap.size w2 w2.drew := below_drew (Below.refl _ _)
  have hdt : DecTo w2 w2.drew g := DecTo.of_below hdr (Nat.le_of_lt D.out.lt)
  replace T := Aside0.mk (T.out.trans hdt)
  replace B := Aside0.mk (blk_below B.out hdr)
  replace R := Aside0.mk (R_dec R.out (by omega) hdt)
  replace C := Aside0.mk (blk_below C.out hdr)
  replace D := Aside0.mk (D.out.below hdr)
  clear hdr hdt
  refine start_ (n := 7) (S := fun w' => True) (ds := []) #[false, false, false, false, false, false, false] (by kernel_rfl) rfl rfl trivial (fun hHeld => ?_)
  refine with_tabW dec68.tab2 dec68.bits2 (fun HT_ HW_ => ?_)
  generalize hwd : w2.drew = w3 at T B R D C ⊢
  clear hwd
  refine pure_ (i := 1) (N := some 7) (v := ?_) (a' := ?_) #[false, true, false, false, false, false, false] rfl rfl (any_of HT_.out (by kernel_rfl)) (fun _ _ _ h => h) (Or.inl ⟨by rfl, ?_⟩) ?_ ?_
  rotate_left
  · intro w'
    go_simp
    with_reducible rfl
  rotate_left
  · simp only [Act.put, List.setIfInBounds_toArray, List.set_cons_zero, List.set_cons_succ, i64_w, i32_w]
    rfl
  refine pure_ (i := 2) (N := some 8) (v := ?_) (a' := ?_) #[false, true, true, false, false, false, false] rfl rfl (any_of HT_.out (by kernel_rfl)) (fun _ _ _ h => h) (Or.inl ⟨by rfl, ?_⟩) ?_ ?_
  rotate_left
  · intro w'
    go_simp
    with_reducible rfl
  rotate_left
  · simp only [Act.put, List.setIfInBounds_toArray, List.set_cons_zero, List.set_cons_succ, i64_w, i32_w]
    rfl
  refine inv_at [0, 3, 4, 5, 6] (fun a0_ b a w' => ∃ (A6 : Option Addr) (c6 : Nat) (m4_ : Value) (m5_ : Value), a = putSel a0_ b [(0, 6, .agg #[.int .i64 x0.f0, .int .i64 x0.f1, .int .i64 x0.f2, .slice A3 x0.f3.length c3]), (3, 9, .func (.func 85) #[.pointer (some ⟨g, 0, none⟩)] #[]), (4, 10, m4_), (5, 11, m5_)] ∧ (DecTo w w' g) ∧ (b 6 = false → w'.heap[w.heap.size]? = some O32) ∧ (w'.heap[b1]? = some (.cells #[.int .i64 x0.f0, .int .i64 x0.f1, .int .i64 x0.f2, .slice A3 x0.f3.length c3] 30 (0, 0))) ∧ (Kd.R k38 38 w' (w.heap.size + 1) (fun k => True) (.slice A3 x0.f3.length c3) x0.f3) ∧ (b 4 = false → Dec w' g l0 e0) ∧ (b 4 = true → Dec w' g l1 e1) ∧ (b 4 = true → Kd.R k72 72 w' (w.heap.size + 1) (fun k => some k ≠ ((.slice A3 x0.f3.length c3) : Value).ownBlock) (.slice A6 x1.length c6) x1) ∧ (b 6 = true → w'.heap[w.heap.size]? = some (.cells #[.int .i64 x0.f0, .int .i64 x0.f1, .int .i64 x0.f2, .slice A3 x0.f3.length c3, .slice A6 x1.length c6] 32 (0, 0))) ∧ (b 4 = true → (m4_ : Value) = .slice A6 x1.length c6) ∧ (b 5 = true → (m5_ : Value) = .agg #[.int .i64 x0.f0, .int .i64 x0.f1, .int .i64 x0.f2, .slice A3 x0.f3.length c3, .slice A6 x1.length c6])) HT_.out HW_.out (by kernel_rfl) (by kernel_rfl) ?_ ?_ ?_
  · exact ⟨none, 0, .bool false, .bool false, by simp only [putSel, Bool.false_eq_true, if_false], T.out, fun _ => B.out, C.out, R.out, fun _ => D.out, fun h_ => absurd h_ (by decide), fun h_ => absurd h_ (by decide), fun h_ => absurd h_ (by decide), fun h_ => absurd h_ (by decide), fun h_ => absurd h_ (by decide)⟩
  · skip
    clear B C D R T
    refine steps_cons ?_ ?_
    · rintro b a w' ⟨A6, c6, m4_, m5_, ha, Q_T, Q_B, Q_C, Q_R, Q_D, Q_E, Q_V, Q_F, Q_X4_, Q_X5_⟩ hb_ hon hoff
      refine ⟨_, rfl, fun K hK => ?_⟩
      have e3 : a.tmps[3]? = some (.pointer (some ⟨b1, 0, none⟩)) := by rw [ha]; exact (putSel_off rfl).trans rfl
      replace ha := Aside0.mk ha
      have T := Aside0.mk Q_T
      have B := Aside0.mk (Q_B (hoff 6 (by kernel_rfl)))
      have C := Aside0.mk Q_C
      have R := Aside0.mk Q_R
      have y0 := blk_cell C.out 0
      have y1 := blk_cell C.out 1
      have y2 := blk_cell C.out 2
      have y3 := blk_cell C.out 3
      refine value_ (w1 := w') (v := .agg #[.int .i64 x0.f0, .int .i64 x0.f1, .int .i64 x0.f2, .slice A3 x0.f3.length c3]) (by rfl) rfl ?_ ?_
      · go_simp
        (try simp only [i64_w, IntKind.wrap_u32])
        try first | rfl | omega
      refine hK.out _ _ ⟨A6, c6, m4_, m5_, (by rw [ha.out]; exact putSel_upk 0 hb_ rfl rfl rfl), Q_T, Q_B, Q_C, Q_R, Q_D, Q_E, Q_V, fun h0_ => absurd ((hoff 6 (by kernel_rfl)).symm.trans h0_) (by decide), Q_X4_, fun h0_ => absurd ((hoff 5 (by kernel_rfl)).symm.trans h0_) (by decide)⟩
    refine steps_cons ?_ ?_
    · rintro b a w' ⟨A6, c6, m4_, m5_, ha, Q_T, Q_B, Q_C, Q_R, Q_D, Q_E, Q_V, Q_F, Q_X4_, Q_X5_⟩ hb_ hon hoff
      refine ⟨_, rfl, fun K hK => ?_⟩
      have e8 : a.tmps[8]? = some (.pointer (some ⟨g, 0, none⟩)) := by rw [ha]; exact (putSel_off rfl).trans rfl
      replace ha := Aside0.mk ha
      have T := Aside0.mk Q_T
      have B := Aside0.mk (Q_B (hoff 6 (by kernel_rfl)))
      have C := Aside0.mk Q_C
      have R := Aside0.mk Q_R
      have D := Aside0.mk (Q_D (hoff 4 (by kernel_rfl)))
      refine value_ (w1 := w') (v := .func (.func 85) #[.pointer (some ⟨g, 0, none⟩)] #[]) (by rfl) rfl ?_ ?_
      · go_simp
        (try simp only [i64_w, IntKind.wrap_u32])
        try first | rfl | omega
      refine hK.out _ _ ⟨A6, c6, m4_, m5_, (by rw [ha.out]; exact putSel_upk 1 hb_ rfl rfl rfl), Q_T, Q_B, Q_C, Q_R, Q_D, fun h0_ => absurd ((hoff 4 (by kernel_rfl)).symm.trans h0_) (by decide), fun h0_ => absurd ((hoff 4 (by kernel_rfl)).symm.trans h0_) (by decide), fun h0_ => absurd ((hoff 6 (by kernel_rfl)).symm.trans h0_) (by decide), fun h0_ => absurd ((hoff 4 (by kernel_rfl)).symm.trans h0_) (by decide), fun h0_ => absurd ((hoff 5 (by kernel_rfl)).symm.trans h0_) (by decide)⟩
    refine steps_cons ?_ ?_
    · rintro b a w' ⟨A6, c6, m4_, m5_, ha, Q_T, Q_B, Q_C, Q_R, Q_D, Q_E, Q_V, Q_F, Q_X4_, Q_X5_⟩ hb_ hon hoff
      refine ⟨_, rfl, fun K hK => ?_⟩
      have e7 : a.tmps[7]? = some (.pointer (some ⟨g, 0, none⟩)) := by rw [ha]; exact (putSel_off rfl).trans rfl
      have e9 : a.tmps[9]? = some (.func (.func 85) #[.pointer (some ⟨g, 0, none⟩)] #[]) := by rw [ha]; exact putSel_on (e := (3, 9, .func (.func 85) #[.pointer (some ⟨g, 0, none⟩)] #[])) 1 rfl rfl (hon 3 (by kernel_rfl)) rfl
      replace ha := Aside0.mk ha
      have T := Aside0.mk Q_T
      have B := Aside0.mk (Q_B (hoff 6 (by kernel_rfl)))
      have C := Aside0.mk Q_C
      have R := Aside0.mk Q_R
      have D := Aside0.mk (Q_D hb_)
      refine goes_ Tryd.func87 (by kernel_rfl) rfl #[.pointer (some ⟨g, 0, none⟩), .func (.func 85) #[.pointer (some ⟨g, 0, none⟩)] #[]] (by rfl) rfl rfl (by first | (simp only [List.map_toArray, List.map_cons, List.map_nil, Act.eval, Array.getD_eq_getD_getElem?, Option.getD_some, e7, e9]; done) | (simp only [List.map_toArray, List.map_cons, List.map_nil, Act.eval, Array.getD_eq_getD_getElem?, Option.getD_some, e7, e9]; rfl)) ?_
      refine (list_signed_calls k g l0 l1 e0 e1 x1 w' D.out H1.out).mono ?_
      rintro e w2 ⟨⟨v5, rfl, hR5⟩, hd2, ht2⟩
      obtain ⟨A7, c7, rfl⟩ := Kd.R_slice hR5
      refine ⟨_, rfl, ?_⟩
      refine hK.out _ _ ⟨A7, c7, (.slice A7 x1.length c7), m5_, (by rw [ha.out]; exact putSel_upk 2 hb_ rfl rfl rfl), T.out.trans ht2, fun _ => ht2.blk B.out (by omega), ht2.blk C.out (by have := HB1.out; omega), R_dec R.out (by omega) ht2, fun h0_ => absurd ((up_self b 4).symm.trans h0_) (by decide), fun _ => hd2, fun _ => R_out (R_new hR5 (Kd.R_lt R.out)) (by have := blk_lt B.out; omega), fun h0_ => absurd ((hoff 6 (by kernel_rfl)).symm.trans h0_) (by decide), fun _ => rfl, fun h0_ => absurd ((hoff 5 (by kernel_rfl)).symm.trans h0_) (by decide)⟩
    refine steps_cons ?_ ?_
    · rintro b a w' ⟨A6, c6, m4_, m5_, ha, Q_T, Q_B, Q_C, Q_R, Q_D, Q_E, Q_V, Q_F, Q_X4_, Q_X5_⟩ hb_ hon hoff
      refine ⟨_, rfl, fun K hK => ?_⟩
      have e6 : a.tmps[6]? = some (.agg #[.int .i64 x0.f0, .int .i64 x0.f1, .int .i64 x0.f2, .slice A3 x0.f3.length c3]) := by rw [ha]; exact putSel_on (e := (0, 6, .agg #[.int .i64 x0.f0, .int .i64 x0.f1, .int .i64 x0.f2, .slice A3 x0.f3.length c3])) 0 rfl rfl (hon 0 (by kernel_rfl)) rfl
      have e10 : a.tmps[10]? = some (m4_) := by rw [ha]; exact putSel_on (e := (4, 10, m4_)) 2 rfl rfl (hon 4 (by kernel_rfl)) rfl
      rw [Q_X4_ (hon 4 (by kernel_rfl))] at e10
      replace ha := Aside0.mk ha
      have T := Aside0.mk Q_T
      have B := Aside0.mk (Q_B (hoff 6 (by kernel_rfl)))
      have C := Aside0.mk Q_C
      have R := Aside0.mk Q_R
      have E := Aside0.mk (Q_E (hon 4 (by kernel_rfl)))
      have V := Aside0.mk (Q_V (hon 4 (by kernel_rfl)))
      refine value_ (w1 := w') (v := .agg #[.int .i64 x0.f0, .int .i64 x0.f1, .int .i64 x0.f2, .slice A3 x0.f3.length c3, .slice A6 x1.length c6]) (by rfl) rfl ?_ ?_
      · go_simp
        (try simp only [i64_w, IntKind.wrap_u32])
        try first | rfl | omega
      refine hK.out _ _ ⟨A6, c6, m4_, (.agg #[.int .i64 x0.f0, .int .i64 x0.f1, .int .i64 x0.f2, .slice A3 x0.f3.length c3, .slice A6 x1.length c6]), (by rw [ha.out]; exact putSel_upk 3 hb_ rfl rfl rfl), Q_T, Q_B, Q_C, Q_R, fun h0_ => absurd ((hon 4 (by kernel_rfl)).symm.trans h0_) (by decide), Q_E, Q_V, fun h0_ => absurd ((hoff 6 (by kernel_rfl)).symm.trans h0_) (by decide), Q_X4_, fun _ => rfl⟩
    refine steps_cons ?_ ?_
    · rintro b a w' ⟨A6, c6, m4_, m5_, ha, Q_T, Q_B, Q_C, Q_R, Q_D, Q_E, Q_V, Q_F, Q_X4_, Q_X5_⟩ hb_ hon hoff
      refine ⟨_, rfl, fun K hK => ?_⟩
      have e2 : a.tmps[2]? = some (.pointer (some ⟨w.heap.size, 0, none⟩)) := by rw [ha]; exact (putSel_off rfl).trans rfl
      have e11 : a.tmps[11]? = some (m5_) := by rw [ha]; exact putSel_on (e := (5, 11, m5_)) 3 rfl rfl (hon 5 (by kernel_rfl)) rfl
      rw [Q_X5_ (hon 5 (by kernel_rfl))] at e11
      replace ha := Aside0.mk ha
      have T := Aside0.mk Q_T
      have B := Aside0.mk (Q_B hb_)
      have C := Aside0.mk Q_C
      have R := Aside0.mk Q_R
      have E := Aside0.mk (Q_E (hon 4 (by kernel_rfl)))
      have V := Aside0.mk (Q_V (hon 4 (by kernel_rfl)))
      have z0 := blk_cell B.out 0
      have z1 := blk_cell B.out 1
      have z2 := blk_cell B.out 2
      have z3 := blk_cell B.out 3
      have z4 := blk_cell B.out 4
      have zf := blk_frozen B.out
      refine skip_ (w1 := ?_) (by rfl) rfl ?_ ?_
      rotate_left
      · go_simp
        rfl
      refine hK.out _ _ ⟨A6, c6, m4_, m5_, (by rw [ha.out]; exact putSel_none (v := undef) rfl), (((((T.out).far hlt (Nat.le_refl _) _).far hlt (Nat.le_refl _) _).far hlt (Nat.le_refl _) _).far hlt (Nat.le_refl _) _).far hlt (Nat.le_refl _) _, fun h0_ => absurd ((up_self b 6).symm.trans h0_) (by decide), blk_far (blk_far (blk_far (blk_far (blk_far (C.out) (by have := HB1.out; show b1 ≠ w.heap.size; omega) _) (by have := HB1.out; show b1 ≠ w.heap.size; omega) _) (by have := HB1.out; show b1 ≠ w.heap.size; omega) _) (by have := HB1.out; show b1 ≠ w.heap.size; omega) _) (by have := HB1.out; show b1 ≠ w.heap.size; omega) _, R_far (R_far (R_far (R_far (R_far (R.out) (by show w.heap.size < _; omega) _) (by show w.heap.size < _; omega) _) (by show w.heap.size < _; omega) _) (by show w.heap.size < _; omega) _) (by show w.heap.size < _; omega) _, fun h0_ => absurd ((hon 4 (by kernel_rfl)).symm.trans h0_) (by decide), fun _ => (((((E.out).far hlt _).far hlt _).far hlt _).far hlt _).far hlt _, fun _ => R_far (R_far (R_far (R_far (R_far (V.out) (by show w.heap.size < _; omega) _) (by show w.heap.size < _; omega) _) (by show w.heap.size < _; omega) _) (by show w.heap.size < _; omega) _) (by show w.heap.size < _; omega) _, fun _ => blk_put (blk_put (blk_put (blk_put (blk_put (B.out) 0 _ rfl) 1 _ rfl) 2 _ rfl) 3 _ rfl) 4 _ rfl, Q_X4_, Q_X5_⟩
    exact steps_nil
  rintro b a w9 hall ⟨A6, c6, m4_, m5_, ha, Q_T, Q_B, Q_C, Q_R, Q_D, Q_E, Q_V, Q_F, Q_X4_, Q_X5_⟩
  clear B C D R T
  have hb0_ := hall 0 (by kernel_rfl)
  have hb3_ := hall 3 (by kernel_rfl)
  have hb4_ := hall 4 (by kernel_rfl)
  have hb5_ := hall 5 (by kernel_rfl)
  have hb6_ := hall 6 (by kernel_rfl)
  subst ha
  obtain rfl := Q_X4_ hb4_
  obtain rfl := Q_X5_ hb5_
  simp only [putSel, hb0_, hb3_, hb4_, hb5_, hb6_, if_true, Act.put, List.setIfInBounds_toArray, List.set_cons_zero, List.set_cons_succ]
  have T := Aside0.mk Q_T
  clear Q_T
  clear Q_B
  have C := Aside0.mk Q_C
  clear Q_C
  have R := Aside0.mk Q_R
  clear Q_R
  clear Q_D
  have E := Aside0.mk (Q_E hb4_)
  clear Q_E
  have V := Aside0.mk (Q_V hb4_)
  clear Q_V
  have F := Aside0.mk (Q_F hb6_)
  clear Q_F
  clear hall hb0_ hb3_ hb4_ hb5_ hb6_
  go_wp2_with (fail)
  refine bodyPost_ret (results_cell_row rfl _ _ w.heap.size 32 _ (0, 0) _ rfl F.out Tryd.underlying32 rfl (by kernel_rfl)) rfl ?_
  exact ⟨_, _, rfl, R_out R.out (by omega), R_out V.out (by omega), E.out, T.out⟩
def bunP (k : Nat) (l : List Int) (e : Int) : Option (S28 × List Int × Int) := (manP k l e).bind fun a => (listP k (sigP k) a.2.1 a.2.2).bind fun b => (listP k (nextP (wire_GetBytes.f k) (⟨#[]⟩ : ByteArray)) b.2.1 b.2.2).bind fun c => some (⟨a.1, b.1, c.1⟩, c.2.1, c.2.2)
def dec63.T4 : Bool × List (List Nat × List Nat) := (true, [([], []), ([], []), ([], []), ([], []), ([2, 3], [2, 3]), ([0, 1, 4], [0, 1, 4]), ([5, 4, 0, 1, 2, 3, 4, 5], [5])])
def dec63.B4 : List Nat := [0, 0, 0, 0, 12, 31, 63]
theorem dec63.tab4 : rtab .any (opsOf Tryd.f63 4) = dec63.T4 := by kernel_rfl
theorem dec63.bits4 : waitsOk dec63.T4.2 dec63.B4 = true := by kernel_rfl
set_option maxRecDepth 100000 in
set_option maxHeartbeats 1000000 in
theorem bun_calls (k g : Nat) (l l' : List Int) (e e' : Int) (x : S28) (w : World) (hd : Dec w g l e) (h : bunP k l e = some (x, l', e')) :
    Calls Tryd.prog 63 #[.pointer (some ⟨g, 0, none⟩)] w fun o w' => ∃ v3 v4 v5 : Value, o = .returned (.agg #[.int .i64 x.f0.f0, .int .i64 x.f0.f1, .int .i64 x.f0.f2, v3, v4, v5]) ∧ Kd.R k38 38 w' w.heap.size (fun k => True) v3 x.f0.f3 ∧ Kd.R k72 72 w' w.heap.size (fun k => some k ≠ v3.ownBlock) v4 x.f1 ∧ Kd.R Kd.string 9 w' w.heap.size (fun k => True) v5 x.f2 ∧ Dec w' g l' e' ∧ DecTo w w' g := by
  have hlt := hd.lt
  unfold bunP at h
  obtain ⟨⟨x0, l0, e0⟩, h0, h⟩ := Option.bind_eq_some_iff.1 h
  obtain ⟨⟨x1, l1, e1⟩, h1, h⟩ := Option.bind_eq_some_iff.1 h
  obtain ⟨⟨x2, l2, e2⟩, h2, h⟩ := Option.bind_eq_some_iff.1 h
  simp only [Option.some.injEq, Prod.mk.injEq] at h
  obtain ⟨rfl, rfl, rfl⟩ := h
  have H0 := Aside0.mk h0
  have H1 := Aside0.mk h1
  have H2 := Aside0.mk h2
  clear h0 h1 h2
  have HD := Aside0.mk (hd.below (below_alloc (Below.refl _ w) O28))
  have HB0 := Aside0.mk (blk_new w O28)
  have HT0 := Aside0.mk (DecTo.alloc O28 hlt)
  clear hd
  go_enter Tryd.func63, Tryd.ntmps63
  go_wp2_with (fail)
  refine (man_calls k g l l0 e e0 x0 (w.alloc O28) HD.out H0.out).mono ?_
  rintro e_ w1 ⟨v3, rfl, hR3, hd1, ht1⟩
  obtain ⟨A3, c3, rfl⟩ := Kd.R_slice hR3
  have R0 := hR3
  rw [World.size_alloc] at R0
  have B0 := ht1.blk HB0.out (by omega)
  have hal := below_alloc (Below.refl _ w1) (.cells #[.int .i64 x0.f0, .int .i64 x0.f1, .int .i64 x0.f2, .slice A3 x0.f3.length c3] 24)
  have T := Aside0.mk ((HT0.out.trans ht1).trans (DecTo.of_below hal (Nat.le_of_lt hd1.lt)))
  have B := Aside0.mk (blk_below B0 hal)
  have R := Aside0.mk (R_dec R0 (by omega) (DecTo.of_below hal (Nat.le_of_lt hd1.lt)))
  have D := Aside0.mk (hd1.below hal)
  have HB1 := Aside0.mk (blk_lt B0)
  have C := Aside0.mk (blk_new w1 (.cells #[.int .i64 x0.f0, .int .i64 x0.f1, .int .i64 x0.f2, .slice A3 x0.f3.length c3] 24))
  clear hR3 hd1 ht1 R0 B0 hal HD HB0 HT0
  go_wp2_with (fail)
  generalize hb1 : w1.heap.size = b1 at C HB1 ⊢
  generalize World.alloc w1 _ = wa at T B R D C ⊢
  clear hb1
  refine (list_signed_calls k g l0 l1 e0 e1 x1 wa D.out H1.out).mono ?_
  rintro e_ w2 ⟨⟨v4, rfl, hR4⟩, hd2, ht2⟩
  obtain ⟨A4, c4, rfl⟩ := Kd.R_slice hR4
  have U := Aside0.mk (R_out (R_new hR4 (Kd.R_lt R.out)) (by have := blk_lt B.out; omega : w.heap.size + 1 ≤ wa.heap.size))
  replace T := Aside0.mk (T.out.trans ht2)
  replace B := Aside0.mk (ht2.blk B.out (by omega))
  replace C := Aside0.mk (ht2.blk C.out (by have := HB1.out; omega))
  replace R := Aside0.mk (R_dec R.out (by omega) ht2)
  replace D := Aside0.mk hd2
  clear hR4 hd2 ht2
  go_upto_region 4 with (fail)
  have hdr : Below w2.heap.size w2 w2.drew := below_drew (Below.refl _ _)
  have hdt : DecTo w2 w2.drew g := DecTo.of_below hdr (Nat.le_of_lt D.out.lt)
  replace T := Aside0.mk (T.out.trans hdt)
  replace B := Aside0.mk (blk_below B.out hdr)
  replace R := Aside0.mk (R_dec R.out (by omega) hdt)
  replace U := Aside0.mk (R_dec U.out (by omega) hdt)
  replace C := Aside0.mk (blk_below C.out hdr)
  replace D := Aside0.mk (D.out.below hdr)
  clear hdr hdt
  refine start_ (n := 7) (S := fun w' => True) (ds := []) #[false, false, false, false, false, false, false] (by kernel_rfl) rfl rfl trivial (fun hHeld => ?_)
  refine with_tabW dec63.tab4 dec63.bits4 (fun HT_ HW_ => ?_)
  generalize hwd : w2.drew = w3 at T B R D C U ⊢
  clear hwd
  refine pure_ (i := 1) (N := some 17) (v := ?_) (a' := ?_) #[false, true, false, false, false, false, false] rfl rfl (any_of HT_.out (by kernel_rfl)) (fun _ _ _ h => h) (Or.inl ⟨by rfl, ?_⟩) ?_ ?_
  rotate_left
  · intro w'
    go_simp
    with_reducible rfl
  rotate_left
  · simp only [Act.put, List.setIfInBounds_toArray, List.set_cons_zero, List.set_cons_succ, i64_w, i32_w]
    rfl
  refine pure_ (i := 2) (N := some 18) (v := ?_) (a' := ?_) #[false, true, true, false, false, false, false] rfl rfl (any_of HT_.out (by kernel_rfl)) (fun _ _ _ h => h) (Or.inl ⟨by rfl, ?_⟩) ?_ ?_
  rotate_left
  · intro w'
    go_simp
    with_reducible rfl
  rotate_left
  · simp only [Act.put, List.setIfInBounds_toArray, List.set_cons_zero, List.set_cons_succ, i64_w, i32_w]
    rfl
  refine pure_ (i := 3) (N := some 19) (v := ?_) (a' := ?_) #[false, true, true, true, false, false, false] rfl rfl (any_of HT_.out (by kernel_rfl)) (fun _ _ _ h => h) (Or.inl ⟨by rfl, ?_⟩) ?_ ?_
  rotate_left
  · intro w'
    go_simp
    with_reducible rfl
  rotate_left
  · simp only [Act.put, List.setIfInBounds_toArray, List.set_cons_zero, List.set_cons_succ, i64_w, i32_w]
    rfl
  refine inv_at [0, 4, 5, 6] (fun a0_ b a w' => ∃ (A6 : Option Addr) (c6 : Nat) (m4_ : Value) (m5_ : Value), a = putSel a0_ b [(0, 16, .agg #[.int .i64 x0.f0, .int .i64 x0.f1, .int .i64 x0.f2, .slice A3 x0.f3.length c3]), (4, 20, m4_), (5, 21, m5_)] ∧ (DecTo w w' g) ∧ (b 6 = false → w'.heap[w.heap.size]? = some O28) ∧ (w'.heap[b1]? = some (.cells #[.int .i64 x0.f0, .int .i64 x0.f1, .int .i64 x0.f2, .slice A3 x0.f3.length c3] 24 (0, 0))) ∧ (Kd.R k38 38 w' (w.heap.size + 1) (fun k => True) (.slice A3 x0.f3.length c3) x0.f3) ∧ (Kd.R k72 72 w' (w.heap.size + 1) (fun k => some k ≠ ((.slice A3 x0.f3.length c3) : Value).ownBlock) (.slice A4 x1.length c4) x1) ∧ (b 4 = false → Dec w' g l1 e1) ∧ (b 4 = true → Dec w' g l2 e2) ∧ (b 4 = true → Kd.R Kd.string 9 w' (w.heap.size + 1) (fun k => True) (.slice A6 x2.length c6) x2) ∧ (b 6 = true → w'.heap[w.heap.size]? = some (.cells #[.int .i64 x0.f0, .int .i64 x0.f1, .int .i64 x0.f2, .slice A3 x0.f3.length c3, .slice A4 x1.length c4, .slice A6 x2.length c6] 28 (0, 0))) ∧ (b 4 = true → (m4_ : Value) = .slice A6 x2.length c6) ∧ (b 5 = true → (m5_ : Value) = .agg #[.int .i64 x0.f0, .int .i64 x0.f1, .int .i64 x0.f2, .slice A3 x0.f3.length c3, .slice A4 x1.length c4, .slice A6 x2.length c6])) HT_.out HW_.out (by kernel_rfl) (by kernel_rfl) ?_ ?_ ?_
  · exact ⟨none, 0, .bool false, .bool false, by simp only [putSel, Bool.false_eq_true, if_false], T.out, fun _ => B.out, C.out, R.out, U.out, fun _ => D.out, fun h_ => absurd h_ (by decide), fun h_ => absurd h_ (by decide), fun h_ => absurd h_ (by decide), fun h_ => absurd h_ (by decide), fun h_ => absurd h_ (by decide)⟩
  · skip
    clear B C D R T U
    refine steps_cons ?_ ?_
    · rintro b a w' ⟨A6, c6, m4_, m5_, ha, Q_T, Q_B, Q_C, Q_R, Q_U, Q_D, Q_E, Q_V, Q_F, Q_X4_, Q_X5_⟩ hb_ hon hoff
      refine ⟨_, rfl, fun K hK => ?_⟩
      have e3 : a.tmps[3]? = some (.pointer (some ⟨b1, 0, none⟩)) := by rw [ha]; exact (putSel_off rfl).trans rfl
      replace ha := Aside0.mk ha
      have T := Aside0.mk Q_T
      have B := Aside0.mk (Q_B (hoff 6 (by kernel_rfl)))
      have C := Aside0.mk Q_C
      have R := Aside0.mk Q_R
      have U := Aside0.mk Q_U
      have y0 := blk_cell C.out 0
      have y1 := blk_cell C.out 1
      have y2 := blk_cell C.out 2
      have y3 := blk_cell C.out 3
      refine value_ (w1 := w') (v := .agg #[.int .i64 x0.f0, .int .i64 x0.f1, .int .i64 x0.f2, .slice A3 x0.f3.length c3]) (by rfl) rfl ?_ ?_
      · go_simp
        (try simp only [i64_w, IntKind.wrap_u32])
        try first | rfl | omega
      refine hK.out _ _ ⟨A6, c6, m4_, m5_, (by rw [ha.out]; exact putSel_upk 0 hb_ rfl rfl rfl), Q_T, Q_B, Q_C, Q_R, Q_U, Q_D, Q_E, Q_V, fun h0_ => absurd ((hoff 6 (by kernel_rfl)).symm.trans h0_) (by decide), Q_X4_, fun h0_ => absurd ((hoff 5 (by kernel_rfl)).symm.trans h0_) (by decide)⟩
    refine steps_cons ?_ ?_
    · rintro b a w' ⟨A6, c6, m4_, m5_, ha, Q_T, Q_B, Q_C, Q_R, Q_U, Q_D, Q_E, Q_V, Q_F, Q_X4_, Q_X5_⟩ hb_ hon hoff
      refine ⟨_, rfl, fun K hK => ?_⟩
      have e18 : a.tmps[18]? = some (.pointer (some ⟨g, 0, none⟩)) := by rw [ha]; exact (putSel_off rfl).trans rfl
      have e19 : a.tmps[19]? = some (.func (.func 86) #[.pointer (some ⟨g, 0, none⟩)] #[]) := by rw [ha]; exact (putSel_off rfl).trans rfl
      replace ha := Aside0.mk ha
      have T := Aside0.mk Q_T
      have B := Aside0.mk (Q_B (hoff 6 (by kernel_rfl)))
      have C := Aside0.mk Q_C
      have R := Aside0.mk Q_R
      have U := Aside0.mk Q_U
      have D := Aside0.mk (Q_D hb_)
      refine goes_ Tryd.func88 (by kernel_rfl) rfl #[.pointer (some ⟨g, 0, none⟩), .func (.func 86) #[.pointer (some ⟨g, 0, none⟩)] #[]] (by rfl) rfl rfl (by first | (simp only [List.map_toArray, List.map_cons, List.map_nil, Act.eval, Array.getD_eq_getD_getElem?, Option.getD_some, e18, e19]; done) | (simp only [List.map_toArray, List.map_cons, List.map_nil, Act.eval, Array.getD_eq_getD_getElem?, Option.getD_some, e18, e19]; rfl)) ?_
      refine (list_strings_calls k g l1 l2 e1 e2 x2 w' D.out H2.out).mono ?_
      rintro e w2 ⟨⟨v5, rfl, hR5⟩, hd2, ht2⟩
      obtain ⟨A7, c7, rfl⟩ := Kd.R_slice hR5
      refine ⟨_, rfl, ?_⟩
      refine hK.out _ _ ⟨A7, c7, (.slice A7 x2.length c7), m5_, (by rw [ha.out]; exact putSel_upk 1 hb_ rfl rfl rfl), T.out.trans ht2, fun _ => ht2.blk B.out (by omega), ht2.blk C.out (by have := HB1.out; omega), R_dec R.out (by omega) ht2, R_dec U.out (by omega) ht2, fun h0_ => absurd ((up_self b 4).symm.trans h0_) (by decide), fun _ => hd2, fun _ => R_out (Kd.R_mono hR5 (fun _ _ => trivial)) (by have := blk_lt B.out; omega), fun h0_ => absurd ((hoff 6 (by kernel_rfl)).symm.trans h0_) (by decide), fun _ => rfl, fun h0_ => absurd ((hoff 5 (by kernel_rfl)).symm.trans h0_) (by decide)⟩
    refine steps_cons ?_ ?_
    · rintro b a w' ⟨A6, c6, m4_, m5_, ha, Q_T, Q_B, Q_C, Q_R, Q_U, Q_D, Q_E, Q_V, Q_F, Q_X4_, Q_X5_⟩ hb_ hon hoff
      refine ⟨_, rfl, fun K hK => ?_⟩
      have e16 : a.tmps[16]? = some (.agg #[.int .i64 x0.f0, .int .i64 x0.f1, .int .i64 x0.f2, .slice A3 x0.f3.length c3]) := by rw [ha]; exact putSel_on (e := (0, 16, .agg #[.int .i64 x0.f0, .int .i64 x0.f1, .int .i64 x0.f2, .slice A3 x0.f3.length c3])) 0 rfl rfl (hon 0 (by kernel_rfl)) rfl
      have e17 : a.tmps[17]? = some (.slice A4 x1.length c4) := by rw [ha]; exact (putSel_off rfl).trans rfl
      have e20 : a.tmps[20]? = some (m4_) := by rw [ha]; exact putSel_on (e := (4, 20, m4_)) 1 rfl rfl (hon 4 (by kernel_rfl)) rfl
      rw [Q_X4_ (hon 4 (by kernel_rfl))] at e20
      replace ha := Aside0.mk ha
      have T := Aside0.mk Q_T
      have B := Aside0.mk (Q_B (hoff 6 (by kernel_rfl)))
      have C := Aside0.mk Q_C
      have R := Aside0.mk Q_R
      have U := Aside0.mk Q_U
      have E := Aside0.mk (Q_E (hon 4 (by kernel_rfl)))
      have V := Aside0.mk (Q_V (hon 4 (by kernel_rfl)))
      refine value_ (w1 := w') (v := .agg #[.int .i64 x0.f0, .int .i64 x0.f1, .int .i64 x0.f2, .slice A3 x0.f3.length c3, .slice A4 x1.length c4, .slice A6 x2.length c6]) (by rfl) rfl ?_ ?_
      · go_simp
        (try simp only [i64_w, IntKind.wrap_u32])
        try first | rfl | omega
      refine hK.out _ _ ⟨A6, c6, m4_, (.agg #[.int .i64 x0.f0, .int .i64 x0.f1, .int .i64 x0.f2, .slice A3 x0.f3.length c3, .slice A4 x1.length c4, .slice A6 x2.length c6]), (by rw [ha.out]; exact putSel_upk 2 hb_ rfl rfl rfl), Q_T, Q_B, Q_C, Q_R, Q_U, fun h0_ => absurd ((hon 4 (by kernel_rfl)).symm.trans h0_) (by decide), Q_E, Q_V, fun h0_ => absurd ((hoff 6 (by kernel_rfl)).symm.trans h0_) (by decide), Q_X4_, fun _ => rfl⟩
    refine steps_cons ?_ ?_
    · rintro b a w' ⟨A6, c6, m4_, m5_, ha, Q_T, Q_B, Q_C, Q_R, Q_U, Q_D, Q_E, Q_V, Q_F, Q_X4_, Q_X5_⟩ hb_ hon hoff
      refine ⟨_, rfl, fun K hK => ?_⟩
      have e2 : a.tmps[2]? = some (.pointer (some ⟨w.heap.size, 0, none⟩)) := by rw [ha]; exact (putSel_off rfl).trans rfl
      have e21 : a.tmps[21]? = some (m5_) := by rw [ha]; exact putSel_on (e := (5, 21, m5_)) 2 rfl rfl (hon 5 (by kernel_rfl)) rfl
      rw [Q_X5_ (hon 5 (by kernel_rfl))] at e21
      replace ha := Aside0.mk ha
      have T := Aside0.mk Q_T
      have B := Aside0.mk (Q_B hb_)
      have C := Aside0.mk Q_C
      have R := Aside0.mk Q_R
      have U := Aside0.mk Q_U
      have E := Aside0.mk (Q_E (hon 4 (by kernel_rfl)))
      have V := Aside0.mk (Q_V (hon 4 (by kernel_rfl)))
      have z0 := blk_cell B.out 0
      have z1 := blk_cell B.out 1
      have z2 := blk_cell B.out 2
      have z3 := blk_cell B.out 3
      have z4 := blk_cell B.out 4
      have z5 := blk_cell B.out 5
      have zf := blk_frozen B.out
      refine skip_ (w1 := ?_) (by rfl) rfl ?_ ?_
      rotate_left
      · go_simp
        rfl
      refine hK.out _ _ ⟨A6, c6, m4_, m5_, (by rw [ha.out]; exact putSel_none (v := undef) rfl), ((((((T.out).far hlt (Nat.le_refl _) _).far hlt (Nat.le_refl _) _).far hlt (Nat.le_refl _) _).far hlt (Nat.le_refl _) _).far hlt (Nat.le_refl _) _).far hlt (Nat.le_refl _) _, fun h0_ => absurd ((up_self b 6).symm.trans h0_) (by decide), blk_far (blk_far (blk_far (blk_far (blk_far (blk_far (C.out) (by have := HB1.out; show b1 ≠ w.heap.size; omega) _) (by have := HB1.out; show b1 ≠ w.heap.size; omega) _) (by have := HB1.out; show b1 ≠ w.heap.size; omega) _) (by have := HB1.out; show b1 ≠ w.heap.size; omega) _) (by have := HB1.out; show b1 ≠ w.heap.size; omega) _) (by have := HB1.out; show b1 ≠ w.heap.size; omega) _, R_far (R_far (R_far (R_far (R_far (R_far (R.out) (by show w.heap.size < _; omega) _) (by show w.heap.size < _; omega) _) (by show w.heap.size < _; omega) _) (by show w.heap.size < _; omega) _) (by show w.heap.size < _; omega) _) (by show w.heap.size < _; omega) _, R_far (R_far (R_far (R_far (R_far (R_far (U.out) (by show w.heap.size < _; omega) _) (by show w.heap.size < _; omega) _) (by show w.heap.size < _; omega) _) (by show w.heap.size < _; omega) _) (by show w.heap.size < _; omega) _) (by show w.heap.size < _; omega) _, fun h0_ => absurd ((hon 4 (by kernel_rfl)).symm.trans h0_) (by decide), fun _ => ((((((E.out).far hlt _).far hlt _).far hlt _).far hlt _).far hlt _).far hlt _, fun _ => R_far (R_far (R_far (R_far (R_far (R_far (V.out) (by show w.heap.size < _; omega) _) (by show w.heap.size < _; omega) _) (by show w.heap.size < _; omega) _) (by show w.heap.size < _; omega) _) (by show w.heap.size < _; omega) _) (by show w.heap.size < _; omega) _, fun _ => blk_put (blk_put (blk_put (blk_put (blk_put (blk_put (B.out) 0 _ rfl) 1 _ rfl) 2 _ rfl) 3 _ rfl) 4 _ rfl) 5 _ rfl, Q_X4_, Q_X5_⟩
    exact steps_nil
  rintro b a w9 hall ⟨A6, c6, m4_, m5_, ha, Q_T, Q_B, Q_C, Q_R, Q_U, Q_D, Q_E, Q_V, Q_F, Q_X4_, Q_X5_⟩
  clear B C D R T U
  have hb0_ := hall 0 (by kernel_rfl)
  have hb4_ := hall 4 (by kernel_rfl)
  have hb5_ := hall 5 (by kernel_rfl)
  have hb6_ := hall 6 (by kernel_rfl)
  subst ha
  obtain rfl := Q_X4_ hb4_
  obtain rfl := Q_X5_ hb5_
  simp only [putSel, hb0_, hb4_, hb5_, hb6_, if_true, Act.put, List.setIfInBounds_toArray, List.set_cons_zero, List.set_cons_succ]
  have T := Aside0.mk Q_T
  clear Q_T
  clear Q_B
  have C := Aside0.mk Q_C
  clear Q_C
  have R := Aside0.mk Q_R
  clear Q_R
  have U := Aside0.mk Q_U
  clear Q_U
  clear Q_D
  have E := Aside0.mk (Q_E hb4_)
  clear Q_E
  have V := Aside0.mk (Q_V hb4_)
  clear Q_V
  have F := Aside0.mk (Q_F hb6_)
  clear Q_F
  clear hall hb0_ hb4_ hb5_ hb6_
  go_wp2_with (fail)
  refine bodyPost_ret (results_cell_row rfl _ _ w.heap.size 28 _ (0, 0) _ rfl F.out Tryd.underlying28 rfl (by kernel_rfl)) rfl ?_
  exact ⟨_, _, _, rfl, R_out R.out (by omega), R_out U.out (by omega), R_out V.out (by omega), E.out, T.out⟩
end Go.Proofs.YtfdgihdmhdhpcaaDoor.P
end
