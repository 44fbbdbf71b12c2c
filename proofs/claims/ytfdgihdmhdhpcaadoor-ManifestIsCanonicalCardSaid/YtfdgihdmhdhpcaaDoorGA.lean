/- Some small texts of the machine's walk, in one. -/
import Derived.Test.YtfdgihdmhdhpcaaDoorProg
import Derived.Below
import Derived.Deep.Draws
import Derived.Deep.AppendLies
import Derived.Maps.AppendAt
import Derived.OwnWalk
import Derived.Laws.BytesArg
import Derived.Laws.MakeOwn
import Derived.Laws.OwnMore
import Derived.Deep.OwnRows
import Derived.Tactics
import Derived.Lib.ConvBytes
import Derived.Laws.Slices
import Derived.WalkKit
import Derived.KernelRfl
import Derived.RowKit3
import Derived.Deep.LoopGhost
import Derived.Deep.QuietTactic
import Derived.BigQuiet
import Derived.WideLaws
import Derived.Deep.DeepCutAuto
import Derived.Deep.CutBlock
import Derived.Deep.RegionHeld3
import Derived.Laws.Rows
import Derived.Lib.AppendStr
import Derived.ArgAppend
import Derived.Laws.IdiomCopy
import Derived.OrdersHeld
import Derived.Laws.BitsLemmas
import Derived.RowKit
import Derived.Test.YtfdgihdmhdhpcaaDoorWWords
import Derived.Test.YtfdgihdmhdhpcaaDoorWLast
import Derived.Test.YtfdgihdmhdhpcaaDoorWTab
import Derived.Test.YtfdgihdmhdhpcaaDoorWFour
import Derived.Test.YtfdgihdmhdhpcaaDoorWQPut
import Derived.Test.YtfdgihdmhdhpcaaDoorWApart
import Derived.Test.YtfdgihdmhdhpcaaDoorWArr
import Derived.Test.YtfdgihdmhdhpcaaDoorWZeros
import Derived.Test.YtfdgihdmhdhpcaaDoorWFoot
import Derived.Test.YtfdgihdmhdhpcaaDoorWKept
import Derived.Test.YtfdgihdmhdhpcaaDoorWShare
import Derived.Test.YtfdgihdmhdhpcaaDoorWN
import Derived.Test.YtfdgihdmhdhpcaaDoorWFootNe
import Derived.Test.YtfdgihdmhdhpcaaDoorWAt
import Derived.Test.YtfdgihdmhdhpcaaDoorWEqStruct
import Derived.Test.YtfdgihdmhdhpcaaDoorWRepsOne
import Derived.Test.YtfdgihdmhdhpcaaDoorWInv
import Derived.Test.YtfdgihdmhdhpcaaDoorWInvWords
import Derived.Test.YtfdgihdmhdhpcaaDoorWGuard
import Derived.Test.YtfdgihdmhdhpcaaDoorWNEv
import Derived.Test.YtfdgihdmhdhpcaaDoorWMore
import Derived.Lib.Hide
import Derived.Outline
import Derived.Recover
import Derived.WalkLawsBesides
import Derived.Laws.Panics
import Derived.Laws.Pointers
import Derived.Tactics2
import Derived.Deep.RegionWith
import Derived.WalkSpells
import Derived.WalkMore
import Derived.Laws.Cover3
import Derived.Deep.MidRow
import Derived.Deep.Upon
import Derived.ChangeKeysEq
import Derived.Test.YtfdgihdmhdhpcaaDoorA1
import Derived.Test.YtfdgihdmhdhpcaaDoorB1
import Derived.Test.YtfdgihdmhdhpcaaDoorM7
import Derived.Test.YtfdgihdmhdhpcaaDoorS8
section
namespace Go.Proofs.YtfdgihdmhdhpcaaDoor.P
open Go.RowKit Go.Proofs.YtfdgihdmhdhpcaaDoorW.PrintWords Go.Proofs.YtfdgihdmhdhpcaaDoorW.PrintLast Go.Proofs.YtfdgihdmhdhpcaaDoorW.PrintMore
attribute [local go_sem] max2_int min2_int max_two min_two max_three min_three max_four min_four
set_option linter.unusedVariables false
set_option linter.unusedSimpArgs false
/-! ### integers: the wire's encoding and its decoding, in plain words -/
def Bytes (l : List Int) : Prop := ∀ x ∈ l, 0 ≤ x ∧ x < 256
def encU : Nat → Int → List Int
  | 0, _ => []
  | f + 1, u => if u < 128 then [u] else (u % 128 + 128) :: encU f (u / 128)
def zz (n : Int) : Int := if n < 0 then -2 * n - 1 else 2 * n
def unzz (u : Int) : Int := if u % 2 = 1 then -1 - u / 2 else u / 2
def encI (n : Int) : List Int := encU 10 (zz n)
def I64 (n : Int) : Prop := -9223372036854775808 ≤ n ∧ n < 9223372036854775808
def decU : Nat → Int → Int → List Int → Int × Int × Int
  | 0, _, _, _ => (0, 0, 7)
  | _ + 1, _, _, [] => (0, 0, 6)
  | f + 1, u, p, c :: r => if c ≥ 128 then decU f (u + c % 128 * p) (p * 128) r else if (c = 0 ∧ p ≠ 1) ∨ (f = 0 ∧ c > 1) then (0, 0, 7) else (unzz (u + c * p), (10 - f : Int), 0)
theorem zz_range {n : Int} (h : I64 n) : 0 ≤ zz n ∧ zz n < 18446744073709551616 := by
  unfold zz; unfold I64 at h; split <;> omega
theorem unzz_zz (n : Int) : unzz (zz n) = n := by
  unfold zz unzz; split <;> split <;> omega
theorem zz_unzz {u : Int} (h : 0 ≤ u) : zz (unzz u) = u := by
  unfold zz unzz; split <;> split <;> omega
theorem unzz_range {u : Int} (h : 0 ≤ u) (h' : u < 18446744073709551616) : I64 (unzz u) := by
  unfold I64 unzz; split <;> omega
theorem or128 (u : Int) : Go.bits .or .u8 (u % 256) 128 = u % 128 + 128 := by
  have h : ((List.range 256).all fun a => Go.bits .or .u8 (a : Int) 128 == (a : Int) % 128 + 128) = true := by kernel_rfl
  have h1 := List.all_eq_true.1 h (u % 256).toNat (List.mem_range.2 (by omega))
  have h2 : ((u % 256).toNat : Int) = u % 256 := by omega
  rw [h2] at h1
  have h3 : Go.bits .or .u8 (u % 256) 128 = u % 256 % 128 + 128 := by simpa using h1
  rw [h3]
  omega
theorem xor64 (x : Int) (h0 : 0 ≤ x) (h1 : x < 18446744073709551616) : Go.bits .xor .u64 18446744073709551615 x = 18446744073709551615 - x := by
  obtain ⟨a, rfl⟩ := Int.eq_ofNat_of_zero_le h0
  have ha : a < 18446744073709551616 := by omega
  have hx : (BitVec.ofInt 64 18446744073709551615 ^^^ BitVec.ofInt 64 (a : Int)) = ~~~ (BitVec.ofNat 64 a) := by
    rw [BitVec.ofInt_natCast, show BitVec.ofInt 64 18446744073709551615 = BitVec.allOnes 64 from by decide, BitVec.allOnes_xor]
  show IntKind.u64.wrap ((BitVec.ofInt 64 18446744073709551615 ^^^ BitVec.ofInt 64 (a : Int)).toNat : Int) = _
  rw [hx, BitVec.toNat_not, BitVec.toNat_ofNat, Nat.mod_eq_of_lt (show a < 2 ^ 64 by omega)]
  have h2 : ((2 ^ 64 - 1 - a : Nat) : Int) = 18446744073709551615 - a := by omega
  rw [h2]
  simp only [IntKind.wrap, IntKind.bits, IntKind.signed]
  simp
  omega
theorem or_comm64 (x y : Int) : Go.bits .or .u64 x y = Go.bits .or .u64 y x := by
  unfold Go.bits
  simp only [BitVec.or_comm]
theorem xor_neg (x : Int) (h0 : 0 ≤ x) (h1 : x < 9223372036854775808) : Go.bits .xor .i64 (-1) x = -1 - x := by
  obtain ⟨a, rfl⟩ := Int.eq_ofNat_of_zero_le h0
  have ha : a < 9223372036854775808 := by omega
  have hx : (BitVec.ofInt 64 (-1) ^^^ BitVec.ofInt 64 (a : Int)) = ~~~ (BitVec.ofNat 64 a) := by
    rw [BitVec.ofInt_natCast, show BitVec.ofInt 64 (-1) = BitVec.allOnes 64 from by decide, BitVec.allOnes_xor]
  show IntKind.i64.wrap ((BitVec.ofInt 64 (-1) ^^^ BitVec.ofInt 64 (a : Int)).toNat : Int) = _
  rw [hx, BitVec.toNat_not, BitVec.toNat_ofNat, Nat.mod_eq_of_lt (show a < 2 ^ 64 by omega)]
  have h2 : ((2 ^ 64 - 1 - a : Nat) : Int) = 18446744073709551615 - a := by omega
  rw [h2, IntKind.wrap_i64]
  omega
theorem encU_le : ∀ f u, (encU f u).length ≤ f
  | 0, _ => by simp [encU]
  | f + 1, u => by
    rw [encU]
    split
    · simp
    · have := encU_le f (u / 128)
      simp
      omega
theorem int_l0 : ∀ (f : Nat) (u : Int) (acc : List Int) (k : Nat), 0 ≤ u → u < 128 ^ f → 0 < f → f ≤ k → acc.length + f < 140737488355328 → wire_Int.l0 k u acc = some (acc ++ encU f u)
  | 0, _, _, _, _, _, h, _, _ => absurd h (by decide)
  | f + 1, u, acc, k, h0, h1, _, hk, hl => by
    obtain ⟨k, rfl⟩ : ∃ m, k = m + 1 := ⟨k - 1, by omega⟩
    rw [wire_Int.l0, encU]
    by_cases hu : u < 128
    · rw [if_pos hu, if_pos hu, if_pos (by omega), Int.emod_eq_of_lt h0 (by omega)]
    · rw [if_neg hu, if_neg hu, if_pos (by omega), or128]
      have hf : 0 < f := by
        rcases Nat.eq_zero_or_pos f with rfl | h
        · simp at h1; omega
        · exact h
      rw [int_l0 f (u / 128) (acc ++ [u % 128 + 128]) k (by omega) (by rw [Int.pow_succ] at h1; omega) hf (by omega) (by simp; omega)]
      simp
theorem wire_Int_eq (k : Nat) (n : Int) (hk : 12 ≤ k) (hn : I64 n) : wire_Int.f k n = some (encI n) := by
  obtain ⟨k, rfl⟩ : ∃ m, k = m + 1 := ⟨k - 1, by omega⟩
  obtain ⟨z0, z1⟩ := zz_range hn
  have key : wire_Int.j0 (k + 1) (zz n) = some (encI n) := by
    rw [wire_Int.j0, int_l0 10 (zz n) [] k z0 (by omega) (by decide) (by omega) (by simp)]
    rfl
  unfold I64 at hn
  have hw : IntKind.u64.wrap (IntKind.u64.wrap n * 2) = (2 * n) % 18446744073709551616 := by
    simp only [IntKind.wrap, IntKind.bits, IntKind.signed]
    simp
    omega
  unfold wire_Int.f
  rw [hw]
  by_cases h : n < 0
  · rw [if_pos h, xor64 _ (by omega) (by omega), ← key]
    congr 1
    unfold zz
    rw [if_pos h]
    omega
  · rw [if_neg h, ← key]
    congr 1
    unfold zz
    rw [if_neg h]
    omega
theorem shl_eq (c : Int) (i : Nat) (h0 : 0 ≤ c) (h1 : c < 256) (hi : i ≤ 9) (hc : c % 128 * 128 ^ i < 18446744073709551616) :
    shl .u64 (IntKind.u64.wrap (Go.bits .and .u8 c 127)) (7 * (i : Int)) = c % 128 * 128 ^ i := by
  rw [show (127 : Int) = 2 ^ 7 - 1 from rfl, bits_mask .u8 8 (by decide) wraps_u8 7 (by decide) c h0 (by omega)]
  unfold shl
  have e1 : IntKind.u64.wrap (c % 2 ^ 7) = c % 128 := by
    simp only [IntKind.wrap, IntKind.bits, IntKind.signed]
    simp
    omega
  have e2 : min (7 * (i : Int)).toNat IntKind.u64.bits = 7 * i := by
    show min _ 64 = _
    omega
  rw [e1, e2, Int.pow_mul, show ((2 : Int) ^ 7) = 128 from rfl]
  have hp : (0 : Int) ≤ c % 128 * 128 ^ i := Int.mul_nonneg (by omega) (Int.pow_nonneg (by decide))
  simp only [IntKind.wrap, IntKind.bits, IntKind.signed]
  simp
  rw [Int.emod_eq_of_lt hp hc]
theorem join_eq (u c : Int) (i : Nat) (h0 : 0 ≤ u) (h1 : u < 128 ^ i) (hc : 0 ≤ c) (hc1 : c * 128 ^ i < 18446744073709551616) (hi : i ≤ 9) : Go.bits .or .u64 u (c * 128 ^ i) = u + c * 128 ^ i := by
  have hp : (128 : Int) ^ i = 2 ^ (7 * i) := by rw [Int.pow_mul, show ((2 : Int) ^ 7) = 128 from rfl]
  have hp9 : (128 : Int) ^ i ≤ 128 ^ 9 := by
    have h : (128 : Nat) ^ i ≤ 128 ^ 9 := Nat.pow_le_pow_right (by decide) hi
    exact_mod_cast h
  have hp10 : (128 : Int) ^ 9 = 9223372036854775808 := by decide
  rw [or_comm64, Int.add_comm]
  refine bits_join .u64 64 (by decide) (fun n h0 h1 => ?_) (7 * i) _ _ (Int.mul_nonneg hc (Int.pow_nonneg (by decide))) ?_ (by simpa using hc1) h0 (by rw [← hp]; exact h1) ?_
  · simp only [IntKind.wrap, IntKind.bits, IntKind.signed]
    simp
    omega
  · rw [hp]
    exact Int.mul_emod_left _ _
  · show u < 18446744073709551616
    omega
theorem getj1 (k : Nat) (u : Int) (i : Nat) (h0 : 0 ≤ u) (h1 : u < 18446744073709551616) (hi : i ≤ 9) : wire_GetInt.j1 (k + 1) u (i : Int) false = some (unzz u, (i : Int) + 1, 0) := by
  rw [wire_GetInt.j1, if_neg (by decide)]
  have e1 : Go.bits .and .u64 u 1 = u % 2 := by
    have h := bits_mask .u64 64 (by decide) (fun n h0 h1 => by simp only [IntKind.wrap, IntKind.bits, IntKind.signed]; simp; omega) 1 (by decide) u h0 (by simpa using h1)
    simpa using h
  have e2 : wrap64 (u / 2) = u / 2 := by unfold wrap64; omega
  have e3 : wrap64 ((i : Int) + 1) = (i : Int) + 1 := by unfold wrap64; omega
  rw [e1, e2, e3, xor_neg _ (by omega) (by omega)]
  unfold unzz
  split <;> rfl
theorem getint_l0 (l : List Int) (hl : Bytes l) (m : Nat) (hm : m = min l.length 10) : ∀ (f i : Nat) (u : Int) (k : Nat), i + f = 10 → i ≤ m → 0 ≤ u → u < 128 ^ i → f + 2 ≤ k →
    wire_GetInt.l0 k l u (l.take m) (m : Int) (i : Int) = some (decU f u (128 ^ i) (l.drop i)) := by
  intro f
  induction f with
  | zero =>
    intro i u k hi him h0 h1 hk
    obtain ⟨k, rfl⟩ : ∃ n, k = n + 1 := ⟨k - 1, by omega⟩
    rw [wire_GetInt.l0, if_neg (by omega), if_neg (by omega), decU]
  | succ f ih =>
    intro i u k hi him h0 h1 hk
    obtain ⟨k, rfl⟩ : ∃ n, k = n + 1 := ⟨k - 1, by omega⟩
    rw [wire_GetInt.l0]
    by_cases hlt : i < m
    · have hil : i < l.length := by omega
      have hrd : rd (l.take m) (i : Int) = l[i] := by
        unfold rd
        simp [List.getD_eq_getElem?_getD, List.getElem?_take, hlt, List.getElem?_eq_getElem hil]
      obtain ⟨b0, b1⟩ := hl l[i] (List.getElem_mem hil)
      rw [List.drop_eq_getElem_cons hil]
      generalize l[i] = c at hrd b0 b1 ⊢
      have hpp : (0 : Int) < 128 ^ i := Int.pow_pos (by decide)
      have c1 : (i : Int) < (m : Int) := by omega
      have c2 : (0 : Int) ≤ (i : Int) := by omega
      have c3 : (i : Int) < ((l.take m).length : Int) := by rw [List.length_take]; omega
      have c4 : (0 : Int) ≤ 7 * (i : Int) := by omega
      have w1 : wrap64 (7 * (i : Int)) = 7 * (i : Int) := by unfold wrap64; omega
      have w2 : wrap64 ((i : Int) + 1) = ((i + 1 : Nat) : Int) := by unfold wrap64; omega
      rw [if_pos c1, if_pos c2, if_pos c3, w1, if_pos c4, hrd, w2]
      clear w1 w2 hrd
      rw [decU]
      have hp9 : i ≤ 8 → (128 : Int) ^ i * 128 ≤ 9223372036854775808 := fun h8 => by
        have h : (128 : Nat) ^ (i + 1) ≤ 128 ^ 9 := Nat.pow_le_pow_right (by decide) (by omega)
        have h2 : (128 : Int) ^ (i + 1) ≤ 128 ^ 9 := by exact_mod_cast h
        rw [Int.pow_succ] at h2
        exact h2
      by_cases hc : c ≥ 128
      · rw [if_pos hc, if_pos hc]
        rcases Nat.lt_or_ge i 9 with h9 | h9
        · have hlt2 : c % 128 * 128 ^ i < 128 * 128 ^ i := Int.mul_lt_mul_of_pos_right (by omega) hpp
          have hb : c % 128 * 128 ^ i < 18446744073709551616 := by have := hp9 (by omega); omega
          have hle2 : c % 128 * 128 ^ i ≤ 127 * 128 ^ i := Int.mul_le_mul_of_nonneg_right (by omega) (by omega)
          have hnn : 0 ≤ c % 128 * 128 ^ i := Int.mul_nonneg (by omega) (by omega)
          rw [shl_eq c i b0 b1 (by omega) hb, join_eq u (c % 128) i h0 h1 (by omega) hb (by omega), ih (i + 1) _ k (by omega) (by omega) (by omega) (by rw [Int.pow_succ]; omega) (by omega), Int.pow_succ]
        · obtain rfl : i = 9 := by omega
          obtain rfl : f = 0 := by omega
          obtain ⟨k, rfl⟩ : ∃ n, k = n + 1 := ⟨k - 1, by omega⟩
          rw [wire_GetInt.l0, if_neg (by omega), if_neg (by omega), decU]
      · rw [if_neg hc, if_neg hc]
        obtain ⟨k, rfl⟩ : ∃ n, k = n + 1 := ⟨k - 1, by omega⟩
        have hbad : ∀ x y, wire_GetInt.j1 (k + 1) x y true = some (0, 0, 7) := fun x y => by rw [wire_GetInt.j1, if_pos rfl]
        have h127 : c % 128 = c := Int.emod_eq_of_lt b0 (by omega)
        have hi1 : (128 : Int) ^ i ≠ 1 ↔ i ≠ 0 := by
          constructor
          · rintro h rfl
            exact h rfl
          · intro h he
            obtain ⟨j, rfl⟩ : ∃ j, i = j + 1 := ⟨i - 1, by omega⟩
            rw [Int.pow_succ] at he
            omega
        have good : (i = 9 → c ≤ 1) → wire_GetInt.j1 (k + 1) (Go.bits .or .u64 u (shl .u64 (IntKind.u64.wrap (Go.bits .and .u8 c 127)) (7 * (i : Int)))) (i : Int) false = some (unzz (u + c * 128 ^ i), (10 - f : Int), 0) := fun h9 => by
          have hb : c % 128 * 128 ^ i < 18446744073709551616 ∧ u + c * 128 ^ i < 18446744073709551616 := by
            rw [h127]
            rcases Nat.lt_or_ge i 9 with h8 | h8
            · have hlt2 : c * 128 ^ i ≤ 127 * 128 ^ i := Int.mul_le_mul_of_nonneg_right (by omega) (by omega)
              have := hp9 (by omega)
              omega
            · obtain rfl : i = 9 := by omega
              have hlt2 : c * 128 ^ 9 ≤ 1 * 128 ^ 9 := Int.mul_le_mul_of_nonneg_right (h9 rfl) (by omega)
              have h10 : (128 : Int) ^ 9 = 9223372036854775808 := by decide
              omega
          have hnn : 0 ≤ c * 128 ^ i := Int.mul_nonneg b0 (by omega)
          rw [shl_eq c i b0 b1 (by omega) hb.1, join_eq u (c % 128) i h0 h1 (by omega) hb.1 (by omega), h127, getj1 k _ i (by omega) hb.2 (by omega)]
          congr 3
          omega
        by_cases c0 : c = 0
        · rw [if_pos c0]
          by_cases ci : (i : Int) > 0
          · rw [if_pos ci, hbad, if_pos (Or.inl ⟨c0, hi1.2 (by omega)⟩)]
          · rw [if_neg ci, if_neg (by omega), good (by omega), if_neg (by rintro (⟨-, h⟩ | ⟨-, h⟩); exact hi1.1 h (by omega); omega)]
        · rw [if_neg c0]
          by_cases ci : (i : Int) = 9
          · rw [if_pos ci]
            by_cases c1 : c > 1
            · rw [decide_eq_true c1, hbad, if_pos (Or.inr ⟨by omega, c1⟩)]
            · rw [decide_eq_false c1, good (by omega), if_neg (by rintro (⟨h, -⟩ | ⟨-, h⟩); exact c0 h; exact c1 h)]
          · rw [if_neg ci, good (by omega), if_neg (by rintro (⟨h, -⟩ | ⟨h, -⟩); exact c0 h; omega)]
    · obtain rfl : i = m := by omega
      have hlen : l.length = i := by omega
      rw [if_neg (by omega), if_pos (by omega), List.drop_eq_nil_of_le (by omega), decU]
theorem wire_GetInt_eq (k : Nat) (l : List Int) (hk : 12 ≤ k) (hl : Bytes l) : wire_GetInt.f k l = some (decU 10 0 1 l) := by
  unfold wire_GetInt.f
  have e : mn (l.length : Int) 10 = ((min l.length 10 : Nat) : Int) := by
    unfold mn
    split <;> omega
  rw [e, if_pos (by omega), if_pos (by omega), Int.toNat_natCast, List.length_take, show min (min l.length 10) l.length = min l.length 10 by omega]
  exact getint_l0 l hl _ rfl 10 0 0 k rfl (Nat.zero_le _) (by decide) (by decide) hk
end Go.Proofs.YtfdgihdmhdhpcaaDoor.P
end
section
namespace Go.Proofs.YtfdgihdmhdhpcaaDoor.P
open Go.RowKit Go.Proofs.YtfdgihdmhdhpcaaDoorW.PrintWords Go.Proofs.YtfdgihdmhdhpcaaDoorW.PrintLast Go.Proofs.YtfdgihdmhdhpcaaDoorW.PrintMore
attribute [local go_sem] max2_int min2_int max_two min_two max_three min_three max_four min_four
set_option linter.unusedVariables false
set_option linter.unusedSimpArgs false
theorem encU_bytes : ∀ f u, 0 ≤ u → Bytes (encU f u)
  | 0, _, _ => by simp [encU, Bytes]
  | f + 1, u, h => by
    rw [encU]
    split
    · intro x hx
      simp at hx
      omega
    · intro x hx
      rcases List.mem_cons.1 hx with rfl | hx
      · omega
      · exact encU_bytes f (u / 128) (by omega) x hx
theorem encI_bytes {n : Int} (h : I64 n) : Bytes (encI n) := encU_bytes 10 _ (zz_range h).1
theorem encU_pos : ∀ f u, 0 < f → 0 < (encU f u).length
  | f + 1, u, _ => by
    rw [encU]
    split <;> simp
theorem encI_pos (n : Int) : 0 < (encI n).length := encU_pos 10 _ (by decide)
theorem encI_le (n : Int) : (encI n).length ≤ 10 := encU_le 10 _
theorem decU_enc : ∀ (f : Nat) (v u p : Int) (r : List Int), 0 ≤ v → 0 < p → p * 128 ^ f = 9223372036854775808 → v * p < 18446744073709551616 → (p = 1 ∨ v ≠ 0) → v < 128 ^ (f + 1) →
    decU (f + 1) u p (encU (f + 1) v ++ r) = (unzz (u + v * p), ((9 - f : Nat) + (encU (f + 1) v).length : Int), 0)
  | f, v, u, p, r, h0, hp, hpf, hv, hz, hf => by
    rw [encU]
    by_cases hlt : v < 128
    · rw [if_pos hlt]
      show decU (f + 1) u p (v :: r) = _
      rw [decU, if_neg (by omega), if_neg]
      · have : f ≤ 9 := by
          rcases Nat.lt_or_ge 9 f with h | h
          · exfalso
            have h2 : (128 : Nat) ^ 10 ≤ 128 ^ f := Nat.pow_le_pow_right (by decide) h
            have h3 : (128 : Int) ^ 10 ≤ 128 ^ f := by exact_mod_cast h2
            have h4 : 1 * 128 ^ f ≤ p * 128 ^ f := Int.mul_le_mul_of_nonneg_right (by omega) (Int.pow_nonneg (by decide))
            have h5 : (128 : Int) ^ 10 = 1180591620717411303424 := by decide
            omega
          · exact h
        simp
        omega
      · rintro (⟨h1, h2⟩ | ⟨rfl, h2⟩)
        · exact hz.elim (fun h => h2 h) (fun h => h h1)
        · have h3 : 2 * p ≤ v * p := Int.mul_le_mul_of_nonneg_right (by omega) (by omega)
          simp at hpf
          omega
    · rw [if_neg hlt]
      show decU (f + 1) u p ((v % 128 + 128) :: (encU f (v / 128) ++ r)) = _
      rw [decU, if_pos (by omega)]
      have hf0 : f ≠ 0 := by
        rintro rfl
        simp at hf
        omega
      obtain ⟨f, rfl⟩ : ∃ n, f = n + 1 := ⟨f - 1, by omega⟩
      have e1 : (v % 128 + 128) % 128 = v % 128 := by omega
      have e2 : v * p = v % 128 * p + v / 128 * (p * 128) := by
        have h : v = v % 128 + v / 128 * 128 := by omega
        calc v * p = (v % 128 + v / 128 * 128) * p := by rw [← h]
          _ = _ := by rw [Int.add_mul, Int.mul_assoc, Int.mul_comm 128 p]
      have hnn : 0 ≤ v % 128 * p := Int.mul_nonneg (by omega) (by omega)
      rw [e1, decU_enc f (v / 128) (u + v % 128 * p) (p * 128) r (by omega) (by omega) (by rw [Int.mul_assoc, Int.mul_comm 128, ← Int.pow_succ]; exact hpf) (by omega) (Or.inr (by omega)) (by rw [Int.pow_succ] at hf; omega), e2]
      have : f + 1 ≤ 9 := by
        rcases Nat.lt_or_ge 9 (f + 1) with h | h
        · exfalso
          have h2 : (128 : Nat) ^ 10 ≤ 128 ^ (f + 1) := Nat.pow_le_pow_right (by decide) h
          have h3 : (128 : Int) ^ 10 ≤ 128 ^ (f + 1) := by exact_mod_cast h2
          have h4 : 1 * 128 ^ (f + 1) ≤ p * 128 ^ (f + 1) := Int.mul_le_mul_of_nonneg_right (by omega) (Int.pow_nonneg (by decide))
          have h5 : (128 : Int) ^ 10 = 1180591620717411303424 := by decide
          omega
        · exact h
      have e3 : u + v % 128 * p + v / 128 * (p * 128) = u + (v % 128 * p + v / 128 * (p * 128)) := Int.add_assoc _ _ _
      rw [e3, List.length_cons]
      congr 2
      omega
theorem dec_enc {n : Int} (h : I64 n) (r : List Int) : decU 10 0 1 (encI n ++ r) = (n, ((encI n).length : Int), 0) := by
  obtain ⟨z0, z1⟩ := zz_range h
  have h := decU_enc 9 (zz n) 0 1 r z0 (by decide) (by decide) (by omega) (Or.inl rfl) (by omega)
  rw [encI, h]
  simp [unzz_zz]
theorem decU_pre : ∀ (f : Nat) (v u p : Int) (m : Nat), 0 ≤ v → m < (encU f v).length → decU f u p ((encU f v).take m) = (0, 0, 6)
  | 0, _, _, _, _, _, h => by simp [encU] at h
  | f + 1, v, u, p, m, h0, h => by
    rw [encU] at h ⊢
    by_cases hlt : v < 128
    · rw [if_pos hlt] at h ⊢
      obtain rfl : m = 0 := by simpa using h
      rfl
    · rw [if_neg hlt] at h ⊢
      match m, h with
      | 0, _ => rfl
      | m + 1, h =>
        rw [List.take_succ_cons, decU, if_pos (by omega)]
        exact decU_pre f (v / 128) _ _ m (by omega) (by simpa using h)
theorem dec_pre {n : Int} (h : I64 n) (m : Nat) (hm : m < (encI n).length) : decU 10 0 1 ((encI n).take m) = (0, 0, 6) := decU_pre 10 _ _ _ m (zz_range h).1 hm
theorem decU_err : ∀ (f : Nat) (u p : Int) (l : List Int) (x n e : Int), decU f u p l = (x, n, e) → e = 0 ∨ (x = 0 ∧ n = 0 ∧ (e = 6 ∨ e = 7))
  | 0, _, _, _, x, n, e, h => by
    simp only [decU, Prod.mk.injEq] at h
    omega
  | f + 1, _, _, [], x, n, e, h => by
    simp only [decU, Prod.mk.injEq] at h
    omega
  | f + 1, u, p, c :: r, x, n, e, h => by
    rw [decU] at h
    split at h
    · exact decU_err f _ _ r x n e h
    · split at h
      · simp only [Prod.mk.injEq] at h
        omega
      · simp only [Prod.mk.injEq] at h
        omega
theorem encU_big {f : Nat} {u : Int} (h : ¬ u < 128) : encU (f + 1) u = (u % 128 + 128) :: encU f (u / 128) := by rw [encU, if_neg h]
theorem decU_can : ∀ (f : Nat) (u p : Int) (l : List Int) (x n : Int), Bytes l → f ≤ 9 → 0 < p → p * 128 ^ f = 9223372036854775808 → decU (f + 1) u p l = (x, n, 0) →
    ∃ (v : Int) (r : List Int), l = encU (f + 1) v ++ r ∧ x = unzz (u + v * p) ∧ n = ((9 - f : Nat) : Int) + (encU (f + 1) v).length ∧ 0 ≤ v ∧ v * p < 18446744073709551616 ∧ (p = 1 ∨ v ≠ 0)
  | f, u, p, [], x, n, hl, hf9, hp, hpf, h => by
    simp [decU] at h
  | f, u, p, c :: r, x, n, hl, hf9, hp, hpf, h => by
    obtain ⟨b0, b1⟩ := hl c List.mem_cons_self
    rw [decU] at h
    by_cases hc : c ≥ 128
    · rw [if_pos hc] at h
      match f, h with
      | 0, h => simp [decU] at h
      | f + 1, h =>
        obtain ⟨v, r', rfl, rfl, rfl, hv0, hv, hz⟩ := decU_can f _ (p * 128) r x n (fun x hx => hl x (List.mem_cons_of_mem _ hx)) (by omega) (by omega) (by rw [Int.mul_assoc, Int.mul_comm 128, ← Int.pow_succ]; exact hpf) h
        have hv1 : v ≠ 0 := hz.elim (fun h => by omega) id
        have e1 : (c % 128 + v * 128) % 128 = c % 128 := by omega
        have e2 : (c % 128 + v * 128) / 128 = v := by omega
        have e3 : (c % 128 + v * 128) * p = c % 128 * p + v * (p * 128) := by rw [Int.add_mul, Int.mul_assoc, Int.mul_comm 128 p]
        have hle : c % 128 * p ≤ 127 * p := Int.mul_le_mul_of_nonneg_right (by omega) (by omega)
        have hpv : p * 128 ≤ 9223372036854775808 := by
          have h1 : (1 : Int) ≤ 128 ^ f := Int.pow_pos (by decide)
          have h2 : p * 128 * 1 ≤ p * 128 * 128 ^ f := Int.mul_le_mul_of_nonneg_left h1 (by omega)
          rw [Int.mul_assoc p 128 (128 ^ f), Int.mul_comm 128 (128 ^ f), ← Int.pow_succ, hpf] at h2
          omega
        have hdv : ∃ q : Int, 18446744073709551616 = q * (p * 128) := ⟨2 * 128 ^ f, by rw [Int.mul_assoc, Int.mul_comm (128 ^ f), Int.mul_assoc p, Int.mul_comm 128 (128 ^ f), ← Int.pow_succ, hpf]; rfl⟩
        obtain ⟨q, hq⟩ := hdv
        have hvq : v < q := by
          rcases Int.lt_or_le v q with h | h
          · exact h
          · have := Int.mul_le_mul_of_nonneg_right h (show 0 ≤ p * 128 by omega)
            omega
        have hvq2 : (v + 1) * (p * 128) ≤ q * (p * 128) := Int.mul_le_mul_of_nonneg_right (by omega) (by omega)
        rw [Int.add_mul, Int.one_mul] at hvq2
        refine ⟨c % 128 + v * 128, r', ?_, ?_, ?_, by omega, by rw [e3]; omega, Or.inr (by omega)⟩
        · rw [encU_big (f := f + 1) (u := c % 128 + v * 128) (by omega), e1, e2]
          have : c % 128 + 128 = c := by omega
          rw [this]
          rfl
        · rw [e3, Int.add_assoc]
        · rw [encU_big (f := f + 1) (u := c % 128 + v * 128) (by omega), e2, List.length_cons]
          omega
    · rw [if_neg hc] at h
      split at h
      · simp at h
      · rename_i hcond
        simp only [Prod.mk.injEq, and_true] at h
        obtain ⟨rfl, rfl⟩ := h
        refine ⟨c, r, ?_, rfl, ?_, b0, ?_, ?_⟩
        · rw [encU, if_pos (by omega)]
          rfl
        · rw [encU, if_pos (by omega)]
          simp
          omega
        · rcases Nat.eq_zero_or_pos f with rfl | hf
          · have hc1 : c ≤ 1 := by
              rcases Int.lt_or_le 1 c with h | h
              · exact absurd (Or.inr ⟨rfl, h⟩) hcond
              · exact h
            have := Int.mul_le_mul_of_nonneg_right hc1 (show 0 ≤ p by omega)
            simp at hpf
            omega
          · obtain ⟨f, rfl⟩ : ∃ n, f = n + 1 := ⟨f - 1, by omega⟩
            have h1 : (1 : Int) ≤ 128 ^ f := Int.pow_pos (by decide)
            have h2 : p * 128 * 1 ≤ p * 128 * 128 ^ f := Int.mul_le_mul_of_nonneg_left h1 (by omega)
            rw [Int.mul_assoc p 128 (128 ^ f), Int.mul_comm 128 (128 ^ f), ← Int.pow_succ, hpf] at h2
            have := Int.mul_le_mul_of_nonneg_right (show c ≤ 127 by omega) (show 0 ≤ p by omega)
            omega
        · rcases Decidable.em (p = 1) with h | h
          · exact Or.inl h
          · exact Or.inr (fun hc0 => hcond (Or.inl ⟨hc0, h⟩))
theorem dec_can {l : List Int} {x n : Int} (hl : Bytes l) (h : decU 10 0 1 l = (x, n, 0)) : I64 x ∧ ∃ r, l = encI x ++ r ∧ n = ((encI x).length : Int) := by
  obtain ⟨v, r, rfl, rfl, rfl, h0, h1, -⟩ := decU_can 9 0 1 l x n hl (by decide) (by decide) (by decide) h
  have e : zz (unzz (0 + v * 1)) = v := by rw [zz_unzz (by omega)]; omega
  refine ⟨unzz_range (by omega) (by omega), r, ?_, ?_⟩
  · rw [encI, e]
  · rw [encI, e]
    simp
end Go.Proofs.YtfdgihdmhdhpcaaDoor.P
end
section
namespace Go.Proofs.YtfdgihdmhdhpcaaDoor.P
open Go.RowKit Go.Proofs.YtfdgihdmhdhpcaaDoorW.PrintWords Go.Proofs.YtfdgihdmhdhpcaaDoorW.PrintLast Go.Proofs.YtfdgihdmhdhpcaaDoorW.PrintMore
attribute [local go_sem] max2_int min2_int max_two min_two max_three min_three max_four min_four
set_option linter.unusedVariables false
set_option linter.unusedSimpArgs false
/-! ### decoders in plain words: what decodes the encoding and nothing else -/
abbrev LIM : Nat := 1099511627776
theorem Bytes.app {a b : List Int} (h : Bytes a) (k : Bytes b) : Bytes (a ++ b) := fun x hx => (List.mem_append.1 hx).elim (h x) (k x)
theorem Bytes.left {a b : List Int} (h : Bytes (a ++ b)) : Bytes a := fun x hx => h x (List.mem_append_left _ hx)
theorem Bytes.right {a b : List Int} (h : Bytes (a ++ b)) : Bytes b := fun x hx => h x (List.mem_append_right _ hx)
theorem Bytes.take {a : List Int} (h : Bytes a) (n : Nat) : Bytes (a.take n) := fun x hx => h x (List.mem_of_mem_take hx)
theorem Bytes.drop {a : List Int} (h : Bytes a) (n : Nat) : Bytes (a.drop n) := fun x hx => h x (List.mem_of_mem_drop hx)
structure Get {α : Type} (P : α → Prop) (enc : α → List Int) (get : List Int → Option (α × Int × Int)) : Prop where
  bytes : ∀ x, P x → Bytes (enc x)
  pos : ∀ x, 0 < (enc x).length
  ok : ∀ x r, P x → Bytes r → (enc x).length + r.length < LIM → get (enc x ++ r) = some (x, ((enc x).length : Int), 0)
  pre : ∀ x m, P x → m < (enc x).length → (enc x).length < LIM → ∃ y n, get ((enc x).take m) = some (y, n, 6)
  can : ∀ l x n, Bytes l → l.length < LIM → get l = some (x, n, 0) → P x ∧ ∃ r, l = enc x ++ r ∧ n = ((enc x).length : Int)
  tot : ∀ l, Bytes l → l.length < LIM → ∃ y n e, get l = some (y, n, e)
structure Par {α : Type} (P : α → Prop) (enc : α → List Int) (p : List Int → Int → Option (α × List Int × Int)) : Prop where
  bytes : ∀ x, P x → Bytes (enc x)
  pos : ∀ x, 0 < (enc x).length
  ok : ∀ x r, P x → Bytes r → (enc x).length + r.length < LIM → p (enc x ++ r) 0 = some (x, r, 0)
  pre : ∀ x m, P x → m < (enc x).length → (enc x).length < LIM → ∃ y l, p ((enc x).take m) 0 = some (y, l, 6)
  can : ∀ l x r, Bytes l → l.length < LIM → p l 0 = some (x, r, 0) → P x ∧ l = enc x ++ r
  tot : ∀ l, Bytes l → l.length < LIM → ∃ y r e, p l 0 = some (y, r, e) ∧ Bytes r ∧ r.length ≤ l.length
  err : ∀ l e, e ≠ 0 → ∃ y, p l e = some (y, l, e)
theorem Get.par {α : Type} {P : α → Prop} {enc : α → List Int} {get : List Int → Option (α × Int × Int)} (h : Get P enc get) (z : α) : Par P enc (nextP get z) where
  bytes := h.bytes
  pos := h.pos
  ok x r hx hr hl := by
    unfold nextP
    rw [if_neg (by decide), h.ok x r hx hr hl, Option.bind_some, if_neg (by simp), if_pos (by simp; omega)]
    simp
  pre x m hx hm hl := by
    obtain ⟨y, n, e⟩ := h.pre x m hx hm hl
    refine ⟨z, (enc x).take m, ?_⟩
    unfold nextP
    rw [if_neg (by decide), e, Option.bind_some, if_pos (by simp)]
  can l x r hb hl hp := by
    unfold nextP at hp
    rw [if_neg (by decide)] at hp
    obtain ⟨⟨y, n, e⟩, hg, hp⟩ := Option.bind_eq_some_iff.1 hp
    simp only at hp
    by_cases he : e ≠ 0
    · rw [if_pos he] at hp
      simp only [Option.some.injEq, Prod.mk.injEq] at hp
      exact absurd hp.2.2 he
    · rw [if_neg he] at hp
      obtain rfl : e = 0 := by omega
      obtain ⟨hx, r', rfl, rfl⟩ := h.can l y n hb hl hg
      rw [if_pos (by simp; omega)] at hp
      simp only [Option.some.injEq, Prod.mk.injEq] at hp
      obtain ⟨rfl, hr, -⟩ := hp
      simp at hr
      subst hr
      exact ⟨hx, rfl⟩
  tot l hb hl := by
    obtain ⟨y, n, e, hg⟩ := h.tot l hb hl
    unfold nextP
    rw [if_neg (by decide), hg, Option.bind_some]
    by_cases he : e ≠ 0
    · rw [if_pos he]
      exact ⟨z, l, e, rfl, hb, Nat.le_refl _⟩
    · rw [if_neg he]
      obtain rfl : e = 0 := by omega
      obtain ⟨hx, r', rfl, rfl⟩ := h.can l y n hb hl hg
      rw [if_pos (by simp; omega)]
      exact ⟨_, _, 0, rfl, hb.drop _, by simp⟩
  err l e he := ⟨z, by unfold nextP; rw [if_pos he]⟩
theorem Par.seq {α β : Type} {P : α → Prop} {Q : β → Prop} {f : α → List Int} {g : β → List Int} {p : List Int → Int → Option (α × List Int × Int)} {q : List Int → Int → Option (β × List Int × Int)} (hp : Par P f p) (hq : Par Q g q) :
    Par (fun z : α × β => P z.1 ∧ Q z.2) (fun z => f z.1 ++ g z.2) (fun l e => (p l e).bind fun a => (q a.2.1 a.2.2).bind fun b => some ((a.1, b.1), b.2.1, b.2.2)) where
  bytes z hz := (hp.bytes _ hz.1).app (hq.bytes _ hz.2)
  pos z := by
    have := hp.pos z.1
    simp
    omega
  ok z r hz hr hl := by
    rw [List.length_append] at hl
    simp only [List.append_assoc]
    rw [hp.ok z.1 (g z.2 ++ r) hz.1 ((hq.bytes _ hz.2).app hr) (by rw [List.length_append]; omega)]
    simp only [Option.bind_some]
    rw [hq.ok z.2 r hz.2 hr (by omega)]
    rfl
  pre z m hz hm hl := by
    rw [List.length_append] at hl hm
    by_cases h : m < (f z.1).length
    · rw [List.take_append_of_le_length (by omega)]
      obtain ⟨y, l, e⟩ := hp.pre z.1 m hz.1 h (by omega)
      rw [e]
      obtain ⟨y2, e2⟩ := hq.err l 6 (by decide)
      simp only [Option.bind_some]
      rw [e2]
      exact ⟨_, _, rfl⟩
    · have hlt : ((g z.2).take (m - (f z.1).length)).length ≤ (g z.2).length := by rw [List.length_take]; omega
      rw [List.take_append, List.take_of_length_le (by omega), hp.ok z.1 _ hz.1 ((hq.bytes _ hz.2).take _) (by omega)]
      obtain ⟨y, l, e⟩ := hq.pre z.2 (m - (f z.1).length) hz.2 (by omega) (by omega)
      simp only [Option.bind_some]
      rw [e]
      exact ⟨_, _, rfl⟩
  can l z r hb hl h := by
    obtain ⟨⟨x, l1, e1⟩, h1, h⟩ := Option.bind_eq_some_iff.1 h
    obtain ⟨⟨y, l2, e2⟩, h2, h⟩ := Option.bind_eq_some_iff.1 h
    simp only [Option.some.injEq, Prod.mk.injEq] at h
    obtain ⟨rfl, rfl, rfl⟩ := h
    simp only at h2
    by_cases he : e1 ≠ 0
    · obtain ⟨y', e'⟩ := hq.err l1 e1 he
      rw [e'] at h2
      simp only [Option.some.injEq, Prod.mk.injEq] at h2
      exact absurd h2.2.2 he
    · obtain rfl : e1 = 0 := by omega
      obtain ⟨hx, rfl⟩ := hp.can l x l1 hb hl h1
      rw [List.length_append] at hl
      obtain ⟨hy, rfl⟩ := hq.can l1 y l2 hb.right (by omega) h2
      exact ⟨⟨hx, hy⟩, by simp⟩
  tot l hb hl := by
    obtain ⟨x, l1, e1, h1, hb1, hl1⟩ := hp.tot l hb hl
    rw [h1, Option.bind_some]
    by_cases he : e1 ≠ 0
    · obtain ⟨y', e'⟩ := hq.err l1 e1 he
      simp only
      rw [e']
      exact ⟨_, _, _, rfl, hb1, hl1⟩
    · obtain rfl : e1 = 0 := by omega
      obtain ⟨y, l2, e2, h2, hb2, hl2⟩ := hq.tot l1 hb1 (by omega)
      simp only
      rw [h2]
      exact ⟨_, _, _, rfl, hb2, Nat.le_trans hl2 hl1⟩
  err l e he := by
    obtain ⟨y, h⟩ := hp.err l e he
    obtain ⟨y', h'⟩ := hq.err l e he
    rw [h, Option.bind_some]
    simp only
    rw [h']
    exact ⟨_, rfl⟩
theorem Par.iso {α β : Type} {P : α → Prop} {f : α → List Int} {p : List Int → Int → Option (α × List Int × Int)} (hp : Par P f p) (tt : α → β) (un : β → α) (h1 : ∀ x, un (tt x) = x) (h2 : ∀ y, tt (un y) = y) :
    Par (fun y => P (un y)) (fun y => f (un y)) (fun l e => (p l e).bind fun a => some (tt a.1, a.2.1, a.2.2)) where
  bytes y hy := hp.bytes _ hy
  pos y := hp.pos _
  ok y r hy hr hl := by
    rw [hp.ok _ r hy hr hl, Option.bind_some]
    simp [h2]
  pre y m hy hm hl := by
    obtain ⟨z, l, e⟩ := hp.pre _ m hy hm hl
    rw [e]
    exact ⟨_, _, rfl⟩
  can l y r hb hl h := by
    obtain ⟨⟨x, l1, e1⟩, ha, h⟩ := Option.bind_eq_some_iff.1 h
    simp only [Option.some.injEq, Prod.mk.injEq] at h
    obtain ⟨rfl, rfl, rfl⟩ := h
    rw [h1]
    exact hp.can l x l1 hb hl ha
  tot l hb hl := by
    obtain ⟨x, l1, e1, h, hb1, hl1⟩ := hp.tot l hb hl
    rw [h]
    exact ⟨_, _, _, rfl, hb1, hl1⟩
  err l e he := by
    obtain ⟨y, h⟩ := hp.err l e he
    rw [h]
    exact ⟨_, rfl⟩
theorem int_get (k : Nat) (hk : 12 ≤ k) : Get I64 encI (wire_GetInt.f k) where
  bytes _ h := encI_bytes h
  pos x := encI_pos x
  ok x r hx hr _ := by rw [wire_GetInt_eq k _ hk ((encI_bytes hx).app hr), dec_enc hx]
  pre x m hx hm _ := ⟨0, 0, by rw [wire_GetInt_eq k _ hk ((encI_bytes hx).take m), dec_pre hx m hm]⟩
  can l x n hb _ h := by
    rw [wire_GetInt_eq k _ hk hb] at h
    exact dec_can hb (Option.some.inj h)
  tot l hb _ := ⟨_, _, _, wire_GetInt_eq k _ hk hb⟩
end Go.Proofs.YtfdgihdmhdhpcaaDoor.P
end
section
namespace Go.Proofs.YtfdgihdmhdhpcaaDoor.P
open Go.RowKit Go.Proofs.YtfdgihdmhdhpcaaDoorW.PrintWords Go.Proofs.YtfdgihdmhdhpcaaDoorW.PrintLast Go.Proofs.YtfdgihdmhdhpcaaDoorW.PrintMore
attribute [local go_sem] max2_int min2_int max_two min_two max_three min_three max_four min_four
set_option linter.unusedVariables false
set_option linter.unusedSimpArgs false
theorem gw_app (a b : List Int) (i : Nat) : gw (a ++ b) (a.length + i) = gw b i := by
  unfold gw
  rw [List.getD_eq_getElem?_getD, List.getD_eq_getElem?_getD, List.getElem?_append_right (by omega)]
  congr 2
  omega
theorem d16_app (a : List Int) (d : S38) (r : List Int) : d16 (a ++ (d.l ++ r)) a.length = d := by
  unfold d16
  have h0 := gw_app a (d.l ++ r) 0
  rw [Nat.add_zero] at h0
  rw [h0]
  simp only [gw_app]
  cases d
  rfl
theorem digBytes_snoc (L : List S38) (d : S38) : digBytes (L ++ [d]) = digBytes L ++ d.l := by simp [digBytes]
theorem digBytes_len (L : List S38) : (digBytes L).length = 16 * L.length := by
  induction L with
  | nil => rfl
  | cons d l ih => rw [digBytes, List.flatMap_cons, List.length_append, ← digBytes, ih, List.length_cons]; simp [S38.l]; omega
theorem digs_app (a : List Int) : ∀ (n : Nat) (L : List S38) (r : List Int), L.length = n → digs (a ++ (digBytes L ++ r)) a.length n = L
  | 0, L, r, h => by
    obtain rfl := List.eq_nil_of_length_eq_zero h
    rfl
  | n + 1, L, r, h => by
    rcases List.eq_nil_or_concat L with rfl | ⟨L, d, rfl⟩
    · simp at h
    · rw [List.concat_eq_append] at h ⊢
      have hn : L.length = n := by simpa using h
      rw [digBytes_snoc, List.append_assoc, digs, digs_app a n L (d.l ++ r) hn]
      congr 2
      rw [← List.append_assoc, show a.length + 16 * n = (a ++ digBytes L).length by rw [List.length_append, digBytes_len, hn]]
      exact d16_app _ d r
theorem d16_l (l : List Int) (i : Nat) (h : i + 16 ≤ l.length) : (d16 l i).l = (l.drop i).take 16 := by
  have hd : l = l.take i ++ l.drop i := (List.take_append_drop i l).symm
  have hlen : (l.take i).length = i := by rw [List.length_take]; omega
  have hm : 16 ≤ (l.drop i).length := by rw [List.length_drop]; omega
  generalize l.drop i = m at hd hm ⊢
  generalize l.take i = t at hd hlen
  subst hd hlen
  unfold d16
  have h0 := gw_app t m 0
  rw [Nat.add_zero] at h0
  rw [h0]
  simp only [gw_app]
  match m, hm with
  | x0 :: x1 :: x2 :: x3 :: x4 :: x5 :: x6 :: x7 :: x8 :: x9 :: x10 :: x11 :: x12 :: x13 :: x14 :: x15 :: r, _ => rfl
theorem digBytes_digs (l : List Int) (a : Nat) : ∀ n, a + 16 * n ≤ l.length → digBytes (digs l a n) = (l.drop a).take (16 * n)
  | 0, _ => by simp [digs, digBytes]
  | n + 1, h => by
    rw [digs, digBytes_snoc, digBytes_digs l a n (by omega), d16_l l _ (by omega), Nat.mul_add, List.take_add, List.drop_drop]
theorem mem_digBytes {L : List S38} {d : S38} (h : d ∈ L) (hb : Bytes (digBytes L)) : Bytes d.l := fun x hx => hb x (List.mem_flatMap.2 ⟨d, h, hx⟩)
def DigOk (L : List S38) : Prop := Bytes (digBytes L) ∧ L.length < LIM
def encD (L : List S38) : List Int := encI (L.length : Int) ++ digBytes L
theorem I64_len {n : Nat} (h : n < LIM) : I64 (n : Int) := by
  unfold I64
  have : n < 1099511627776 := h
  omega
theorem wrap64_id {x : Int} (h0 : 0 ≤ x) (h1 : x < 9223372036854775808) : wrap64 x = x := by unfold wrap64; omega
theorem count_ok (k : Nat) (hk : 12 ≤ k) (sz : Nat) (hs : 0 < sz) (n : Nat) (r : List Int) (hr : Bytes r) (hn : n < LIM) (hl : (encI n ++ r).length < LIM) (hle : n * sz ≤ r.length) : wire_count.f k (encI (n : Int) ++ r) (sz : Int) = some ((n : Int), ((encI n).length : Int), 0) := by
  have hi := I64_len hn
  rw [wire_count.f, wire_GetInt_eq k _ hk ((encI_bytes hi).app hr), dec_enc hi, Option.bind_some, if_pos rfl]
  simp only
  have hl2 : (encI (n : Int) ++ r).length < 1099511627776 := hl
  have hla : (encI (n : Int) ++ r).length = (encI (n : Int)).length + r.length := List.length_append
  have hsub : (((encI (n : Int) ++ r).length : Int) - ((encI (n : Int)).length : Int)) = (r.length : Int) := by omega
  have w2 : Int.tdiv (r.length : Int) (sz : Int) = ((r.length / sz : Nat) : Int) := rfl
  have hq : n ≤ r.length / sz := (Nat.le_div_iff_mul_le hs).2 hle
  have hq2 : r.length / sz ≤ r.length := Nat.div_le_self _ _
  rw [if_neg (by omega), if_neg (by omega), hsub, wrap64_id (x := (r.length : Int)) (by omega) (by omega), w2, wrap64_id (x := ((r.length / sz : Nat) : Int)) (Int.natCast_nonneg _) (by omega), if_neg (by omega)]
theorem count_short (k : Nat) (hk : 12 ≤ k) (sz : Nat) (hs : 0 < sz) (n : Nat) (r : List Int) (hr : Bytes r) (hn : n < LIM) (hl : (encI n ++ r).length < LIM) (hle : r.length < n * sz) : wire_count.f k (encI (n : Int) ++ r) (sz : Int) = some ((n : Int), ((encI n).length : Int), 6) := by
  have hi := I64_len hn
  rw [wire_count.f, wire_GetInt_eq k _ hk ((encI_bytes hi).app hr), dec_enc hi, Option.bind_some, if_pos rfl]
  simp only
  have hl2 : (encI (n : Int) ++ r).length < 1099511627776 := hl
  have hla : (encI (n : Int) ++ r).length = (encI (n : Int)).length + r.length := List.length_append
  have hsub : (((encI (n : Int) ++ r).length : Int) - ((encI (n : Int)).length : Int)) = (r.length : Int) := by omega
  have w2 : Int.tdiv (r.length : Int) (sz : Int) = ((r.length / sz : Nat) : Int) := rfl
  have hq : r.length / sz < n := (Nat.div_lt_iff_lt_mul hs).2 hle
  have hq2 : r.length / sz ≤ r.length := Nat.div_le_self _ _
  rw [if_neg (by omega), if_neg (by omega), hsub, wrap64_id (x := (r.length : Int)) (by omega) (by omega), w2, wrap64_id (x := ((r.length / sz : Nat) : Int)) (Int.natCast_nonneg _) (by omega), if_pos (by omega)]
theorem count_cut (k : Nat) (hk : 12 ≤ k) (sz : Int) (n : Int) (hn : I64 n) (m : Nat) (hm : m < (encI n).length) : wire_count.f k ((encI n).take m) sz = some (0, 0, 6) := by
  rw [wire_count.f, wire_GetInt_eq k _ hk ((encI_bytes hn).take m), dec_pre hn m hm, Option.bind_some, if_neg (by decide)]
/-- What count answers, whatever the bytes are. -/
theorem count_can (k : Nat) (hk : 12 ≤ k) (sz : Nat) (hs : 0 < sz) (l : List Int) (hb : Bytes l) (hl : l.length < LIM) :
    ∃ x a e, wire_count.f k l (sz : Int) = some (x, a, e) ∧ (e = 0 → ∃ (n : Nat) (r : List Int), x = n ∧ n < LIM ∧ l = encI (n : Int) ++ r ∧ a = ((encI (n : Int)).length : Int) ∧ n * sz ≤ r.length) := by
  rcases hd : decU 10 0 1 l with ⟨x, a, e⟩
  rw [wire_count.f, wire_GetInt_eq k _ hk hb, hd, Option.bind_some]
  simp only
  by_cases he : e = 0
  · subst he
    obtain ⟨hi, r, rfl, rfl⟩ := dec_can hb hd
    rw [if_pos rfl]
    by_cases hx : x < 0
    · rw [if_pos hx]
      exact ⟨_, _, _, rfl, fun h => absurd h (by decide)⟩
    · obtain ⟨n, rfl⟩ := Int.eq_ofNat_of_zero_le (by omega : 0 ≤ x)
      have hl2 : (encI (n : Int) ++ r).length < 1099511627776 := hl
      have hla : (encI (n : Int) ++ r).length = (encI (n : Int)).length + r.length := List.length_append
      have hsub : (((encI (n : Int) ++ r).length : Int) - ((encI (n : Int)).length : Int)) = (r.length : Int) := by omega
      have w2 : Int.tdiv (r.length : Int) (sz : Int) = ((r.length / sz : Nat) : Int) := rfl
      have hq2 : r.length / sz ≤ r.length := Nat.div_le_self _ _
      rw [if_neg hx, if_neg (by omega), hsub, wrap64_id (x := (r.length : Int)) (by omega) (by omega), w2, wrap64_id (x := ((r.length / sz : Nat) : Int)) (Int.natCast_nonneg _) (by omega)]
      by_cases hq : (n : Int) > ((r.length / sz : Nat) : Int)
      · rw [if_pos hq]
        exact ⟨_, _, _, rfl, fun h => absurd h (by decide)⟩
      · rw [if_neg hq]
        refine ⟨_, _, _, rfl, fun _ => ⟨n, r, rfl, ?_, rfl, rfl, (Nat.le_div_iff_mul_le hs).1 (by omega)⟩⟩
        show n < 1099511627776
        omega
  · rw [if_neg he]
    exact ⟨_, _, _, rfl, fun h => absurd h he⟩
end Go.Proofs.YtfdgihdmhdhpcaaDoor.P
end
section
namespace Go.Proofs.YtfdgihdmhdhpcaaDoor.P
open Go.RowKit Go.Proofs.YtfdgihdmhdhpcaaDoorW.PrintWords Go.Proofs.YtfdgihdmhdhpcaaDoorW.PrintLast Go.Proofs.YtfdgihdmhdhpcaaDoorW.PrintMore
attribute [local go_sem] max2_int min2_int max_two min_two max_three min_three max_four min_four
set_option linter.unusedVariables false
set_option linter.unusedSimpArgs false
theorem encD_split (L : List S38) (m : Nat) (h : ¬ m < (encI (L.length : Int)).length) : (encD L).take m = encI (L.length : Int) ++ (digBytes L).take (m - (encI (L.length : Int)).length) := by
  rw [encD, List.take_append, List.take_of_length_le (by omega)]
set_option maxRecDepth 100000 in
theorem dig_get (k : Nat) (hk : 12 ≤ k) : Get DigOk encD (wire_GetDigests.f k) where
  bytes L h := (encI_bytes (I64_len h.2)).app h.1
  pos L := by
    have := encI_pos (L.length : Int)
    rw [encD, List.length_append]
    omega
  ok L r h hr hl := by
    have hd := digBytes_len L
    have e : encD L ++ r = encI (L.length : Int) ++ (digBytes L ++ r) := by rw [encD, List.append_assoc]
    have hl2 : (encI (L.length : Int) ++ (digBytes L ++ r)).length < LIM := by rw [← e, List.length_append]; exact hl
    have hl3 : (encI (L.length : Int) ++ (digBytes L ++ r)).length < 1099511627776 := hl2
    have hlen : (encI (L.length : Int) ++ (digBytes L ++ r)).length = (encI (L.length : Int)).length + (16 * L.length + r.length) := by rw [List.length_append, List.length_append, hd]
    have hc := count_ok k hk 16 (by decide) L.length (digBytes L ++ r) (h.1.app hr) h.2 hl2 (by rw [List.length_append, hd]; omega)
    rw [e, wire_GetDigests.f]
    rw [show ((16 : Nat) : Int) = 16 from rfl] at hc
    rw [hc, Option.bind_some]
    simp only
    rw [if_pos trivial, if_pos (by omega), Int.toNat_natCast, Int.toNat_natCast, digs_app _ _ L r rfl, encD, List.length_append, hd]
    congr 3
  pre L m h hm hl := by
    by_cases hlt : m < (encI (L.length : Int)).length
    · rw [encD, List.take_append_of_le_length (by omega)]
      rw [wire_GetDigests.f, count_cut k hk 16 _ (I64_len h.2) m hlt, Option.bind_some, if_neg (by decide)]
      exact ⟨_, _, rfl⟩
    · have hd := digBytes_len L
      rw [encD_split L m hlt]
      have hm2 : m < (encI (L.length : Int)).length + 16 * L.length := by rw [encD, List.length_append, hd] at hm; exact hm
      have hr : ((digBytes L).take (m - (encI (L.length : Int)).length)).length < L.length * 16 := by rw [List.length_take, hd]; omega
      have hl2 : (encI (L.length : Int) ++ (digBytes L).take (m - (encI (L.length : Int)).length)).length < LIM := by
        rw [encD, List.length_append, hd] at hl
        rw [List.length_append]
        have : LIM = 1099511627776 := rfl
        omega
      have hc := count_short k hk 16 (by decide) L.length _ (h.1.take _) h.2 hl2 hr
      rw [show ((16 : Nat) : Int) = 16 from rfl] at hc
      rw [wire_GetDigests.f, hc, Option.bind_some, if_neg (by simp)]
      exact ⟨_, _, rfl⟩
  can l L n hb hl h := by
    obtain ⟨x, a, e, hc, hce⟩ := count_can k hk 16 (by decide) l hb hl
    rw [show ((16 : Nat) : Int) = 16 from rfl] at hc
    rw [wire_GetDigests.f, hc, Option.bind_some] at h
    simp only at h
    by_cases he : e = 0
    · have hq := hce he
      clear hce
      obtain ⟨N, hq⟩ := hq
      obtain ⟨r, hq⟩ := hq
      have hx1 := hq.1
      have hN := hq.2.1
      have hx2 := hq.2.2.1
      have hx3 := hq.2.2.2.1
      have hle := hq.2.2.2.2
      clear hq
      subst hx1 hx2 hx3
      rw [if_pos he] at h
      have hl3 : (encI (N : Int) ++ r).length < 1099511627776 := hl
      have hla : (encI (N : Int) ++ r).length = (encI (N : Int)).length + r.length := List.length_append
      rw [if_pos (by omega), Int.toNat_natCast, Int.toNat_natCast] at h
      simp only [Option.some.injEq, Prod.mk.injEq] at h
      obtain ⟨rfl, rfl, -⟩ := h
      have hdb := digBytes_digs (encI (N : Int) ++ r) (encI (N : Int)).length N (by omega)
      rw [List.drop_left] at hdb
      refine ⟨⟨by rw [hdb]; exact hb.right.take _, by rw [digs_length]; exact hN⟩, r.drop (16 * N), ?_, ?_⟩
      · rw [encD, digs_length, hdb, List.append_assoc, List.take_append_drop]
      · rw [encD, digs_length, hdb, List.length_append, List.length_take]
        omega
    · rw [if_neg he] at h
      simp only [Option.some.injEq, Prod.mk.injEq] at h
      exact absurd h.2.2 he
  tot l hb hl := by
    obtain ⟨x, a, e, hc, hce⟩ := count_can k hk 16 (by decide) l hb hl
    rw [show ((16 : Nat) : Int) = 16 from rfl] at hc
    rw [wire_GetDigests.f, hc, Option.bind_some]
    simp only
    by_cases he : e = 0
    · have hq := hce he
      clear hce
      obtain ⟨N, hq⟩ := hq
      obtain ⟨r, hq⟩ := hq
      have hx1 := hq.1
      have hN := hq.2.1
      have hx2 := hq.2.2.1
      have hx3 := hq.2.2.2.1
      have hle := hq.2.2.2.2
      clear hq
      subst hx1 hx2 hx3
      have hl3 : (encI (N : Int) ++ r).length < 1099511627776 := hl
      have hla : (encI (N : Int) ++ r).length = (encI (N : Int)).length + r.length := List.length_append
      rw [if_pos he, if_pos (by omega)]
      exact ⟨_, _, _, rfl⟩
    · rw [if_neg he]
      exact ⟨_, _, _, rfl⟩
theorem bytesOf_str (l : List Int) (h : Bytes l) : bytesOf (strOfNums l) = l := by
  unfold bytesOf
  rw [strOfNums_data, List.map_map]
  conv => rhs; rw [← List.map_id l]
  refine List.map_congr_left (fun x hx => ?_)
  obtain ⟨h0, h1⟩ := h x hx
  simp [UInt8.toNat_ofNat]
  omega
theorem str_bytesOf (s : ByteArray) : strOfNums (bytesOf s) = s := by
  have h : (strOfNums (bytesOf s)).data.toList = s.data.toList := by
    rw [strOfNums_data]
    unfold bytesOf
    rw [List.map_map]
    conv => rhs; rw [← List.map_id s.data.toList]
    refine List.map_congr_left (fun x _ => ?_)
    simp
  have h2 : (strOfNums (bytesOf s)).data = s.data := Array.toList_inj.1 h
  cases s
  cases hh : strOfNums (bytesOf _)
  rw [hh] at h2
  simp at h2
  rw [h2]
theorem bytesOf_bytes (s : ByteArray) : Bytes (bytesOf s) := fun x hx => by
  obtain ⟨b, -, rfl⟩ := List.mem_map.1 hx
  have := b.toNat_lt
  omega
def StrOk (s : ByteArray) : Prop := s.size < LIM
def encS (s : ByteArray) : List Int := encI (s.size : Int) ++ bytesOf s
set_option maxRecDepth 100000 in
theorem str_get (k : Nat) (hk : 12 ≤ k) : Get StrOk encS (wire_GetBytes.f k) where
  bytes s h := (encI_bytes (I64_len h)).app (bytesOf_bytes s)
  pos s := by
    have := encI_pos (s.size : Int)
    rw [encS, List.length_append]
    omega
  ok s r h hr hl := by
    have hd := bytesOf_length s
    have e : encS s ++ r = encI (s.size : Int) ++ (bytesOf s ++ r) := by rw [encS, List.append_assoc]
    have hl2 : (encI (s.size : Int) ++ (bytesOf s ++ r)).length < LIM := by rw [← e, List.length_append]; exact hl
    have hl3 : (encI (s.size : Int) ++ (bytesOf s ++ r)).length < 1099511627776 := hl2
    have hlen : (encI (s.size : Int) ++ (bytesOf s ++ r)).length = (encI (s.size : Int)).length + (s.size + r.length) := by rw [List.length_append, List.length_append, hd]
    have hc := count_ok k hk 1 (by decide) s.size (bytesOf s ++ r) ((bytesOf_bytes s).app hr) h hl2 (by rw [List.length_append, hd]; omega)
    rw [show ((1 : Nat) : Int) = 1 from rfl] at hc
    rw [e, wire_GetBytes.f, hc, Option.bind_some]
    simp only
    have e2 : (((encI (s.size : Int)).length : Int) + (s.size : Int)).toNat = (encI (s.size : Int)).length + s.size := by omega
    rw [if_pos trivial, if_pos (by omega), wrap64_id (x := ((encI (s.size : Int)).length : Int) + (s.size : Int)) (by omega) (by omega), if_pos (by omega), if_pos (by omega), e2, Int.toNat_natCast, List.take_append, List.take_of_length_le (by omega), List.drop_left, Nat.add_sub_cancel_left, List.take_append_of_le_length (by omega), List.take_of_length_le (by omega), str_bytesOf, encS, List.length_append, hd]
    congr 3
  pre s m h hm hl := by
    have hd := bytesOf_length s
    by_cases hlt : m < (encI (s.size : Int)).length
    · rw [encS, List.take_append_of_le_length (by omega)]
      rw [wire_GetBytes.f, count_cut k hk 1 _ (I64_len h) m hlt, Option.bind_some, if_neg (by decide)]
      exact ⟨_, _, rfl⟩
    · rw [encS, List.take_append, List.take_of_length_le (by omega)]
      have hm2 : m < (encI (s.size : Int)).length + s.size := by rw [encS, List.length_append, hd] at hm; exact hm
      have hr : ((bytesOf s).take (m - (encI (s.size : Int)).length)).length < s.size * 1 := by rw [List.length_take, hd]; omega
      have hl2 : (encI (s.size : Int) ++ (bytesOf s).take (m - (encI (s.size : Int)).length)).length < LIM := by
        rw [encS, List.length_append, hd] at hl
        rw [List.length_append]
        have : LIM = 1099511627776 := rfl
        omega
      have hc := count_short k hk 1 (by decide) s.size _ ((bytesOf_bytes s).take _) h hl2 hr
      rw [show ((1 : Nat) : Int) = 1 from rfl] at hc
      rw [wire_GetBytes.f, hc, Option.bind_some, if_neg (by simp)]
      exact ⟨_, _, rfl⟩
  can l s n hb hl h := by
    obtain ⟨x, a, e, hc, hce⟩ := count_can k hk 1 (by decide) l hb hl
    rw [show ((1 : Nat) : Int) = 1 from rfl] at hc
    rw [wire_GetBytes.f, hc, Option.bind_some] at h
    simp only at h
    by_cases he : e = 0
    · have hq := hce he
      clear hce
      obtain ⟨N, hq⟩ := hq
      obtain ⟨r, hq⟩ := hq
      have hx1 := hq.1
      have hN := hq.2.1
      have hx2 := hq.2.2.1
      have hx3 := hq.2.2.2.1
      have hle := hq.2.2.2.2
      clear hq
      subst hx1 hx2 hx3
      rw [if_pos he] at h
      have hl3 : (encI (N : Int) ++ r).length < 1099511627776 := hl
      have hla : (encI (N : Int) ++ r).length = (encI (N : Int)).length + r.length := List.length_append
      have e2 : (((encI (N : Int)).length : Int) + (N : Int)).toNat = (encI (N : Int)).length + N := by omega
      rw [wrap64_id (x := ((encI (N : Int)).length : Int) + (N : Int)) (by omega) (by omega), if_pos (by omega), if_pos (by omega), if_pos (by omega), e2, Int.toNat_natCast, List.take_append, List.take_of_length_le (by omega), List.drop_left, Nat.add_sub_cancel_left] at h
      simp only [Option.some.injEq, Prod.mk.injEq] at h
      obtain ⟨rfl, rfl, -⟩ := h
      have hsz : (strOfNums (r.take N)).size = N := by rw [strOfNums_size, List.length_take]; omega
      refine ⟨by unfold StrOk; rw [hsz]; exact hN, r.drop N, ?_, ?_⟩
      · rw [encS, hsz, bytesOf_str _ (hb.right.take _), List.append_assoc, List.take_append_drop]
      · rw [encS, hsz, bytesOf_str _ (hb.right.take _), List.length_append, List.length_take]
        omega
    · rw [if_neg he] at h
      simp only [Option.some.injEq, Prod.mk.injEq] at h
      exact absurd h.2.2 he
  tot l hb hl := by
    obtain ⟨x, a, e, hc, hce⟩ := count_can k hk 1 (by decide) l hb hl
    rw [show ((1 : Nat) : Int) = 1 from rfl] at hc
    rw [wire_GetBytes.f, hc, Option.bind_some]
    simp only
    by_cases he : e = 0
    · have hq := hce he
      clear hce
      obtain ⟨N, hq⟩ := hq
      obtain ⟨r, hq⟩ := hq
      have hx1 := hq.1
      have hN := hq.2.1
      have hx2 := hq.2.2.1
      have hx3 := hq.2.2.2.1
      have hle := hq.2.2.2.2
      clear hq
      subst hx1 hx2 hx3
      have hl3 : (encI (N : Int) ++ r).length < 1099511627776 := hl
      have hla : (encI (N : Int) ++ r).length = (encI (N : Int)).length + r.length := List.length_append
      rw [if_pos he, wrap64_id (x := ((encI (N : Int)).length : Int) + (N : Int)) (by omega) (by omega), if_pos (by omega), if_pos (by omega), if_pos (by omega)]
      exact ⟨_, _, _, rfl⟩
    · rw [if_neg he]
      exact ⟨_, _, _, rfl⟩
end Go.Proofs.YtfdgihdmhdhpcaaDoor.P
end
section
namespace Go.Proofs.YtfdgihdmhdhpcaaDoor.P
open Go.RowKit Go.Proofs.YtfdgihdmhdhpcaaDoorW.PrintWords Go.Proofs.YtfdgihdmhdhpcaaDoorW.PrintLast Go.Proofs.YtfdgihdmhdhpcaaDoorW.PrintMore
attribute [local go_sem] max2_int min2_int max_two min_two max_three min_three max_four min_four
set_option linter.unusedVariables false
set_option linter.unusedSimpArgs false
theorem flat_len {α : Type} {enc : α → List Int} (hp : ∀ x, 0 < (enc x).length) (L : List α) : L.length ≤ (L.flatMap enc).length := by
  induction L with
  | nil => simp
  | cons x L ih =>
    rw [List.flatMap_cons, List.length_append, List.length_cons]
    have := hp x
    omega
theorem flat_bytes {α : Type} {P : α → Prop} {enc : α → List Int} (hb : ∀ x, P x → Bytes (enc x)) (L : List α) (h : ∀ x ∈ L, P x) : Bytes (L.flatMap enc) := fun y hy => by
  obtain ⟨x, hx, hy⟩ := List.mem_flatMap.1 hy
  exact hb x (h x hx) y hy
theorem loop_ok {α : Type} {P : α → Prop} {enc : α → List Int} {p : List Int → Int → Option (α × List Int × Int)} (hp : Par P enc p) : ∀ (L acc : List α) (r : List Int), (∀ x ∈ L, P x) → Bytes r → (L.flatMap enc).length + r.length < LIM →
    loopP p L.length acc (L.flatMap enc ++ r) 0 = some (acc ++ L, r, 0)
  | [], acc, r, _, _, _ => by simp [loopP]
  | x :: L, acc, r, h, hr, hl => by
    rw [List.flatMap_cons, List.length_append] at hl
    rw [List.length_cons, loopP, if_neg (by decide), List.flatMap_cons, List.append_assoc,
      hp.ok x _ (h x List.mem_cons_self) ((flat_bytes hp.bytes L (fun y hy => h y (List.mem_cons_of_mem _ hy))).app hr) (by rw [List.length_append]; omega), Option.bind_some]
    simp only
    rw [loop_ok hp L (acc ++ [x]) r (fun y hy => h y (List.mem_cons_of_mem _ hy)) hr (by omega)]
    simp
theorem loop_pre {α : Type} {P : α → Prop} {enc : α → List Int} {p : List Int → Int → Option (α × List Int × Int)} (hp : Par P enc p) : ∀ (L acc : List α) (m : Nat), (∀ x ∈ L, P x) → m < (L.flatMap enc).length → (L.flatMap enc).length < LIM →
    ∃ y l, loopP p L.length acc ((L.flatMap enc).take m) 0 = some (y, l, 6)
  | [], acc, m, _, h, _ => by simp at h
  | x :: L, acc, m, h, hm, hl => by
    rw [List.flatMap_cons, List.length_append] at hl hm
    rw [List.length_cons, loopP, if_neg (by decide), List.flatMap_cons]
    by_cases hx : m < (enc x).length
    · rw [List.take_append_of_le_length (by omega)]
      obtain ⟨y, l, e⟩ := hp.pre x m (h x List.mem_cons_self) hx (by omega)
      rw [e, Option.bind_some]
      exact ⟨_, _, loopP_stop _ _ _ _ (by simp)⟩
    · have hlt : ((L.flatMap enc).take (m - (enc x).length)).length ≤ (L.flatMap enc).length := by rw [List.length_take]; omega
      rw [List.take_append, List.take_of_length_le (by omega), hp.ok x _ (h x List.mem_cons_self) ((flat_bytes hp.bytes L (fun y hy => h y (List.mem_cons_of_mem _ hy))).take _) (by omega), Option.bind_some]
      exact loop_pre hp L _ _ (fun y hy => h y (List.mem_cons_of_mem _ hy)) (by omega) (by omega)
theorem loop_can {α : Type} {P : α → Prop} {enc : α → List Int} {p : List Int → Int → Option (α × List Int × Int)} (hp : Par P enc p) : ∀ (n : Nat) (acc res : List α) (l r : List Int), Bytes l → l.length < LIM → loopP p n acc l 0 = some (res, r, 0) →
    ∃ L, res = acc ++ L ∧ L.length = n ∧ (∀ x ∈ L, P x) ∧ l = L.flatMap enc ++ r
  | 0, acc, res, l, r, _, _, h => by
    simp only [loopP, Option.some.injEq, Prod.mk.injEq] at h
    obtain ⟨rfl, rfl, -⟩ := h
    exact ⟨[], by simp, rfl, by simp, by simp⟩
  | n + 1, acc, res, l, r, hb, hl, h => by
    rw [loopP, if_neg (by decide)] at h
    obtain ⟨⟨x, l1, e1⟩, hx, h⟩ := Option.bind_eq_some_iff.1 h
    simp only at h
    by_cases he : e1 ≠ 0
    · rw [loopP_stop _ _ _ _ he] at h
      simp only [Option.some.injEq, Prod.mk.injEq] at h
      exact absurd h.2.2 he
    · have he0 : e1 = 0 := by omega
      rw [he0] at hx h
      obtain ⟨hpx, hl1⟩ := hp.can l x l1 hb hl hx
      rw [hl1] at hb hl ⊢
      rw [List.length_append] at hl
      obtain ⟨L, h1, h2, h3, h4⟩ := loop_can hp n _ res l1 r hb.right (by omega) h
      refine ⟨x :: L, by rw [h1]; simp, by simp [h2], ?_, by rw [h4]; simp⟩
      intro y hy
      rcases List.mem_cons.1 hy with rfl | hy
      · exact hpx
      · exact h3 y hy
theorem loop_tot {α : Type} {P : α → Prop} {enc : α → List Int} {p : List Int → Int → Option (α × List Int × Int)} (hp : Par P enc p) : ∀ (n : Nat) (acc : List α) (l : List Int) (e : Int), Bytes l → l.length < LIM →
    ∃ y r e', loopP p n acc l e = some (y, r, e') ∧ Bytes r ∧ r.length ≤ l.length
  | 0, acc, l, e, hb, _ => ⟨_, _, _, rfl, hb, Nat.le_refl _⟩
  | n + 1, acc, l, e, hb, hl => by
    rw [loopP]
    by_cases he : e ≠ 0
    · rw [if_pos he]
      exact ⟨_, _, _, rfl, hb, Nat.le_refl _⟩
    · rw [if_neg he]
      have he0 : e = 0 := by omega
      rw [he0]
      obtain ⟨x, l1, e1, h1, hb1, hl1⟩ := hp.tot l hb hl
      rw [h1, Option.bind_some]
      obtain ⟨y, r, e', h2, hb2, hl2⟩ := loop_tot hp n (acc ++ [x]) l1 e1 hb1 (by omega)
      exact ⟨y, r, e', h2, hb2, Nat.le_trans hl2 hl1⟩
def encL {α : Type} (enc : α → List Int) (L : List α) : List Int := encI (L.length : Int) ++ L.flatMap enc
theorem Par.list {α : Type} {P : α → Prop} {enc : α → List Int} {p : List Int → Int → Option (α × List Int × Int)} (hp : Par P enc p) (k : Nat) (hk : 12 ≤ k) : Par (fun L : List α => (∀ x ∈ L, P x) ∧ L.length < LIM) (encL enc) (listP k p) := by
  have hi := (int_get k hk).par 0
  refine ⟨fun L h => (encI_bytes (I64_len h.2)).app (flat_bytes hp.bytes L h.1), fun L => ?_, fun L r h hr hl => ?_, fun L m h hm hl => ?_, fun l L r hb hl h => ?_, fun l hb hl => ?_, fun l e he => ?_⟩
  · have := encI_pos (L.length : Int)
    rw [encL, List.length_append]
    omega
  · have hfl := flat_len hp.pos L
    have hl2 : L.length < 1099511627776 := h.2
    rw [encL, List.length_append] at hl
    rw [listP, encL, List.append_assoc, hi.ok _ _ (I64_len h.2) ((flat_bytes hp.bytes L h.1).app hr) (by rw [List.length_append]; omega), Option.bind_some]
    simp only
    rw [if_neg (by simp), if_neg (by omega), if_neg (by rw [List.length_append]; omega), if_pos (by omega), Int.toNat_natCast, loop_ok hp L [] r h.1 hr (by omega)]
    rfl
  · have hfl := flat_len hp.pos L
    have hl2 : L.length < 1099511627776 := h.2
    rw [encL, List.length_append] at hl hm
    rw [listP, encL]
    by_cases hlt : m < (encI (L.length : Int)).length
    · rw [List.take_append_of_le_length (by omega)]
      obtain ⟨y, l, e⟩ := hi.pre _ m (I64_len h.2) hlt (by omega)
      rw [e, Option.bind_some, if_pos (by simp)]
      exact ⟨_, _, rfl⟩
    · have hlt2 : ((L.flatMap enc).take (m - (encI (L.length : Int)).length)).length ≤ (L.flatMap enc).length := by rw [List.length_take]; omega
      rw [List.take_append, List.take_of_length_le (by omega), hi.ok _ _ (I64_len h.2) ((flat_bytes hp.bytes L h.1).take _) (by omega), Option.bind_some]
      simp only
      rw [if_neg (by simp), if_neg (by omega)]
      by_cases hg : (L.length : Int) > (((L.flatMap enc).take (m - (encI (L.length : Int)).length)).length : Int)
      · rw [if_pos hg]
        exact ⟨_, _, rfl⟩
      · rw [if_neg hg, if_pos (by omega), Int.toNat_natCast]
        exact loop_pre hp L [] _ h.1 (by omega) (by omega)
  · rw [listP] at h
    obtain ⟨⟨n, l1, e1⟩, h1, h⟩ := Option.bind_eq_some_iff.1 h
    simp only at h
    by_cases he : e1 ≠ 0
    · rw [if_pos he] at h
      simp only [Option.some.injEq, Prod.mk.injEq] at h
      exact absurd h.2.2 he
    · have he0 : e1 = 0 := by omega
      rw [if_neg he] at h
      rw [he0] at h1
      obtain ⟨hn, hl1⟩ := hi.can l n l1 hb hl h1
      rw [hl1] at hb hl ⊢
      rw [List.length_append] at hl
      by_cases hn0 : n < 0
      · rw [if_pos hn0] at h
        simp at h
      · rw [if_neg hn0] at h
        by_cases hg : n > (l1.length : Int)
        · rw [if_pos hg] at h
          simp at h
        · rw [if_neg hg] at h
          by_cases h64 : n * 64 ≤ 140737488355328
          · rw [if_pos h64] at h
            obtain ⟨N, rfl⟩ := Int.eq_ofNat_of_zero_le (by omega : 0 ≤ n)
            rw [Int.toNat_natCast] at h
            obtain ⟨L', h2, h3, h4, h5⟩ := loop_can hp N [] L l1 r hb.right (by omega) h
            rw [List.nil_append] at h2
            rw [h2]
            refine ⟨⟨h4, by rw [h3]; omega⟩, ?_⟩
            rw [encL, h3, h5, List.append_assoc]
          · rw [if_neg h64] at h
            cases h
  · rw [listP]
    obtain ⟨n, l1, e1, h1, hb1, hl1⟩ := hi.tot l hb hl
    rw [h1, Option.bind_some]
    simp only
    by_cases he : e1 ≠ 0
    · rw [if_pos he]
      exact ⟨_, _, _, rfl, hb1, hl1⟩
    · rw [if_neg he]
      by_cases hn0 : n < 0
      · rw [if_pos hn0]
        exact ⟨_, _, _, rfl, hb1, hl1⟩
      · rw [if_neg hn0]
        by_cases hg : n > (l1.length : Int)
        · rw [if_pos hg]
          exact ⟨_, _, _, rfl, hb1, hl1⟩
        · have hl2 : l.length < 1099511627776 := hl
          rw [if_neg hg, if_pos (by omega)]
          obtain ⟨y, r, e', h2, hb2, hl3⟩ := loop_tot hp n.toNat [] l1 0 hb1 (by omega)
          exact ⟨y, r, e', h2, hb2, Nat.le_trans hl3 hl1⟩
  · obtain ⟨y, h⟩ := hi.err l e he
    rw [listP, h, Option.bind_some, if_pos he]
    exact ⟨_, rfl⟩
end Go.Proofs.YtfdgihdmhdhpcaaDoor.P
end
section
namespace Go.Proofs.YtfdgihdmhdhpcaaDoor.P
open Go.RowKit Go.Proofs.YtfdgihdmhdhpcaaDoorW.PrintWords Go.Proofs.YtfdgihdmhdhpcaaDoorW.PrintLast Go.Proofs.YtfdgihdmhdhpcaaDoorW.PrintMore
attribute [local go_sem] max2_int min2_int max_two min_two max_three min_three max_four min_four
set_option linter.unusedVariables false
set_option linter.unusedSimpArgs false
def ManOk (x : S24) : Prop := I64 x.f0 ∧ I64 x.f1 ∧ I64 x.f2 ∧ DigOk x.f3
def encMan (x : S24) : List Int := encI x.f0 ++ (encI x.f1 ++ (encI x.f2 ++ encD x.f3))
def KeysOk (x : S30) : Prop := I64 x.f0 ∧ I64 x.f1 ∧ I64 x.f2 ∧ DigOk x.f3
def encKeys (x : S30) : List Int := encI x.f0 ++ (encI x.f1 ++ (encI x.f2 ++ encD x.f3))
def SigOk (x : S72) : Prop := I64 x.f0 ∧ I64 x.f1.f0 ∧ DigOk x.f1.f1 ∧ DigOk x.f1.f2
def encSig (x : S72) : List Int := encI x.f0 ++ (encI x.f1.f0 ++ (encD x.f1.f1 ++ encD x.f1.f2))
def SigsOk (L : List S72) : Prop := (∀ x ∈ L, SigOk x) ∧ L.length < LIM
def StrsOk (L : List ByteArray) : Prop := (∀ x ∈ L, StrOk x) ∧ L.length < LIM
def BunOk (x : S28) : Prop := ManOk x.f0 ∧ SigsOk x.f1 ∧ StrsOk x.f2
def encBun (x : S28) : List Int := encMan x.f0 ++ (encL encSig x.f1 ++ encL encS x.f2)
def RotOk (x : S32) : Prop := KeysOk x.f0 ∧ SigsOk x.f1
def encRot (x : S32) : List Int := encKeys x.f0 ++ encL encSig x.f1
theorem man_par (k : Nat) (hk : 12 ≤ k) : Par ManOk encMan (manP k) := by
  have hi := (int_get k hk).par 0
  have h := (hi.seq (hi.seq (hi.seq ((dig_get k hk).par [])))).iso (fun z => (⟨z.1, z.2.1, z.2.2.1, z.2.2.2⟩ : S24)) (fun x => (x.f0, x.f1, x.f2, x.f3)) (fun _ => rfl) (fun _ => rfl)
  have e : (fun l e => manP k l e) = manP k := rfl
  rw [← e]
  simp only [manP]
  simp only [Option.bind_assoc, Option.bind_some] at h
  exact h
theorem keys_par (k : Nat) (hk : 12 ≤ k) : Par KeysOk encKeys (keysP k) := by
  have hi := (int_get k hk).par 0
  have h := (hi.seq (hi.seq (hi.seq ((dig_get k hk).par [])))).iso (fun z => (⟨z.1, z.2.1, z.2.2.1, z.2.2.2⟩ : S30)) (fun x => (x.f0, x.f1, x.f2, x.f3)) (fun _ => rfl) (fun _ => rfl)
  have e : (fun l e => keysP k l e) = keysP k := rfl
  rw [← e]
  simp only [keysP]
  simp only [Option.bind_assoc, Option.bind_some] at h
  exact h
theorem sig_par (k : Nat) (hk : 12 ≤ k) : Par SigOk encSig (sigP k) := by
  have hi := (int_get k hk).par 0
  have hd := (dig_get k hk).par []
  have h := (hi.seq (hi.seq (hd.seq hd))).iso (fun z => (⟨z.1, ⟨z.2.1, z.2.2.1, z.2.2.2⟩⟩ : S72)) (fun x => (x.f0, x.f1.f0, x.f1.f1, x.f1.f2)) (fun _ => rfl) (fun _ => rfl)
  have e : (fun l e => sigP k l e) = sigP k := rfl
  rw [← e]
  simp only [sigP]
  simp only [Option.bind_assoc, Option.bind_some] at h
  exact h
theorem bun_par (k : Nat) (hk : 12 ≤ k) : Par BunOk encBun (bunP k) := by
  have h := ((man_par k hk).seq (((sig_par k hk).list k hk).seq (((str_get k hk).par (⟨#[]⟩ : ByteArray)).list k hk))).iso (fun z => (⟨z.1, z.2.1, z.2.2⟩ : S28)) (fun x => (x.f0, x.f1, x.f2)) (fun _ => rfl) (fun _ => rfl)
  have e : (fun l e => bunP k l e) = bunP k := rfl
  rw [← e]
  simp only [bunP]
  simp only [Option.bind_assoc, Option.bind_some] at h
  exact h
theorem rot_par (k : Nat) (hk : 12 ≤ k) : Par RotOk encRot (rotP k) := by
  have h := ((keys_par k hk).seq ((sig_par k hk).list k hk)).iso (fun z => (⟨z.1, z.2⟩ : S32)) (fun x => (x.f0, x.f1)) (fun _ => rfl) (fun _ => rfl)
  have e : (fun l e => rotP k l e) = rotP k := rfl
  rw [← e]
  simp only [rotP]
  simp only [Option.bind_assoc, Option.bind_some] at h
  exact h
end Go.Proofs.YtfdgihdmhdhpcaaDoor.P
end
