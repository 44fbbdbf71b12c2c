/- The plain law of VmArithmetic. -/
import Derived.Test.YtbgfkepnlpgagaaDoorG2
import Derived.Test.YtbgfkepnlpgagaaDoorL6
namespace Go.Proofs.YtbgfkepnlpgagaaDoor.P
open Go.RowKit Go.Proofs.YtbgfkepnlpgagaaDoorW.PrintWords
set_option linter.unusedVariables false
abbrev rS (a b : Int) (i : Nat) (st n : List Int) (t : Int) : St := { pc := i, vars := [a, b], stack := st, br := 0, pts := [], notes := n, fin := 0, steps := t, done := false }
theorem r_step {f : Nat → Int × Int × Int} {L : Nat} (a b : Int) (i : Nat) (st n : List Int) (t : Int) (op x y : Int) (hf : f i = (op, x, y)) (hop : 1 ≤ op ∧ op < 18) (hi : i < L) (hL : L ≤ 1000) (h0 : 0 ≤ t) (h3 : t < 3000) :
    stepP f L [] 0 (rS a b i st n t) = execP [] 0 (rS a b (i + 1) st n (t + 1)) op x y := by
  have e : wrap64 (t + 1) = t + 1 := by unfold wrap64; omega
  have e1 : wrap64 ((i : Int) + 1) = ((i + 1 : Nat) : Int) := by unfold wrap64; omega
  unfold stepP
  rw [if_pos (show (rS a b i st n t).steps < 3000 from h3), if_pos (show 0 ≤ (rS a b i st n t).pc ∧ (rS a b i st n t).pc < (L : Int) by show 0 ≤ (i : Int) ∧ (i : Int) < (L : Int); omega)]
  have e2 : f (rS a b i st n t).pc.toNat = (op, x, y) := by show f (i : Int).toNat = _; rw [Int.toNat_natCast]; exact hf
  rw [e2, if_pos hop]
  show execP [] 0 { rS a b i st n t with pc := wrap64 ((i : Int) + 1), steps := wrap64 (t + 1) } op x y = _
  rw [e, e1]
theorem go_run {f : Nat → Int × Int × Int} {L : Nat} {gl : List Int} {P : Int} {s s2 : St} (n : Nat) (hd : s.done = false) (h : stepP f L gl P s = .ok s2) : runP f L gl P (n + 1) s = runP f L gl P n s2 := by
  conv => lhs; unfold runP
  rw [if_neg (by rw [hd]; decide), h]
theorem go_end {f : Nat → Int × Int × Int} {L : Nat} {gl : List Int} {P : Int} {s : St} (n : Nat) (hd : s.done = true) : runP f L gl P (n + 1) s = .ok s := by
  unfold runP
  rw [if_pos hd]
theorem ex_load0 (a b : Int) (i : Nat) (n : List Int) (t : Int) : execP [] 0 (rS a b i [] n t) 2 0 0 = .ok (rS a b i [a] n t) := rfl
theorem ex_load1 (a b : Int) (i : Nat) (n : List Int) (t : Int) : execP [] 0 (rS a b i [a] n t) 2 1 0 = .ok (rS a b i [a, b] n t) := rfl
theorem ex_note (a b x : Int) (i : Nat) (n : List Int) (t : Int) : execP [] 0 (rS a b i [x] n t) 14 0 0 = .ok (rS a b i [] (n ++ [x]) t) := rfl
theorem ex_not (a b x : Int) (i : Nat) (n : List Int) (t : Int) : execP [] 0 (rS a b i [x] n t) 11 0 0 = .ok (rS a b i [b2i (x == 0)] n t) := rfl
theorem ex_bin (a b : Int) (i : Nat) (n : List Int) (t : Int) (op : Int) (h : op = 4 ∨ op = 5 ∨ op = 6 ∨ op = 7 ∨ op = 8 ∨ op = 9 ∨ op = 10) : execP [] 0 (rS a b i [a, b] n t) op 0 0 = .ok (rS a b i [binV op a b] n t) := by
  rcases h with rfl | rfl | rfl | rfl | rfl | rfl | rfl <;> rfl
/-- Four instructions: both loads, the operator, the note. -/
theorem r_four {f : Nat → Int × Int × Int} {L : Nat} (a b : Int) (i k : Nat) (n : List Int) (t op : Int) (h : op = 4 ∨ op = 5 ∨ op = 6 ∨ op = 7 ∨ op = 8 ∨ op = 9 ∨ op = 10) (h0 : f i = (2, 0, 0)) (h1 : f (i + 1) = (2, 1, 0)) (h2 : f (i + 1 + 1) = (op, 0, 0)) (h3 : f (i + 1 + 1 + 1) = (14, 0, 0)) (hi : i + 4 ≤ L) (hL : L ≤ 1000) (ht0 : 0 ≤ t) (ht : t < 2000) :
    runP f L [] 0 (k + 1 + 1 + 1 + 1) (rS a b i [] n t) = runP f L [] 0 k (rS a b (i + 4) [] (n ++ [binV op a b]) (t + 4)) := by
  have hop : 1 ≤ op ∧ op < 18 := by omega
  rw [go_run _ rfl ((r_step a b i [] n t 2 0 0 h0 (by decide) (by omega) hL ht0 (by omega)).trans (ex_load0 a b (i + 1) n (t + 1))),
    go_run _ rfl ((r_step a b (i + 1) [a] n (t + 1) 2 1 0 h1 (by decide) (by omega) hL (by omega) (by omega)).trans (ex_load1 a b (i + 1 + 1) n (t + 1 + 1))),
    go_run _ rfl ((r_step a b (i + 1 + 1) [a, b] n (t + 1 + 1) op 0 0 h2 hop (by omega) hL (by omega) (by omega)).trans (ex_bin a b (i + 1 + 1 + 1) n (t + 1 + 1 + 1) op h)),
    go_run _ rfl ((r_step a b (i + 1 + 1 + 1) [binV op a b] n (t + 1 + 1 + 1) 14 0 0 h3 (by decide) (by omega) hL (by omega) (by omega)).trans (ex_note a b _ (i + 1 + 1 + 1 + 1) n (t + 1 + 1 + 1 + 1)))]
  have e : t + 1 + 1 + 1 + 1 = t + 4 := by omega
  rw [e]
theorem r_last {f : Nat → Int × Int × Int} {L : Nat} (a b : Int) (i k : Nat) (n : List Int) (t : Int) (h0 : f i = (2, 0, 0)) (h1 : f (i + 1) = (11, 0, 0)) (h2 : f (i + 1 + 1) = (14, 0, 0)) (h3 : f (i + 1 + 1 + 1) = (16, 0, 0)) (hi : i + 4 ≤ L) (hL : L ≤ 1000) (ht0 : 0 ≤ t) (ht : t < 2000) :
    runP f L [] 0 (k + 1 + 1 + 1 + 1 + 1) (rS a b i [] n t) = .ok { rS a b (i + 4) [] (n ++ [b2i (a == 0)]) (t + 4) with done := true } := by
  have e : t + 1 + 1 + 1 + 1 = t + 4 := by omega
  have hx : execP [] 0 (rS a b (i + 1 + 1 + 1 + 1) [] (n ++ [b2i (a == 0)]) (t + 1 + 1 + 1 + 1)) 16 0 0 = .ok { rS a b (i + 4) [] (n ++ [b2i (a == 0)]) (t + 1 + 1 + 1 + 1) with done := true } := rfl
  rw [go_run _ rfl ((r_step a b i [] n t 2 0 0 h0 (by decide) (by omega) hL ht0 (by omega)).trans (ex_load0 a b (i + 1) n (t + 1))),
    go_run _ rfl ((r_step a b (i + 1) [a] n (t + 1) 11 0 0 h1 (by decide) (by omega) hL (by omega) (by omega)).trans (ex_not a b a (i + 1 + 1) n (t + 1 + 1))),
    go_run _ rfl ((r_step a b (i + 1 + 1) [b2i (a == 0)] n (t + 1 + 1) 14 0 0 h2 (by decide) (by omega) hL (by omega) (by omega)).trans (ex_note a b _ (i + 1 + 1 + 1) n (t + 1 + 1 + 1))),
    go_run _ rfl ((r_step a b (i + 1 + 1 + 1) [] (n ++ [b2i (a == 0)]) (t + 1 + 1 + 1) 16 0 0 h3 (by decide) (by omega) hL (by omega) (by omega)).trans hx), go_end _ rfl, e]
abbrev opsL : List Int := [4, 5, 6, 7, 8, 9, 10]
abbrev arIns : List S42 := [⟨2, 0, 0⟩, ⟨2, 1, 0⟩, ⟨4, 0, 0⟩, ⟨14, 0, 0⟩, ⟨2, 0, 0⟩, ⟨2, 1, 0⟩, ⟨5, 0, 0⟩, ⟨14, 0, 0⟩, ⟨2, 0, 0⟩, ⟨2, 1, 0⟩, ⟨6, 0, 0⟩, ⟨14, 0, 0⟩, ⟨2, 0, 0⟩, ⟨2, 1, 0⟩, ⟨7, 0, 0⟩, ⟨14, 0, 0⟩, ⟨2, 0, 0⟩, ⟨2, 1, 0⟩, ⟨8, 0, 0⟩, ⟨14, 0, 0⟩, ⟨2, 0, 0⟩, ⟨2, 1, 0⟩, ⟨9, 0, 0⟩, ⟨14, 0, 0⟩, ⟨2, 0, 0⟩, ⟨2, 1, 0⟩, ⟨10, 0, 0⟩, ⟨14, 0, 0⟩, ⟨2, 0, 0⟩, ⟨11, 0, 0⟩, ⟨14, 0, 0⟩, ⟨16, 0, 0⟩]
theorem ar_run (a b : Int) (k : Nat) : runP (insF arIns) 32 [] 0 (k + 33) (rS a b 0 [] [] 0) = .ok { rS a b 32 [] [binV 4 a b, binV 5 a b, binV 6 a b, binV 7 a b, binV 8 a b, binV 9 a b, binV 10 a b, b2i (a == 0)] 32 with done := true } := by
  have hk : k + 33 = k + 1 + 1 + 1 + 1 + 1 + 1 + 1 + 1 + 1 + 1 + 1 + 1 + 1 + 1 + 1 + 1 + 1 + 1 + 1 + 1 + 1 + 1 + 1 + 1 + 1 + 1 + 1 + 1 + 1 + 1 + 1 + 1 + 1 := rfl
  rw [hk]
  rw [r_four a b 0 _ [] 0 4 (by decide) rfl rfl rfl rfl (by decide) (by decide) (by decide) (by decide)]
  rw [r_four a b 4 _ _ _ 5 (by decide) rfl rfl rfl rfl (by decide) (by decide) (by decide) (by decide)]
  rw [r_four a b 8 _ _ _ 6 (by decide) rfl rfl rfl rfl (by decide) (by decide) (by decide) (by decide)]
  rw [r_four a b 12 _ _ _ 7 (by decide) rfl rfl rfl rfl (by decide) (by decide) (by decide) (by decide)]
  rw [r_four a b 16 _ _ _ 8 (by decide) rfl rfl rfl rfl (by decide) (by decide) (by decide) (by decide)]
  rw [r_four a b 20 _ _ _ 9 (by decide) rfl rfl rfl rfl (by decide) (by decide) (by decide) (by decide)]
  rw [r_four a b 24 _ _ _ 10 (by decide) rfl rfl rfl rfl (by decide) (by decide) (by decide) (by decide)]
  rw [r_last a b 28 k _ _ rfl rfl rfl rfl (by decide) (by decide) (by decide) (by decide)]
  rfl
theorem ar_vm (a b : Int) (ha : 0 ≤ a ∧ a ≤ 65535) (hb : 0 ≤ b ∧ b ≤ 65535) : vm_Run.f arIns 2 0 [a, b] [] = some ([], [binV 4 a b, binV 5 a b, binV 6 a b, binV 7 a b, binV 8 a b, binV 9 a b, binV 10 a b, b2i (a == 0)], 0, 32, 0) := by
  have hvd : validP 2 0 [a, b] = true := by
    unfold validP
    have h : oddP a = false := by unfold oddP; simp; omega
    have h' : oddP b = false := by unfold oddP; simp; omega
    simp [h, h']
  have hi : initS 2 0 [a, b] = rS a b 0 [] [] 0 := rfl
  have h1 : runP (insF arIns) arIns.length [] 0 3002 (rS a b 0 [] [] 0) = _ := ar_run a b 2969
  unfold vm_Run.f
  have hc : ([a, b] : List Int).length ≤ 4611686018427387904 ∧ ([] : List Int).length ≤ 4611686018427387904 := ⟨show 2 ≤ 4611686018427387904 by decide, show 0 ≤ 4611686018427387904 by decide⟩
  rw [if_pos hc, if_pos hvd, hi, h1]
  rfl
theorem ar_step (a b : Int) (k i : Nat) (ins : List S42) (hi : i < 7) (hl : ins.length ≤ 100) : bootchainlaw17_VmArithmetic.l0 (k + 1) a b true opsL (i : Int) ins 2 0 = bootchainlaw17_VmArithmetic.l0 k a b true opsL ((i + 1 : Nat) : Int) (ins ++ [⟨2, 0, 0⟩, ⟨2, 1, 0⟩, ⟨rd opsL (i : Int), 0, 0⟩, ⟨14, 0, 0⟩]) 2 0 := by
  have e : wrap64 ((i : Int) + 1) = ((i + 1 : Nat) : Int) := by unfold wrap64; omega
  conv => lhs; simp only [bootchainlaw17_VmArithmetic.l0]
  rw [if_pos (show (i : Int) < (opsL.length : Int) by show (i : Int) < 7; omega), if_pos (by omega)]
  simp only [Option.bind_some]
  rw [if_pos (by simp; omega), e]
theorem u16w (x : Int) : IntKind.u16.wrap x = x % 65536 := by
  unfold IntKind.wrap
  simp [IntKind.signed, IntKind.bits]
theorem ar_want (a b : Int) (ha : 0 ≤ a ∧ a ≤ 65535) (hb : 0 ≤ b ∧ b ≤ 65535) : wrap64 (IntKind.u16.wrap (a + b)) = binV 4 a b ∧ wrap64 (IntKind.u16.wrap (a - b)) = binV 5 a b ∧ wrap64 (IntKind.u16.wrap (a * b)) = binV 6 a b := by
  have hm0 : 0 ≤ a * b := Int.mul_nonneg ha.1 hb.1
  have hm1 : a * b ≤ 65535 * 65535 := Int.mul_le_mul ha.2 hb.2 hb.1 (by decide)
  rw [u16w, u16w, u16w]
  refine ⟨?_, ?_, ?_⟩
  · show _ = wrap64 (a + b) % 65536
    unfold wrap64; omega
  · show _ = wrap64 (a - b) % 65536
    unfold wrap64; omega
  · show _ = wrap64 (a * b) % 65536
    generalize a * b = c at hm0 hm1 ⊢
    unfold wrap64; omega
theorem truth_f (b : Bool) : bootchainlaw17_truth.f b = some (b2i b) := by cases b <;> rfl
theorem ar_end (a b : Int) (ha : 0 ≤ a ∧ a ≤ 65535) (hb : 0 ≤ b ∧ b ≤ 65535) (k : Nat) (hk : 8 < k) (g : List S42) (hgl : g.length = 28) (hg' : g ++ [(⟨2, 0, 0⟩ : S42), ⟨11, 0, 0⟩, ⟨14, 0, 0⟩, ⟨16, 0, 0⟩] = arIns) : bootchainlaw17_VmArithmetic.l0 (k + 1) a b true opsL ((7 : Nat) : Int) g 2 0 = some true := by
  obtain ⟨w4, w5, w6⟩ := ar_want a b ha hb
  have ea : wrap64 a = a := by unfold wrap64; omega
  have eb : wrap64 b = b := by unfold wrap64; omega
  conv => lhs; simp only [bootchainlaw17_VmArithmetic.l0]
  rw [if_neg (by decide)]
  simp only [Option.bind_some]
  rw [if_pos (by rw [hgl]; decide), hg', ea, eb, ar_vm a b ha hb]
  simp only [Option.bind_some, truth_f, w4, w5, w6]
  have hb7 : binV 7 a b = b2i (decide (a < b)) := rfl
  have hb8 : binV 8 a b = b2i (a == b) := rfl
  have hb9 : binV 9 a b = b2i (a != 0 && b != 0) := rfl
  have hb10 : binV 10 a b = b2i (a != 0 || b != 0) := rfl
  have hr := ints_rfl [binV 4 a b, binV 5 a b, binV 6 a b, binV 7 a b, binV 8 a b, binV 9 a b, binV 10 a b, b2i (a == 0)] (by show 8 ≤ 9223372036854775807; decide) k hk
  by_cases h : a = 0
  · have h9 : binV 9 a b = b2i false := by rw [hb9, h]; rfl
    have h10 : binV 10 a b = b2i (b != 0) := by rw [hb10, h]; rfl
    rw [if_pos h, ← hb7, ← hb8, ← h9, ← h10]
    simp only [if_true]
    rw [hr]
    rfl
  · have hn : (a != 0) = true := by simpa using h
    have h9 : binV 9 a b = b2i (b != 0) := by rw [hb9, hn]; rfl
    have h10 : binV 10 a b = b2i true := by rw [hb10, hn]; rfl
    rw [if_neg h, ← hb7, ← hb8, ← h9, ← h10]
    simp only [if_true]
    rw [hr]
    rfl
theorem ar_all (a b : Int) (ha : 0 ≤ a ∧ a ≤ 65535) (hb : 0 ≤ b ∧ b ≤ 65535) (k : Nat) (hk : 8 < k) : bootchainlaw17_VmArithmetic.l0 (k + 1 + 1 + 1 + 1 + 1 + 1 + 1 + 1) a b true opsL ((0 : Nat) : Int) [] 2 0 = some true := by
  rw [ar_step a b (k + 1 + 1 + 1 + 1 + 1 + 1 + 1) 0 _ (by decide) (by decide), ar_step a b (k + 1 + 1 + 1 + 1 + 1 + 1) 1 _ (by decide) (by decide), ar_step a b (k + 1 + 1 + 1 + 1 + 1) 2 _ (by decide) (by decide), ar_step a b (k + 1 + 1 + 1 + 1) 3 _ (by decide) (by decide), ar_step a b (k + 1 + 1 + 1) 4 _ (by decide) (by decide), ar_step a b (k + 1 + 1) 5 _ (by decide) (by decide), ar_step a b (k + 1) 6 _ (by decide) (by decide)]
  generalize hg : ([] ++ [(⟨2, 0, 0⟩ : S42), ⟨2, 1, 0⟩, ⟨rd opsL ((0 : Nat) : Int), 0, 0⟩, ⟨14, 0, 0⟩] ++ [(⟨2, 0, 0⟩ : S42), ⟨2, 1, 0⟩, ⟨rd opsL ((1 : Nat) : Int), 0, 0⟩, ⟨14, 0, 0⟩] ++ [(⟨2, 0, 0⟩ : S42), ⟨2, 1, 0⟩, ⟨rd opsL ((2 : Nat) : Int), 0, 0⟩, ⟨14, 0, 0⟩] ++ [(⟨2, 0, 0⟩ : S42), ⟨2, 1, 0⟩, ⟨rd opsL ((3 : Nat) : Int), 0, 0⟩, ⟨14, 0, 0⟩] ++ [(⟨2, 0, 0⟩ : S42), ⟨2, 1, 0⟩, ⟨rd opsL ((4 : Nat) : Int), 0, 0⟩, ⟨14, 0, 0⟩] ++ [(⟨2, 0, 0⟩ : S42), ⟨2, 1, 0⟩, ⟨rd opsL ((5 : Nat) : Int), 0, 0⟩, ⟨14, 0, 0⟩] ++ [(⟨2, 0, 0⟩ : S42), ⟨2, 1, 0⟩, ⟨rd opsL ((6 : Nat) : Int), 0, 0⟩, ⟨14, 0, 0⟩] : List S42) = g
  have hg' : g ++ [(⟨2, 0, 0⟩ : S42), ⟨11, 0, 0⟩, ⟨14, 0, 0⟩, ⟨16, 0, 0⟩] = arIns := by rw [← hg]; rfl
  have hgl : g.length = 28 := by rw [← hg]; rfl
  exact ar_end a b ha hb k hk g hgl hg'
theorem ar_f (a b : Int) (ha : 0 ≤ a ∧ a ≤ 65535) (hb : 0 ≤ b ∧ b ≤ 65535) (k : Nat) (hk : 8 < k) : bootchainlaw17_VmArithmetic.f (k + 1 + 1 + 1 + 1 + 1 + 1 + 1 + 1) a b = some true := by
  unfold bootchainlaw17_VmArithmetic.f bootchainlaw17_sanity.f
  rw [Option.bind_some]
  exact ar_all a b ha hb k hk
theorem ar_pure (a b : Int) (ha : 0 ≤ a ∧ a ≤ 65535) (hb : 0 ≤ b ∧ b ≤ 65535) : ∃ k, bootchainlaw17_VmArithmetic.f k a b = some true := ⟨_, ar_f a b ha hb 9 (by decide)⟩
end Go.Proofs.YtbgfkepnlpgagaaDoor.P
