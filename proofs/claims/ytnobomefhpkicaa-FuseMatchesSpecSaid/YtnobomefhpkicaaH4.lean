import Derived.Test.YtnobomefhpkicaaH3
namespace Go.Proofs.Ytnobomefhpkicaa.P
open Go.RowKit Go.Shelf Go.Proofs.YtnobomefhpkicaaW.PrintWords Go.Proofs.YtnobomefhpkicaaW.PrintLast Go.Proofs.YtnobomefhpkicaaW.PrintMore
set_option linter.unusedVariables false
set_option linter.unusedSimpArgs false
attribute [local go_sem] Oper.semAt_some
attribute [local go_sem] max2_int min2_int max_two min_two

set_option maxRecDepth 100000 in
set_option maxHeartbeats 2000000 in
theorem chunk1_nil (n : Nat) (l Bs : Nat) (A : Option Addr) (cap : Nat) (J : List (Fin (0 / 3)) → World → Prop) (W : World) (hB1 : W.cell? ⟨Bs, 0, none⟩ = some (.slice A 0 cap)) (h0 : J [] W) :
    CallsIn Fence.wide n Try.prog 44 #[.func (.yield l) #[] #[], .pointer (some ⟨Bs, 0, none⟩), .pointer (some ⟨Bs + 1, 0, none⟩)] W fun e W' => (∃ v, e = .returned v) ∧ J [] W' := by
  refine callsIn_of_wp Try.func44 rfl trivial ?_ rfl
  simp only [Try.ntmps44, List.size_toArray, List.length_cons, List.length_nil, Nat.reduceAdd, Nat.reduceSub, Array.replicate_succ, Array.replicate_zero, List.push_toArray, List.append_toArray, List.nil_append, List.cons_append]
  gi_wp2_with fail
  gi_loopw [4] (fun i wr => i = .int .i64 0 ∧ wr = W) (fun i _ => 0)
  case atStart => exact ⟨rfl, rfl⟩
  case round =>
    obtain ⟨rfl, rfl⟩ := hrel
    gi_wp2
    go_end0
    exact ⟨⟨_, rfl⟩, h0⟩
theorem drewN_grown (W : World) (n : Nat) : W.grownBy (W.drewN n) none := ⟨rfl, rfl, rfl, Nat.le_refl _, fun _ _ _ => rfl⟩
theorem chunk_stops (n : Nat) (hn : 1 ≤ n) (Bs n₀ : Nat) (A : Option Addr) (len cap : Nat) (hcap : len ≤ cap) (hm3 : len % 3 = 0) (hreach : len ≤ 4611686018427387904) (w : World) (hBs : Bs + 1 < n₀) (hn₀ : n₀ ≤ w.heap.size)
    (hA : 0 < len → A.isSome) (hc1 : w.cell? ⟨Bs, 0, none⟩ = some (.slice A len cap)) (hc2 : w.cell? ⟨Bs + 1, 0, none⟩ = some (.int .i64 3)) :
    SeqStopsK Fence.wide n Try.prog 44 #[.pointer (some ⟨Bs, 0, none⟩), .pointer (some ⟨Bs + 1, 0, none⟩)] (fun x : Fin (len / 3) => #[.slice (some ((A.getD default).add (3 * x.1))) 3 3]) (Below n₀) (fun ys => ys = List.finRange (len / 3))
      (fun pre => ∃ k, k ≤ len / 3 ∧ pre = (List.finRange (len / 3)).take k) (len / 3) w := fun l J Jx W hW hJ _ hY h0 => by
  have hc1' := (hW.cell (p := ⟨Bs, 0, none⟩) (by simp; omega)).trans hc1
  have hc2' := (hW.cell (p := ⟨Bs + 1, 0, none⟩) (by simp; omega)).trans hc2
  by_cases hl : 0 < len
  · obtain ⟨ad, rfl⟩ := Option.isSome_iff_exists.1 (hA hl)
    exact chunk1_in n hn l Bs n₀ ad len cap hcap hm3 hreach hBs J Jx (fun s W1 m hs => hJ s W1 _ none hs (drewN_grown W1 m) (fun r e => by cases e)) hY W hc1' hc2' h0
  · obtain rfl : len = 0 := by omega
    exact (chunk1_nil n l Bs A cap J W hc1' h0).mono fun e W' ⟨he, hj⟩ => ⟨he, .inl ⟨[], rfl, hj⟩⟩

/-- Marks on the way out: each block of an earlier loop's is shut in one step. -/
theorem leaves_marks (fn : Func) (tmps : Array Value) (R : Ending → World → Prop) (v : Value) (n : Nat) : ∀ (Ds : List Nat) (w0 W : World), Ds.Nodup → (∀ D ∈ Ds, W.heap[D]? = some (.deferred (some []))) →
    (∀ D ∈ Ds, w0.heap.size ≤ D) → Below w0.heap.size w0 W →
    (∀ W', Below w0.heap.size w0 W' → (∀ p v, W.cell? p = some v → W'.cell? p = some v) → (results fn tmps).run Try.prog W' = .ok v W' ∧ R (.returned v) W') →
    LeavesInM Fence.wide n Try.prog fn tmps R (Ds.map fun D => { target := .collected D, args := #[] }) .returning W
  | [], w0, W, _, _, _, hB, hR => by
    obtain ⟨h1, h2⟩ := hR W hB (fun p v h => h)
    exact ⟨v, h1, h2⟩
  | D :: Ds, w0, W, hnd, hD, hge, hB, hR => by
    obtain ⟨hn1, hn2⟩ := List.nodup_cons.1 hnd
    have hDD := hD D List.mem_cons_self
    refine ⟨by simp, .inl ⟨D, _, rfl, run_takeDeferred hDD, ?_⟩⟩
    refine leaves_marks fn tmps R v n Ds w0 _ hn2 (fun E hE => ?_) (fun E hE => hge E (List.mem_cons_of_mem _ hE)) ?_ ?_
    · rw [World.putObj_heap_other (by rintro rfl; exact hn1 hE)]
      exact hD E (List.mem_cons_of_mem _ hE)
    · exact hB.trans (belowK_b (w := w0) (Nat.le_refl _) W D _ _ (hge D List.mem_cons_self) hDD rfl rfl)
    · intro W' hB' hk
      exact hR W' hB' (fun p v h => hk p v (cell_kept h (grownBy_putObj' _ D (.deferred none)) (fun r e => by cases e; exact ⟨_, hDD, rfl⟩)))

def stk (c : Int) : Int := if c = 3 then 1 else 0
theorem stk_bd (c : Int) : 0 ≤ stk c ∧ stk c ≤ 1 := by unfold stk; split <;> omega
/-- No logical bit of these cells has two stuck cells. -/
def sndB : List Int → Bool
  | a :: b :: c :: t => decide (stk a + stk b + stk c ≤ 1) && sndB t
  | _ => true
theorem snd_step (cells : List Int) (k : Nat) (h : 3 * k + 2 < cells.length) :
    sndB (cells.drop (3 * k)) = (decide (smK stk cells k 3 ≤ 1) && sndB (cells.drop (3 * (k + 1)))) := by
  unfold smK
  rw [show 3 * (k + 1) = 3 * k + 3 by omega, ← List.drop_drop]
  generalize hm : cells.drop (3 * k) = m
  have hl : 3 ≤ m.length := by rw [← hm, List.length_drop]; omega
  match m, hl with
  | a :: b :: c :: t, _ => simp [sndB, Int.add_assoc]
theorem snd_short (l : List Int) (h : l.length < 3) : sndB l = true := by
  match l, h with
  | [], _ => rfl
  | [_], _ => rfl
  | [_, _], _ => rfl
theorem ownFrom_marks {β : Type} (Ds : List Nat) (W0 : World) (hlt : ∀ D ∈ Ds, D < W0.heap.size) : OwnFrom W0.heap.size (fun (_ : β) W => ∀ D ∈ Ds, W.heap[D]? = some (.deferred (some []))) := by
  intro s A B row hs hg hr D hD
  have h1 := hs D hD
  rw [hg.block D (Array.getElem?_eq_some_iff.1 h1).1 (fun e => by have := (hr D e.symm).1; have := hlt D hD; omega)]
  exact h1
theorem sndB_drop (cells : List Int) : ∀ k, 3 * k ≤ cells.length → sndB cells = ((List.range k).all (fun x => decide (smK stk cells x 3 ≤ 1)) && sndB (cells.drop (3 * k)))
  | 0, _ => by simp
  | k + 1, h => by
    rw [sndB_drop cells k (by omega), snd_step cells k (by omega), List.range_succ, List.all_append, List.all_cons, List.all_nil, Bool.and_true, Bool.and_assoc]
theorem sndB_bad (cells : List Int) (x : Nat) (hx : 3 * x + 2 < cells.length) (hb : ¬ smK stk cells x 3 ≤ 1) : sndB cells = false := by
  rw [sndB_drop cells (x + 1) (by omega)]
  have : (List.range (x + 1)).all (fun x => decide (smK stk cells x 3 ≤ 1)) = false := by
    rw [List.all_eq_false]
    exact ⟨x, by simp, by simpa using hb⟩
  rw [this]; rfl
theorem sndB_good (cells : List Int) (h : ∀ x : Fin (cells.length / 3), smK stk cells x.1 3 ≤ 1) : sndB cells = true := by
  rw [sndB_drop cells (cells.length / 3) (by omega), snd_short _ (by rw [List.length_drop]; omega), Bool.and_true, List.all_eq_true]
  intro x hx
  exact decide_eq_true (h ⟨x, by simpa using hx⟩)
def marks (Ds : List Nat) : List Deferred := Ds.map fun D => { target := .collected D, args := #[] }
def fuse_Sound.f (l0_0 : List (List Int)) : Option Bool :=
  if l0_0.length ≤ 4611686018427387904 ∧ (∀ l ∈ l0_0, l.length ≤ 4611686018427387904 ∧ l.length % 3 = 0) then some (l0_0.all sndB) else none
/-- What holds at the head of the loop over the banks. -/
def SoundI (w : World) (A : Option Addr) (c : Nat) (l0 : List (List Int)) (k : Nat) (Ds : List Nat) (W : World) : Prop :=
  Ds.Nodup ∧ (∀ D ∈ Ds, W.heap[D]? = some (.deferred (some []))) ∧ (∀ D ∈ Ds, w.heap.size + 2 ≤ D) ∧ Below w.heap.size w W ∧ w.heap.size + 2 ≤ W.heap.size ∧
    W.cell? ⟨w.heap.size, 0, none⟩ = some (.slice A l0.length c) ∧ W.cell? ⟨w.heap.size + 1, 0, none⟩ = some (.bool false) ∧ W.frozen? ⟨w.heap.size + 1, 0, none⟩ = false ∧ l0.all sndB = (l0.drop k).all sndB
set_option maxRecDepth 100000 in
set_option maxHeartbeats 4000000 in
theorem sound_in (n : Nat) (hn : 3 ≤ n) (A0_0 : Option Addr) (c0_0 : Nat) (l0_0 : List (List Int)) (w : World) (hr0_0 : Kd.C (Kd.slice 5 (Kd.int .u8)) w A0_0 l0_0.length l0_0)
    (hl0 : l0_0.length ≤ 4611686018427387904) (hls : ∀ l ∈ l0_0, l.length ≤ 4611686018427387904 ∧ l.length % 3 = 0) :
    CallsIn Fence.wide n Try.prog 24 #[.agg #[.slice A0_0 l0_0.length c0_0]] w fun e w' => e = .returned (.bool (l0_0.all sndB)) ∧ Below w.heap.size w w' := by
  have h1 : 1 ≤ n := by omega
  have HR := Lib.hid hr0_0
  have HL := Lib.hid hls
  clear hr0_0 hls
  refine callsIn_of_wp_marks Try.func24 rfl trivial ?_ rfl
  simp only [Try.ntmps24, List.size_toArray, List.length_cons, List.length_nil, Nat.reduceAdd, Nat.reduceSub, Array.replicate_succ, Array.replicate_zero, List.push_toArray, List.append_toArray, List.nil_append, List.cons_append]
  gi_wp2_with fail
  refine wpIn_loop (fun a W => ∃ (k : Nat) (Ds : List Nat) (u4 u5 u6 u8 u13 u14 u15 u16 u17 u18 u19 u20 u21 u22 u23 u24 u25 u26 u27 u28 u29 u30 u31 u32 : Value), k ≤ l0_0.length ∧ SoundI w A0_0 c0_0 l0_0 k Ds W ∧
      a = { tmps := #[.agg #[.slice A0_0 l0_0.length c0_0], .pointer (some ⟨w.heap.size, 0, none⟩), .pointer (some ⟨w.heap.size + 1, 0, none⟩), undef, u4, u5, u6, undef, u8, .pointer (some ⟨w.heap.size, 0, none⟩), .slice A0_0 l0_0.length c0_0, .int .i64 l0_0.length, .int .i64 k, u13, u14, u15, u16, u17, u18, u19, u20, u21, u22, u23, u24, u25, u26, u27, u28, u29, u30, u31, u32], defers := marks Ds })
    (fun a _ => l0_0.length - (intOf (a.tmps.getD 12 undef)).toNat) ?start ?round
  case start =>
    refine ⟨0, [], undef, undef, undef, undef, undef, undef, undef, undef, undef, undef, undef, undef, undef, undef, undef, undef, undef, undef, undef, undef, undef, undef, undef, undef, Nat.zero_le _, ?_, rfl⟩
    refine ⟨List.nodup_nil, fun D h => absurd h List.not_mem_nil, fun D h => absurd h List.not_mem_nil, ((Below.refl _ _).alloc (Nat.le_refl _) _).alloc (by simp) _, by simp, ?_, ?_, ?_, by simp⟩
    all_goals go_simp
  case round =>
    rintro a W ⟨k, Ds, u4, u5, u6, u8, u13, u14, u15, u16, u17, u18, u19, u20, u21, u22, u23, u24, u25, u26, u27, u28, u29, u30, u31, u32, hk, ⟨hnd, hDs, hge, hB, hsz, hb1, hb2, hf2, hall⟩, rfl⟩
    by_cases hlt : k < l0_0.length
    · obtain ⟨ad, A1, c1, rfl, hx, hl1, hi⟩ := at_L1 HR.out k (by omega) (by omega)
      rw [Int.toNat_natCast] at hx
      have hxb := World.block_lt_of_cell? w _ hx
      have hxW : W.cell? (ad.add k) = some (.slice A1 (rd_L1 l0_0 k).length c1) := (hB.cell hxb).trans hx
      obtain ⟨hlk, hlk3⟩ := HL.out (rd_L1 l0_0 k) (by rw [rd_L1_mem _ _ hlt]; exact List.getElem_mem _)
      have HI := Lib.hid hi
      have HA := Lib.hid hall
      have HDs := Lib.hid hDs
      have HGe := Lib.hid hge
      have HB := Lib.hid hB
      have hst := Lib.hid (all_drop sndB l0_0 k hlt)
      clear hi hall hDs hge hB hx hxb
      gi_wp2_with fail
      refine ⟨trivial, (chunk_in (n - 1) A1 (rd_L1 l0_0 k).length c1 W).mono ?_⟩
      rintro e w' ⟨rfl, rfl⟩
      obtain ⟨W0, hW0⟩ : ∃ W0, (W.alloc (.cells #[.slice A1 (rd_L1 l0_0 k).length c1] 26)).alloc (.cells #[.int .i64 3] 3) = W0 := ⟨_, rfl⟩
      have hWW : Below W.heap.size W W0 := hW0 ▸ ((Below.refl _ _).alloc (Nat.le_refl _) _).alloc (by simp) _
      have hWs : W0.heap.size = W.heap.size + 2 := by rw [← hW0]; simp
      have hz1 : W0.cell? ⟨W.heap.size, 0, none⟩ = some (.slice A1 (rd_L1 l0_0 k).length c1) := by rw [← hW0]; exact ((Boxed.new W 26 (.slice A1 (rd_L1 l0_0 k).length c1)).alloc _).cell
      have hz2 : W0.cell? ⟨W.heap.size + 1, 0, none⟩ = some (.int .i64 3) := by
        have bN := Boxed.new (W.alloc (.cells #[.slice A1 (rd_L1 l0_0 k).length c1] 26)) 3 (.int .i64 3)
        rw [World.size_alloc] at bN
        rw [← hW0]; exact bN.cell
      rw [hW0]
      clear hW0
      have hB0 : Below w.heap.size w W0 := HB.out.trans (hWW.mono (by omega))
      have hy1 : W0.cell? ⟨w.heap.size, 0, none⟩ = some (.slice (some ad) l0_0.length c0_0) := (hWW.cell (p := ⟨w.heap.size, 0, none⟩) (by simp; omega)).trans hb1
      have hy2 : W0.cell? ⟨w.heap.size + 1, 0, none⟩ = some (.bool false) := (hWW.cell (p := ⟨w.heap.size + 1, 0, none⟩) (by simp; omega)).trans hb2
      have hy3 : W0.frozen? ⟨w.heap.size + 1, 0, none⟩ = false := (hWW.frozen (p := ⟨w.heap.size + 1, 0, none⟩) (by simp; omega)).trans hf2
      have hD0 : ∀ D ∈ Ds, W0.heap[D]? = some (.deferred (some [])) := fun D hD => by
        have h2 := HDs.out D hD
        rw [hWW.block D (Array.getElem?_eq_some_iff.1 h2).1]; exact h2
      have HD0 := Lib.hid hD0
      have HB0 := Lib.hid hB0
      have HWW := Lib.hid hWW
      have hWs1 : W.heap.size + 2 ≤ W0.heap.size := by omega
      have hD2 : ∀ D ∈ Ds, D < W0.heap.size := fun D hD => (Array.getElem?_eq_some_iff.1 (HD0.out D hD)).1
      have HD2 := Lib.hid hD2
      clear hD0 hB0 hWW hWs hD2
      gi_wp2_with fail
      refine wpIn_rangeFunc_ownF rfl h1 (gf := 44) (lb := #[.pointer (some ⟨W.heap.size, 0, none⟩), .pointer (some ⟨W.heap.size + 1, 0, none⟩)]) rfl trivial (enters_of Try.func44 (by kernel_rfl) rfl)
        (chunk_stops (n - 1) (by omega) W.heap.size W0.heap.size A1 (rd_L1 l0_0 k).length c1 hl1 hlk3 hlk W0 (by omega) (Nat.le_refl _) ?hA hz1 hz2) belowK_t (belowK_b (Nat.le_refl _)) (Below.refl _ _) (fun _ => rfl)
        (fun pre W1 => (∀ x ∈ pre, smK stk (rd_L1 l0_0 k) x.1 3 ≤ 1) ∧ Below W0.heap.size W0 W1)
        (fun c pre W1 => ((c = .ret ∧ sndB (rd_L1 l0_0 k) = false) ∧ W1.cell? ⟨w.heap.size + 1, 0, none⟩ = some (.bool false)) ∧ Below w.heap.size w W1 ∧ (∀ D ∈ Ds, W1.heap[D]? = some (.deferred (some []))))
        (OwnFrom.and (ownFrom_pure _ _) (ownFrom_below (Nat.le_refl _) (Nat.le_refl _)))
        (fun c => OwnFrom.and (Own.from (fun s A B row hs hg hr => ⟨hs.1, cell_kept hs.2 hg hr⟩) _) (OwnFrom.and (ownFrom_below (Nat.le_refl _) (by omega)) (ownFrom_marks Ds W0 HD2.out)))
        ⟨fun x hx => absurd hx List.not_mem_nil, Below.refl _ _⟩
        (fun x => { tmps := #[.agg #[.slice (some ad) l0_0.length c0_0], .pointer (some ⟨w.heap.size, 0, none⟩), .pointer (some ⟨w.heap.size + 1, 0, none⟩), undef, .slice A1 (rd_L1 l0_0 k).length c1, .slice (some ((A1.getD default).add (3 * x.1))) 3 3, u6, undef, u8, .pointer (some ⟨w.heap.size, 0, none⟩), .slice (some ad) l0_0.length c0_0, .int .i64 l0_0.length, .int .i64 k, .bool true, .pointer (some (ad.add k)), .slice A1 (rd_L1 l0_0 k).length c1, .slice A1 (rd_L1 l0_0 k).length c1, .func (.func 44) #[] #[.pointer (some ⟨W.heap.size, 0, none⟩), .pointer (some ⟨W.heap.size + 1, 0, none⟩)], .slice (some ((A1.getD default).add (3 * x.1))) 3 3, u19, u20, u21, u22, u23, u24, u25, u26, u27, u28, u29, u30, u31, u32], defers := [] }) ?assign ?body ?done ?stop
      case hA =>
        intro hpos
        obtain ⟨ad1, h1, _⟩ := Kd.at_int HI.out 0 (by omega) (by omega)
        rw [h1]; rfl
      case assign =>
        intro l x W1 K hK
        gi_wp2
        exact hK
      case body =>
        rintro l pre ⟨x, hx⟩ W1 ⟨hpre, hBW⟩ hlen
        have hcell : ∀ j, j < 3 → W1.cell? (((A1.getD default).add (3 * x)).add j) = some (.int .u8 (rd (rd_L1 l0_0 k) (3 * (x : Int) + j))) := by
          intro j hj
          obtain ⟨ad1, h1, h2⟩ := Kd.at_int HI.out ((3 * x + j : Nat) : Int) (by omega) (by omega)
          rw [h1]
          simp only [Option.getD_some]
          rw [Addr.add_add, show (3 * (x : Int) + j) = ((3 * x + j : Nat) : Int) by omega, ← h2]
          exact (HB0.out.trans (hBW.mono (by omega))).cell (World.block_lt_of_cell? w _ h2)
        have HC := Lib.hid hcell
        have HP := Lib.hid hpre
        have HBW := Lib.hid hBW
        clear hcell hpre hBW
        gi_wp2_with fail
        gi_loop [6, 21] (fun t i => ∃ j : Nat, j ≤ 3 ∧ i = .int .i64 j ∧ t = .int .i64 (smK stk (rd_L1 l0_0 k) x j)) (fun _ i => 3 - (intOf i).toNat)
        case atStart => exact ⟨0, Nat.zero_le _, rfl, by simp [smK]⟩
        case round =>
          obtain ⟨j, hj, rfl, rfl⟩ := hrel
          obtain ⟨hs1, hs2⟩ : 0 ≤ smK stk (rd_L1 l0_0 k) x j ∧ smK stk (rd_L1 l0_0 k) x j ≤ 3 := smK_bd stk stk_bd _ x j hj
          by_cases hjl : j < 3
          · have hcj := HC.out j hjl
            have HS := Lib.hid (smK_succ stk (rd_L1 l0_0 k) x j (by omega))
            by_cases h3 : rd (rd_L1 l0_0 k) (3 * (x : Int) + j) = 3
            · have h3b : (rd (rd_L1 l0_0 k) (3 * (x : Int) + j) == 3) = true := by simp [h3]
              have hst1 : stk (rd (rd_L1 l0_0 k) (3 * (x : Int) + j)) = 1 := by simp [stk, h3]
              have HST := Lib.hid hst1
              clear h3 hst1
              gi_wp2_with fail
              exact ⟨⟨j + 1, by omega, by go_num, by rw [HS.out, HST.out]⟩, by simp [intOf]; omega⟩
            · have h3b : (rd (rd_L1 l0_0 k) (3 * (x : Int) + j) == 3) = false := by simp [h3]
              have hst1 : stk (rd (rd_L1 l0_0 k) (3 * (x : Int) + j)) = 0 := by simp [stk, h3]
              have HST := Lib.hid hst1
              clear h3 hst1
              gi_wp2_with fail
              exact ⟨⟨j + 1, by omega, by go_num, by rw [HS.out, HST.out, Int.add_zero]⟩, by simp [intOf]; omega⟩
          · have hj3 : j = 3 := by omega
            have HJ := Lib.hid hj3
            clear hj3
            by_cases ht : 1 < smK stk (rd_L1 l0_0 k) x j
            · have hres : sndB (rd_L1 l0_0 k) = false := sndB_bad _ x (by omega) (by rw [← HJ.out]; omega)
              have HRES := Lib.hid hres
              have hw2 := (HBW.out.cell (p := ⟨w.heap.size + 1, 0, none⟩) (by simp; omega)).trans hy2
              have hw3 := (HBW.out.frozen (p := ⟨w.heap.size + 1, 0, none⟩) (by simp; omega)).trans hy3
              clear hres
              gi_wp2_with fail
              refine ⟨KeepsOthers.setCell _ _ _, ⟨⟨rfl, HRES.out⟩, World.cell?_setCell_same' _ _ _ (by rw [hw2]; rfl)⟩, (HB0.out.trans (HBW.out.mono (by omega))).setCell (p := ⟨w.heap.size + 1, 0, none⟩) (by simp) _, ?_⟩
              intro D hD
              have hne := HGe.out D hD
              rw [Below.heap_setCell W1 _ _ D (by simp; omega), HBW.out.block D (HD2.out D hD)]
              exact HD0.out D hD
            · gi_wp2_with fail
              refine ⟨KeepsOthers.refl _, Below.refl _ _, ?_, HBW.out⟩
              intro y hy
              rcases List.mem_append.1 hy with h | h
              · exact HP.out y h
              · rw [List.mem_singleton.1 h]
                have := HJ.out
                subst this
                omega
      case done =>
        rintro D ys W1 hD rfl ⟨hok, hBW⟩ hK
        have hgood : sndB (rd_L1 l0_0 k) = true := sndB_good _ (fun x => hok x (List.mem_finRange x))
        have hall2 : l0_0.all sndB = (l0_0.drop (k + 1)).all sndB := by rw [HA.out, hst.out, hgood, Bool.true_and]
        have HALL := Lib.hid hall2
        have HBW := Lib.hid hBW
        have HK := Lib.hid hK
        clear hgood hall2 hok hBW hK
        gi_wp2_with fail
        refine ⟨⟨k + 1, D :: Ds, _, _, _, _, _, _, _, _, _, _, _, _, _, _, _, _, _, _, _, _, _, _, _, _, by omega, ⟨List.nodup_cons.2 ⟨fun h => by have := HD2.out D h; omega, hnd⟩, ?_, ?_, HB0.out.trans (HBW.out.mono (by omega)), by have := HBW.out.size; omega, ?_, ?_, ?_, HALL.out⟩, rfl⟩, by simp [intOf]; omega⟩
        · intro E hE
          rcases List.mem_cons.1 hE with rfl | hE
          · exact HK.out
          · rw [HBW.out.block E (HD2.out E hE)]; exact HD0.out E hE
        · intro E hE
          rcases List.mem_cons.1 hE with rfl | hE
          · omega
          · exact HGe.out E hE
        · exact (HBW.out.cell (p := ⟨w.heap.size, 0, none⟩) (by simp; omega)).trans hy1
        · exact (HBW.out.cell (p := ⟨w.heap.size + 1, 0, none⟩) (by simp; omega)).trans hy2
        · exact (HBW.out.frozen (p := ⟨w.heap.size + 1, 0, none⟩) (by simp; omega)).trans hy3
      case stop =>
        rintro D c pre W1 hD hpre ⟨⟨⟨rfl, hbad⟩, hcr⟩, hBw, hDs1⟩ hK
        have hall2 : l0_0.all sndB = false := by rw [HA.out, hst.out, hbad, Bool.false_and]
        have HALL := Lib.hid hall2
        have HBw := Lib.hid hBw
        have HK := Lib.hid hK
        have HDs1 := Lib.hid hDs1
        clear hall2 hbad hBw hK hDs1
        gi_wp2_with fail
        refine leaves_marks Try.f24 _ _ (.bool false) n (D :: Ds) w _ (List.nodup_cons.2 ⟨fun h => by have := HD2.out D h; omega, hnd⟩) ?_ ?_ HBw.out ?_
        · intro E hE
          rcases List.mem_cons.1 hE with rfl | hE
          · exact HK.out
          · exact HDs1.out E hE
        · intro E hE
          rcases List.mem_cons.1 hE with rfl | hE
          · omega
          · have := HGe.out E hE; omega
        · intro W' hB' hk'
          have hc := hk' ⟨w.heap.size + 1, 0, none⟩ (.bool false) hcr
          refine ⟨?_, by rw [HALL.out], hB'⟩
          simp [results, Try.f24, go_sem, hc]
    · have hz : l0_0.all sndB = true := by rw [hall, List.drop_of_length_le (by omega)]; rfl
      have HZ := Lib.hid hz
      have HDs := Lib.hid hDs
      have HGe := Lib.hid hge
      have HB := Lib.hid hB
      clear hall hDs hge hB hz
      gi_wp2_with fail
      refine leaves_marks Try.f24 _ _ (.bool true) n Ds w _ hnd ?_ (fun D hD => by have := HGe.out D hD; omega) (HB.out.setCell (p := ⟨w.heap.size + 1, 0, none⟩) (by simp) _) ?_
      · intro D hD
        rw [Below.heap_setCell W _ _ D (by have := HGe.out D hD; simp; omega)]
        exact HDs.out D hD
      · intro W' hB' hk'
        have hc := hk' ⟨w.heap.size + 1, 0, none⟩ (.bool true) (World.cell?_setCell_same' _ _ _ (by rw [hb2]; rfl))
        refine ⟨?_, by rw [HZ.out], hB'⟩
        simp [results, Try.f24, go_sem, hc]
theorem fuse_Sound.calls (A0_0 : Option Addr) (c0_0 : Nat) (l0_0 : List (List Int)) (r : Bool) (w : World) (hr0_0 : Kd.C (Kd.slice 5 (Kd.int .u8)) w A0_0 l0_0.length l0_0) (hc0_0 : l0_0.length ≤ c0_0) (h : fuse_Sound.f l0_0 = some r) :
    Calls Try.prog 24 #[.agg #[.slice A0_0 l0_0.length c0_0]] w fun e w' => e = .returned (.bool r) ∧ Below w.heap.size w w' := by
  unfold fuse_Sound.f at h
  by_cases hh : l0_0.length ≤ 4611686018427387904 ∧ (∀ l ∈ l0_0, l.length ≤ 4611686018427387904 ∧ l.length % 3 = 0)
  case neg => rw [if_neg hh] at h; cases h
  rw [if_pos hh] at h
  obtain rfl := Option.some.inj h
  exact callsIn_wide.1 (sound_in 3 (Nat.le_refl _) A0_0 c0_0 l0_0 w hr0_0 hh.1 hh.2)
end Go.Proofs.Ytnobomefhpkicaa.P
