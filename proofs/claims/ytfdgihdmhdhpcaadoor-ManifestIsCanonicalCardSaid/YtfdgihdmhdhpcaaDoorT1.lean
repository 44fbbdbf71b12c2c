/- The two tables of sha, read off the rows' condition. -/
import Derived.Test.YtfdgihdmhdhpcaaDoorRows
import Derived.Test.YtfdgihdmhdhpcaaDoorS1
import Derived.ProofKit
import Derived.LaidMore
import Derived.OpenShut
import Derived.Stop.Joined
namespace Go.Proofs.YtfdgihdmhdhpcaaDoor
open Go.ChangeShapes Go.WideShapes Go.ChangeAt Go.RowKit
theorem gK : Tryd.prog.globalNamed "bootchain/sha.constants" = some 1 := by kernel_rfl
theorem tK : (Tryd.prog.globals[1]?).map (·.type) = some 151 := by kernel_rfl
theorem gH : Tryd.prog.globalNamed "bootchain/sha.start" = some 0 := by kernel_rfl
theorem tH : (Tryd.prog.globals[0]?).map (·.type) = some 137 := by kernel_rfl
theorem cells135 : Tryd.prog.cellsOf 135 = 1 := by kernel_rfl
theorem cells151 : Tryd.prog.cellsOf 151 = 64 := by kernel_rfl
theorem cells137 : Tryd.prog.cellsOf 137 = 8 := by kernel_rfl
def laid1 : List (String × DataW Unit) := [("bootchain/sha.constants", Rows.laid_bootchain_sha_constants), ("bootchain/sha.start", Rows.laid_bootchain_sha_start)]
theorem int_of {H : Type} {enc : TypeId × Value → H} {w : World} {base : Nat} {sp : Nat → Bool} {held : Bool} {fuel : Nat} {t : TypeId} {k : IntKind} {c : Value} {y : DataW H × List MemPlace}
    (ht : Tryd.prog.underlying t = some (.int k)) (h : DataW.trod enc Tryd.prog w base sp held fuel t [c] = some y) : ∃ n, c = .int k n ∧ y = (.lit (.int k n), []) := by
  cases fuel with
  | zero => simp [DataW.trod] at h
  | succ fuel =>
    cases c <;> simp [DataW.trod, ht] at h
    rename_i k' n
    obtain ⟨⟨rfl, _⟩, rfl⟩ := h
    exact ⟨n, rfl, rfl⟩
set_option maxRecDepth 100000 in
theorem num_at {H : Type} {enc : TypeId × Value → H} {W : World} {T N fuel : Nat} {sp : Nat → Bool} {held : Bool} {cs : List Value} {ds : List (DataW H)} {p : List MemPlace} (hT : Tryd.prog.underlying T = some (.array N 135)) (hN : Tryd.prog.cellsOf T = N)
    (hd : DataW.trod enc Tryd.prog W 0 sp held fuel T cs = some (.agg ds, p)) (i : Nat) (hi : i < N) {n : Int} (hdi : ds[i]? = some (.lit (.int .u32 n))) : cs[i]? = some (.int .u32 n) := by
  obtain ⟨xs, m, _, hx, hl, hlen, hel⟩ := DataW.trod_array hT hd
  have h1 := hel i hi
  rw [cells135, Nat.mul_one] at h1
  injection hx with hx1 hx2
  injection hx1 with hx1
  rw [hx1, List.getElem?_map] at hdi
  rw [List.getElem?_eq_getElem (by omega)] at hdi h1
  have hc : i < cs.length := by rw [hl, hN]; omega
  rw [List.drop_eq_getElem_cons hc] at h1
  simp only [List.take_succ_cons, List.take_zero] at h1
  simp only [Option.map_some, Option.some.injEq] at hdi
  obtain ⟨n', hc1, hy⟩ := int_of Tryd.underlying135 h1
  rw [hy] at hdi
  simp only [DataW.lit.injEq, Lit.int.injEq, true_and] at hdi
  rw [List.getElem?_eq_getElem hc, hc1, hdi]
set_option maxRecDepth 100000 in
theorem tabOf {W : World} (h : laidMetH Tryd.prog laid1 W) : P.TabW W := by
  have h' : laidMet Tryd.prog laid1 W := h
  obtain ⟨ps, hv, -⟩ := h'
  obtain ⟨g, t, cs, fuel, p, q, hg, ht, hvar, hd, _, hv2⟩ := hv
  obtain rfl := Option.some.inj (gK.symm.trans hg)
  obtain rfl := Option.some.inj (tK.symm.trans ht)
  rename_i hv3
  obtain ⟨g2, t2, cs2, fuel2, p2, q2, hg2, ht2, hvar2, hd2, _, hv4⟩ := hv3
  obtain rfl := Option.some.inj (gH.symm.trans hg2)
  obtain rfl := Option.some.inj (tH.symm.trans ht2)
  have ek : (Rows.laid_bootchain_sha_constants : DataW Unit) = .agg (P.KK.map fun n => .lit (.int .u32 n)) := rfl
  have eh : (Rows.laid_bootchain_sha_start : DataW Unit) = .agg (P.HH.map fun n => .lit (.int .u32 n)) := rfl
  rw [ek] at hd
  rw [eh] at hd2
  have hk : ∀ i, i < 64 → W.cell? ⟨1, i, none⟩ = some (.int .u32 (P.gw P.KK i)) := fun i hi => by
    rw [World.var?_cell hg hvar i, ← Array.getElem?_toList]
    refine num_at Tryd.underlying151 cells151 hd i hi ?_
    have hl : i < P.KK.length := hi
    rw [List.getElem?_map, List.getElem?_eq_getElem hl]
    simp [P.gw, List.getD_eq_getElem?_getD, List.getElem?_eq_getElem hl]
  have hh : ∀ i, i < 8 → W.cell? ⟨0, i, none⟩ = some (.int .u32 (P.gw P.HH i)) := fun i hi => by
    rw [World.var?_cell hg2 hvar2 i, ← Array.getElem?_toList]
    refine num_at Tryd.underlying137 cells137 hd2 i hi ?_
    have hl : i < P.HH.length := hi
    rw [List.getElem?_map, List.getElem?_eq_getElem hl]
    simp [P.gw, List.getD_eq_getElem?_getD, List.getElem?_eq_getElem hl]
  exact ⟨World.block_lt_of_cell? W ⟨1, 0, none⟩ (hk 0 (by decide)), hk, hh⟩
end Go.Proofs.YtfdgihdmhdhpcaaDoor
