/- The function table of the vm, read off the row's condition. -/
import Derived.Test.YtbgfkepnlpgagaaDoorRows
import Derived.ProofKit
import Derived.LaidMore
import Derived.OpenShut
import Derived.Stop.Joined
namespace Go.Proofs.YtbgfkepnlpgagaaDoor
open Go.ChangeShapes Go.WideShapes Go.ChangeAt Go.RowKit
theorem gTab : Tryd.prog.globalNamed "bootchain/vm.instructions" = some 0 := by kernel_rfl
theorem tTab : (Tryd.prog.globals[0]?).map (·.type) = some 61 := by kernel_rfl
theorem cells60 : Tryd.prog.cellsOf 60 = 1 := by kernel_rfl
def laid1 : List (String × DataW Unit) := [("bootchain/vm.instructions", Rows.laid_bootchain_vm_instructions)]
theorem tab_at {W : World} {fuel : Nat} {cs : List Value} {ds : List (DataW (List UInt8))} {p : List MemPlace} (hd : DataW.trod (funcToken Tryd.prog) Tryd.prog W 0 (fun _ => true) true fuel 61 cs = some (.agg ds, p)) (i : Nat) (hi : i < 18) {b : UInt8} {r : List UInt8} {f0 : FuncId} (hdi : ds[i]? = some (.held (b :: r)))
    (hone : ((List.range Tryd.prog.funcs.size).filter fun f => (Tryd.prog.funcs[f]?).any (·.name.toUTF8.data.toList == b :: r)) = [f0]) : cs[i]? = some (.func (.func f0) #[] #[]) := by
  obtain ⟨xs, m, _, hx, hl, hlen, hel⟩ := DataW.trod_array Tryd.underlying61 hd
  have h1 := hel i hi
  rw [cells60, Nat.mul_one] at h1
  injection hx with hx1 hx2
  injection hx1 with hx1
  rw [hx1, List.getElem?_map] at hdi
  rw [List.getElem?_eq_getElem (by omega)] at hdi h1
  have hc : i < cs.length := by rw [hl]; have : Tryd.prog.cellsOf 61 = 18 := by kernel_rfl
                                omega
  rw [List.drop_eq_getElem_cons hc] at h1
  simp only [List.take_succ_cons, List.take_zero] at h1
  simp only [Option.map_some, Option.some.injEq] at hdi
  have h2 : DataW.trod (funcToken Tryd.prog) Tryd.prog W 0 (fun _ => true) true m 60 [cs[i]] = some (.held (b :: r), (xs[i]'(by omega)).2) := by rw [h1, ← hdi]
  rw [List.getElem?_eq_getElem hc, func_of_trod Tryd.underlying60 hone h2]
/-- Which function the table names at an operation. -/
def tabF (k : Nat) : Nat := if k = 1 then 46 else if k = 2 then 47 else if k = 3 then 48 else if k = 4 then 49 else if k = 5 then 49 else if k = 6 then 49 else if k = 7 then 49 else if k = 8 then 49 else if k = 9 then 49 else if k = 10 then 49 else if k = 11 then 50 else if k = 12 then 51 else if k = 13 then 52 else if k = 14 then 53 else if k = 15 then 54 else if k = 16 then 54 else if k = 17 then 55 else 0
theorem of_laid {W : World} (h : laidMetH Tryd.prog laid1 W) (k : Nat) (h1 : 1 ≤ k) (h18 : k < 18) : W.cell? ⟨0, k, none⟩ = some (.func (.func (tabF k)) #[] #[]) := by
  obtain ⟨g, t, cs, fuel, p, hg, ht, hv, hd⟩ := h.funcs (List.mem_singleton.2 rfl)
  obtain rfl := Option.some.inj (gTab.symm.trans hg)
  obtain rfl := Option.some.inj (tTab.symm.trans ht)
  rw [World.var?_cell hg hv k, ← Array.getElem?_toList]
  match k, h1, h18 with
  | 1, _, _ => exact tab_at hd 1 (by decide) rfl (by kernel_rfl)
  | 2, _, _ => exact tab_at hd 2 (by decide) rfl (by kernel_rfl)
  | 3, _, _ => exact tab_at hd 3 (by decide) rfl (by kernel_rfl)
  | 4, _, _ => exact tab_at hd 4 (by decide) rfl (by kernel_rfl)
  | 5, _, _ => exact tab_at hd 5 (by decide) rfl (by kernel_rfl)
  | 6, _, _ => exact tab_at hd 6 (by decide) rfl (by kernel_rfl)
  | 7, _, _ => exact tab_at hd 7 (by decide) rfl (by kernel_rfl)
  | 8, _, _ => exact tab_at hd 8 (by decide) rfl (by kernel_rfl)
  | 9, _, _ => exact tab_at hd 9 (by decide) rfl (by kernel_rfl)
  | 10, _, _ => exact tab_at hd 10 (by decide) rfl (by kernel_rfl)
  | 11, _, _ => exact tab_at hd 11 (by decide) rfl (by kernel_rfl)
  | 12, _, _ => exact tab_at hd 12 (by decide) rfl (by kernel_rfl)
  | 13, _, _ => exact tab_at hd 13 (by decide) rfl (by kernel_rfl)
  | 14, _, _ => exact tab_at hd 14 (by decide) rfl (by kernel_rfl)
  | 15, _, _ => exact tab_at hd 15 (by decide) rfl (by kernel_rfl)
  | 16, _, _ => exact tab_at hd 16 (by decide) rfl (by kernel_rfl)
  | n + 18, _, h => exact absurd h (by omega)
  | 17, _, _ => exact tab_at hd 17 (by decide) rfl (by kernel_rfl)
end Go.Proofs.YtbgfkepnlpgagaaDoor
