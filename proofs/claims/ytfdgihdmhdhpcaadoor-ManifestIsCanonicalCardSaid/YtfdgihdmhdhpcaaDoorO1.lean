/- A value that came in, of a shape made of integers, bools, strings, slices and structs, opened once as the kinds of the printed contracts read it. No condition. -/
import Derived.Test.YtfdgihdmhdhpcaaDoorWWords
import Derived.Deep.Slices
import Derived.ChangeArms
namespace Go.Proofs.YtfdgihdmhdhpcaaDoor.Open
open Go.Proofs.YtfdgihdmhdhpcaaDoorW.PrintWords Go.Deep
set_option linter.unusedVariables false

/-- Whatever reads as type t is a value of kind d, and has W. -/
def Opens {α : Type} (P : Program) (d : Kd α) (t : TypeId) (W : α → Prop) : Prop :=
  ∀ (H : Type) (enc : TypeId × Value → H) (w : World) (base : Nat) (sp : Nat → Bool) (held : Bool) (fuel : Nat) (cs : List Value) (x : DataW H × List MemPlace),
    DataW.trod enc P w base sp held fuel t cs = some x → ∃ y, d.K w y cs ∧ W y
/-- .. of the fields from an offset on. -/
def OpensAt {α : Type} (P : Program) (d : Kd α) (fs : List Field) (off : Nat) (W : α → Prop) : Prop :=
  ∀ (H : Type) (enc : TypeId × Value → H) (w : World) (base : Nat) (sp : Nat → Bool) (held : Bool) (n : Nat) (cs : List Value), cs.length = off + d.sz →
    (∀ f, f ∈ fs → ∃ x, DataW.trod enc P w base sp held n f.type ((cs.drop f.offset).take (P.cellsOf f.type)) = some x) → ∃ y, d.K w y (cs.drop off) ∧ W y

variable {P : Program} {t : TypeId}
theorem Opens.imp {α : Type} {d : Kd α} {W W' : α → Prop} (h : Opens P d t W) (hw : ∀ y, W y → W' y) : Opens P d t W' := fun H enc w base sp held fuel cs x hx => by
  obtain ⟨y, h1, h2⟩ := h H enc w base sp held fuel cs x hx
  exact ⟨y, h1, hw y h2⟩
theorem opens_int {k : IntKind} (ht : P.underlying t = some (.int k)) : Opens P (Kd.int k) t (fun n => (Lit.int k n).wf = true) := fun H enc w base sp held fuel cs x hx => by
  obtain ⟨n, hcs, _, hw⟩ := DataW.trod_int ht hx
  exact ⟨n, hcs, hw⟩
theorem opens_bool (ht : P.underlying t = some .bool) : Opens P Kd.bool t (fun _ => True) := fun H enc w base sp held fuel cs x hx => by
  obtain ⟨b, hcs, _⟩ := DataW.trod_bool ht hx
  exact ⟨b, hcs, trivial⟩
theorem opens_string (ht : P.underlying t = some .string) : Opens P Kd.string t (fun s => s.size ≤ maxLen) := fun H enc w base sp held fuel cs x hx => by
  obtain ⟨s, hcs, _, hl⟩ := DataW.trod_string ht hx
  exact ⟨s, hcs, hl⟩
theorem opens_slice {α : Type} [Inhabited α] {d : Kd α} {e : TypeId} {W : α → Prop} (q : Nat) (ht : P.underlying t = some (.slice e)) (hsz : P.cellsOf e = d.sz) (h : Opens P d e W) :
    Opens P (Kd.slice q d) t (fun xs => xs.length ≤ maxLen ∧ ∀ x ∈ xs, W x) := fun H enc w base sp held fuel cs x hx => by
  rcases open_slice ht hx with ⟨hcs, _⟩ | ⟨a, len, cap, m, n, D, Pl, hcs, hb, hl, hm, hmm, _, hel⟩
  · subst hcs
    exact ⟨[], ⟨none, 0, rfl, Nat.le_refl _, rfl, Nat.zero_le _, fun h => absurd h (Nat.lt_irrefl _)⟩, Nat.zero_le _, fun x hx => by cases hx⟩
  · have hlm : len ≤ m := by rw [hmm]; split <;> omega
    obtain ⟨f, hf⟩ := choose_lt (n := len) (p := fun i y => (∃ c, c.length = d.sz ∧ d.K w y c ∧ ∀ j u, c[j]? = some u → w.cell? (a.add (i * d.sz + j)) = some u) ∧ W y) (fun i hi => by
      obtain ⟨c, h1, h2⟩ := hel i (by omega)
      obtain ⟨y, h3, h4⟩ := h H enc w base sp held n c _ h2
      obtain ⟨_, hlen, hcell⟩ := World.cells?_some h1
      rw [hsz] at hlen hcell
      refine ⟨y, ⟨c, hlen, h3, fun j u hj => ?_⟩, h4⟩
      have hjl : j < c.length := by
        rcases Nat.lt_or_ge j c.length with hq | hq
        · exact hq
        · rw [List.getElem?_eq_none hq] at hj; cases hj
      rw [← Go.Deep.add_add, hcell j (by omega), hj])
    have hlen : ((List.range len).map f).length = len := by simp
    refine ⟨(List.range len).map f, ⟨some a, cap, by rw [hlen]; exact hcs, by rw [hlen]; exact hl, rfl, ?_, fun _ => ⟨a, rfl, fun j p hj => ?_⟩⟩, ?_, ?_⟩
    · rw [hlen]; unfold maxLen at hm; omega
    · have hjl : j < len := by
        rcases Nat.lt_or_ge j len with hq | hq
        · exact hq
        · rw [List.getElem?_eq_none (by rw [hlen]; exact hq)] at hj; cases hj
      have : f j = p := by simpa [hjl] using hj
      subst this
      exact (hf j hjl).1
    · rw [hlen]; omega
    · intro x hx
      obtain ⟨i, hi, rfl⟩ := List.mem_map.1 hx
      exact (hf i (List.mem_range.1 hi)).2
theorem opensAt_one {α : Type} {d : Kd α} {f : Field} {off : Nat} {W : α → Prop} (ho : f.offset = off) (hsz : P.cellsOf f.type = d.sz) (h : Opens P d f.type W) : OpensAt P d [f] off W := fun H enc w base sp held n cs hl hf => by
  obtain ⟨x, hx⟩ := hf f (List.mem_singleton.2 rfl)
  rw [ho, hsz, List.take_of_length_le (by simp; omega)] at hx
  exact h H enc w base sp held n _ _ hx
theorem opensAt_cons {α β : Type} {a : Kd α} {b : Kd β} {f : Field} {fs : List Field} {off : Nat} {Wa : α → Prop} {Wb : β → Prop} (ho : f.offset = off) (hsz : P.cellsOf f.type = a.sz) (h : Opens P a f.type Wa)
    (hb : OpensAt P b fs (off + a.sz) Wb) : OpensAt P (Kd.pair a b) (f :: fs) off (fun x => Wa x.1 ∧ Wb x.2) := fun H enc w base sp held n cs hl hf => by
  have hl' : cs.length = off + (a.sz + b.sz) := hl
  obtain ⟨x, hx⟩ := hf f List.mem_cons_self
  rw [ho, hsz] at hx
  obtain ⟨y, h1, h2⟩ := h H enc w base sp held n _ _ hx
  obtain ⟨z, h3, h4⟩ := hb H enc w base sp held n cs (by omega) (fun g hg => hf g (List.mem_cons_of_mem _ hg))
  refine ⟨(y, z), ⟨_, _, ?_, h1, h3⟩, h2, h4⟩
  rw [← List.drop_drop, List.take_append_drop]
theorem opens_struct {α : Type} {d : Kd α} {fs : Array Field} {W : α → Prop} (ht : P.underlying t = some (.struct fs)) (hsz : P.cellsOf t = d.sz) (h : OpensAt P d fs.toList 0 W) : Opens P d t W := fun H enc w base sp held fuel cs x hx => by
  obtain ⟨xs, n, _, _, hl, hlen, hf⟩ := DataW.trod_struct ht hx
  have := h H enc w base sp held n cs (by omega) (fun f hm => by
    obtain ⟨i, hi, hfi⟩ := List.getElem_of_mem hm
    have hi' : i < fs.size := by simpa using hi
    have he : fs[i]? = some f := by rw [Array.getElem?_eq_getElem hi']; rw [← hfi]; simp
    have := hf i f he
    rw [List.getElem?_eq_getElem (by omega)] at this
    exact ⟨_, this⟩)
  simpa using this
theorem opens_iso {α β : Type} {d : Kd α} {W : α → Prop} {f : β → α} (g : α → β) (hg : ∀ y, f (g y) = y) (h : Opens P d t W) : Opens P (Kd.iso d f) t (fun x => W (f x)) := fun H enc w base sp held fuel cs x hx => by
  obtain ⟨y, h1, h2⟩ := h H enc w base sp held fuel cs x hx
  exact ⟨g y, by show d.K w (f (g y)) cs; rw [hg]; exact h1, by show W (f (g y)); rw [hg]; exact h2⟩

variable {H : Type} {enc : TypeId × Value → H} {w : World} {base b0 : Nat} {sp : Nat → Bool} {held : Bool} {r : Reach} {v : Value} {dd : DataW H} {ps : List MemPlace}
/-- An argument that is a struct. -/
theorem arg_struct {α : Type} {d : Kd α} {fs : Array Field} {W : α → Prop} (ht : P.underlying t = some (.struct fs)) (h : Opens P d t W) (hv : Value.okWide P w r b0 t v) (hd : DataW.Trod enc P w base sp held t v dd ps) :
    ∃ (y : α) (cs : Array Value), v = .agg cs ∧ d.K w y cs.toList ∧ W y := by
  obtain ⟨cs, rfl, _⟩ := Go.WideShapes.okWide_struct ht hv
  obtain ⟨fuel, hf⟩ := hd
  obtain ⟨y, h1, h2⟩ := h _ enc w base sp held fuel _ _ hf
  exact ⟨y, cs, rfl, h1, h2⟩
/-- An argument that is a slice. -/
theorem arg_slice {α : Type} {d : Kd α} {e : TypeId} {q : Nat} {W : List α → Prop} (ht : P.underlying t = some (.slice e)) (h : Opens P (Kd.slice q d) t W) (hv : Value.okWide P w r b0 t v) (hd : DataW.Trod enc P w base sp held t v dd ps) :
    ∃ (l : List α) (A : Option Addr) (c : Nat), v = .slice A l.length c ∧ l.length ≤ c ∧ Kd.C d w A l.length l ∧ W l := by
  obtain ⟨A, n, c, rfl⟩ := Go.WideShapes.okWide_slice ht hv
  obtain ⟨fuel, hf⟩ := hd
  obtain ⟨y, ⟨A', c', he, h1, h2⟩, h3⟩ := h _ enc w base sp held fuel _ _ hf
  have he' : [Value.slice A n c] = [Value.slice A' y.length c'] := he
  injection he' with he' _
  exact ⟨y, A', c', he', h1, h2, h3⟩
end Go.Proofs.YtfdgihdmhdhpcaaDoor.Open
