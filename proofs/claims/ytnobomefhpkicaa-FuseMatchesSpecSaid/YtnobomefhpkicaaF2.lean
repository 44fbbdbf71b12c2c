import Derived.Test.YtnobomefhpkicaaF1
namespace Go.Proofs.Ytnobomefhpkicaa.P
open Go.RowKit Go.Proofs.YtnobomefhpkicaaW.PrintWords Go.Proofs.YtnobomefhpkicaaW.PrintLast Go.Proofs.YtnobomefhpkicaaW.PrintMore
set_option linter.unusedVariables false
set_option linter.unusedSimpArgs false

/-- What pulses may make of a cell. -/
structure Cl (c d : Int) : Prop where
  lo : readV c false ≤ readV d false
  hi : readV c true ≤ readV d true
  st : stk c = stk d
  le : c ≤ 3 → d ≤ 3
  two : c = 2 → d = 2
  three : c = 3 → d = 3
theorem Cl.refl (c : Int) : Cl c c := ⟨Int.le_refl _, Int.le_refl _, rfl, id, id, id⟩
theorem Cl.trans {a b c : Int} (h : Cl a b) (k : Cl b c) : Cl a c := ⟨Int.le_trans h.lo k.lo, Int.le_trans h.hi k.hi, h.st.trans k.st, fun x => k.le (h.le x), fun x => k.two (h.two x), fun x => k.three (h.three x)⟩
theorem Cl.next (c : Int) (cut : Bool) : Cl c (nextV c cut) := by
  unfold nextV
  by_cases h : c = 2 ∨ c = 3
  · rw [if_pos h]; exact Cl.refl c
  · rw [if_neg h]
    have h2 : c ≠ 2 := fun e => h (.inl e)
    have h3 : c ≠ 3 := fun e => h (.inr e)
    cases cut
    · refine ⟨?_, ?_, ?_, ?_, fun e => absurd e h2, fun e => absurd e h3⟩
      · first | (simp [readV, h2]; done) | (simp [readV, h2]; split <;> simp)
      · first | (simp [readV, h2]; done) | (simp [readV, h2]; split <;> simp)
      · simp [stk, h3]
      · intro _; simp
    · refine ⟨?_, ?_, ?_, ?_, fun e => absurd e h2, fun e => absurd e h3⟩
      · first | (simp [readV, h2]; done) | (simp [readV, h2]; split <;> simp)
      · first | (simp [readV, h2]; done) | (simp [readV, h2]; split <;> simp)
      · simp [stk, h3]
      · intro _; simp
/-- What pulses may make of fuses. -/
structure Adv (l g : List (List Int)) : Prop where
  n : l.length = g.length
  b : ∀ i : Nat, i < l.length → (rd_L1 l i).length = (rd_L1 g i).length
  c : ∀ i j : Nat, i < l.length → j < (rd_L1 l i).length → Cl (rd (rd_L1 l i) j) (rd (rd_L1 g i) j)
theorem Adv.refl (l : List (List Int)) : Adv l l := ⟨rfl, fun _ _ => rfl, fun _ _ _ _ => Cl.refl _⟩
theorem Adv.trans {a b c : List (List Int)} (h : Adv a b) (k : Adv b c) : Adv a c :=
  ⟨h.n.trans k.n, fun i hi => (h.b i hi).trans (k.b i (h.n ▸ hi)), fun i j hi hj => (h.c i j hi hj).trans (k.c i j (h.n ▸ hi) (h.b i hi ▸ hj))⟩
theorem Adv.small {l g : List (List Int)} (h : Adv l g) (s : Small l) : Small g :=
  ⟨h.n ▸ s.n, fun i hi => by have := s.b i (h.n ▸ hi); rw [← h.b i (h.n ▸ hi)]; exact this⟩
theorem rd_L1_set (l : List (List Int)) (i j : Nat) (x : List Int) (hi : i < l.length) (hj : j < l.length) : rd_L1 (l.set i x) j = if i = j then x else rd_L1 l j := by
  rw [rd_L1_mem _ _ (by rw [List.length_set]; exact hj), rd_L1_mem _ _ hj, List.getElem_set]
theorem rd_set (c : List Int) (i j : Nat) (x : Int) (hj : j < c.length) : rd (c.set i x) j = if i = j then x else rd c j := by
  rw [rd_at _ _ (by rw [List.length_set]; exact hj), rd_at _ _ hj, List.getElem_set]
/-- One pulse. -/
def pulse1 (l : List (List Int)) (a1 a2 : Int) (cut : Bool) : List (List Int) :=
  if 0 ≤ a1 ∧ a1 < (l.length : Int) ∧ 0 ≤ a2 ∧ a2 < ((rd_L1 l a1).length : Int) then pulseL l a1 a2 cut else l
theorem pulse_eq (l : List (List Int)) (s : Small l) (a1 a2 : Int) (cut : Bool) : ∃ e, fuse_Pulse.f l a1 a2 cut = some (pulse1 l a1 a2 cut, e) := by
  unfold fuse_Pulse.f pulse1
  by_cases h : 0 ≤ a1 ∧ a1 < (l.length : Int) ∧ 0 ≤ a2 ∧ a2 < ((rd_L1 l a1).length : Int)
  · rw [if_pos h, if_pos h]
    obtain ⟨n, rfl⟩ := Int.eq_ofNat_of_zero_le h.1
    rw [if_pos ⟨by have := s.n; omega, by have := (s.b n (by omega)).1; omega⟩]
    exact ⟨_, rfl⟩
  · rw [if_neg h, if_neg h]
    exact ⟨_, rfl⟩
theorem pulse_at (l : List (List Int)) (n m : Nat) (cut : Bool) (h1 : n < l.length) (h2 : m < (rd_L1 l n).length) : pulse1 l n m cut = l.set n ((rd_L1 l n).set m (nextV (rd (rd_L1 l n) m) cut)) := by
  unfold pulse1 pulseL
  rw [if_pos (by omega), Int.toNat_natCast, Int.toNat_natCast]
theorem pulse_adv (l : List (List Int)) (a1 a2 : Int) (cut : Bool) : Adv l (pulse1 l a1 a2 cut) := by
  by_cases h : 0 ≤ a1 ∧ a1 < (l.length : Int) ∧ 0 ≤ a2 ∧ a2 < ((rd_L1 l a1).length : Int)
  · obtain ⟨n, rfl⟩ := Int.eq_ofNat_of_zero_le h.1
    obtain ⟨m, rfl⟩ := Int.eq_ofNat_of_zero_le h.2.2.1
    rw [pulse_at l n m cut (by omega) (by omega)]
    refine ⟨by rw [List.length_set], fun i hi => ?_, fun i j hi hj => ?_⟩
    · rw [rd_L1_set l n i _ (by omega) hi]
      by_cases e : n = i
      · rw [if_pos e, List.length_set, e]
      · rw [if_neg e]
    · rw [rd_L1_set l n i _ (by omega) hi]
      by_cases e : n = i
      · subst e
        rw [if_pos rfl, rd_set _ _ _ _ hj]
        by_cases e : m = j
        · subst e; rw [if_pos rfl]; exact Cl.next _ _
        · rw [if_neg e]; exact Cl.refl _
      · rw [if_neg e]; exact Cl.refl _
  · unfold pulse1; rw [if_neg h]; exact Adv.refl l
/-- All pulses. -/
def hitsL (l : List (List Int)) (hs : List S47) : List (List Int) := hs.foldl (fun l h => pulse1 l h.f0 h.f1 h.f2) l
theorem rd_T47_at (hs : List S47) (i : Nat) (h : i < hs.length) : rd_T47 hs i = hs[i] := by
  unfold rd_T47; rw [Int.toNat_natCast, List.getD_eq_getElem?_getD, List.getElem?_eq_getElem h]; rfl
theorem hits_l0 (hs : List S47) (hl : hs.length ≤ 4398046511103) : ∀ d i l, hs.length - i = d → i ≤ hs.length → Small l → Ev (fun k => bootchainlaw07_hits.l0 k hs (hs.length : Int) i l) (hitsL l (hs.drop i))
  | 0, i, l, hd, hi, s => by
    refine Ev.step (f := fun _ => some l) (fun k => ?_) ?_
    · simp only [bootchainlaw07_hits.l0]; rw [if_neg (by omega)]
    · rw [List.drop_of_length_le (by omega)]; exact Ev.now _
  | d + 1, i, l, hd, hi, s => by
    have hlt : i < hs.length := by omega
    obtain ⟨e, he⟩ := pulse_eq l s (rd_T47 hs i).f0 (rd_T47 hs i).f1 (rd_T47 hs i).f2
    have ih := hits_l0 hs hl d (i + 1) (pulse1 l (rd_T47 hs i).f0 (rd_T47 hs i).f1 (rd_T47 hs i).f2) (by omega) (by omega) ((pulse_adv _ _ _ _).small s)
    refine Ev.step (f := fun k => bootchainlaw07_hits.l0 k hs (hs.length : Int) ((i + 1 : Nat) : Int) (pulse1 l (rd_T47 hs i).f0 (rd_T47 hs i).f1 (rd_T47 hs i).f2)) (fun k => ?_) ?_
    · simp only [bootchainlaw07_hits.l0]
      rw [if_pos (by omega), if_pos (by omega), if_pos (by omega), he, w_succ i (by omega)]
      rfl
    · rw [List.drop_eq_getElem_cons hlt]
      rw [rd_T47_at hs i hlt] at ih ⊢
      exact ih
theorem hits_f (l : List (List Int)) (hs : List S47) (hl : hs.length ≤ 4398046511103) (s : Small l) : Ev (fun k => bootchainlaw07_hits.f k l hs) (hitsL l hs) := by
  have := hits_l0 hs hl _ 0 l rfl (by omega) s
  rw [List.drop_zero] at this
  exact Ev.congr (fun k => by unfold bootchainlaw07_hits.f; rfl) this
theorem hits_adv : ∀ (hs : List S47) (l : List (List Int)), Adv l (hitsL l hs)
  | [], l => Adv.refl l
  | h :: hs, l => (pulse_adv l h.f0 h.f1 h.f2).trans (hits_adv hs _)
/-! ### levels -/
theorem lvl_mono (f g : Int → Int) : ∀ (a b : List Int), a.length = b.length → (∀ j : Nat, j < a.length → f (rd a j) ≤ g (rd b j)) → lvl f a ≤ lvl g b
  | x :: y :: z :: t, x' :: y' :: z' :: t', hl, h => by
    have h0 := h 0 (by simp)
    have h1 := h 1 (by simp)
    have h2 := h 2 (by simp)
    have ih := lvl_mono f g t t' (by simpa using hl) (fun j hj => by
      have := h (j + 3) (by simp only [List.length_cons]; omega)
      rw [rd_at _ _ (by simp only [List.length_cons]; omega), rd_at _ _ (by simp only [List.length_cons] at hl ⊢; omega)] at this
      rw [rd_at _ _ hj, rd_at _ _ (by simp only [List.length_cons] at hl; omega)]
      exact this)
    rw [rd_at _ _ (by simp), rd_at _ _ (by simp)] at h0 h1 h2
    simp only [List.getElem_cons_zero, List.getElem_cons_succ] at h0 h1 h2
    unfold lvl
    by_cases c : 2 * (f x + f y + f z) ≤ 3
    · rw [if_pos c]; omega
    · rw [if_neg c, if_neg (by omega)]; omega
  | [], _, _, _ => by simp [lvl]
  | [_], _, _, _ => by simp [lvl]
  | [_, _], _, _, _ => by simp [lvl]
  | _ :: _ :: _ :: _, [], hl, _ => by simp at hl
  | _ :: _ :: _ :: _, [_], hl, _ => by simp at hl
  | _ :: _ :: _ :: _, [_, _], hl, _ => by simp at hl
theorem snd_congr : ∀ (a b : List Int), a.length = b.length → (∀ j : Nat, j < a.length → stk (rd a j) = stk (rd b j)) → sndB a = sndB b
  | x :: y :: z :: t, x' :: y' :: z' :: t', hl, h => by
    have h0 := h 0 (by simp)
    have h1 := h 1 (by simp)
    have h2 := h 2 (by simp)
    have ih := snd_congr t t' (by simpa using hl) (fun j hj => by
      have := h (j + 3) (by simp only [List.length_cons]; omega)
      rw [rd_at _ _ (by simp only [List.length_cons]; omega), rd_at _ _ (by simp only [List.length_cons] at hl ⊢; omega)] at this
      rw [rd_at _ _ hj, rd_at _ _ (by simp only [List.length_cons] at hl; omega)]
      exact this)
    rw [rd_at _ _ (by simp), rd_at _ _ (by simp)] at h0 h1 h2
    simp only [List.getElem_cons_zero, List.getElem_cons_succ] at h0 h1 h2
    unfold sndB
    rw [h0, h1, h2, ih]
  | [], [], _, _ => rfl
  | [_], [_], _, _ => rfl
  | [_, _], [_, _], _, _ => rfl
  | [], _ :: _, hl, _ => by simp at hl
  | [_], [], hl, _ => by simp at hl
  | [_], _ :: _ :: _, hl, _ => by simp at hl
  | [_, _], [], hl, _ => by simp at hl
  | [_, _], [_], hl, _ => by simp at hl
  | [_, _], _ :: _ :: _ :: _, hl, _ => by simp at hl
  | _ :: _ :: _ :: _, [], hl, _ => by simp at hl
  | _ :: _ :: _ :: _, [_], hl, _ => by simp at hl
  | _ :: _ :: _ :: _, [_, _], hl, _ => by simp at hl
theorem Adv.least {l g : List (List Int)} (h : Adv l g) (i : Nat) (hi : i < l.length) : lvl (fun c => readV c false) (rd_L1 l i) ≤ lvl (fun c => readV c false) (rd_L1 g i) :=
  lvl_mono _ _ _ _ (h.b i hi) (fun j hj => (h.c i j hi hj).lo)
theorem Adv.most {l g : List (List Int)} (h : Adv l g) (i : Nat) (hi : i < l.length) : lvl (fun c => readV c true) (rd_L1 l i) ≤ lvl (fun c => readV c true) (rd_L1 g i) :=
  lvl_mono _ _ _ _ (h.b i hi) (fun j hj => (h.c i j hi hj).hi)
theorem all_congr (p : List Int → Bool) (l g : List (List Int)) (hn : l.length = g.length) (h : ∀ i : Nat, i < l.length → p (rd_L1 l i) = p (rd_L1 g i)) : l.all p = g.all p := by
  rw [Bool.eq_iff_iff, List.all_eq_true, List.all_eq_true]
  constructor
  · intro hl c hc
    obtain ⟨i, hi, rfl⟩ := List.getElem_of_mem hc
    rw [← rd_L1_mem g i hi, ← h i (by omega), rd_L1_mem l i (by omega)]
    exact hl _ (List.getElem_mem _)
  · intro hl c hc
    obtain ⟨i, hi, rfl⟩ := List.getElem_of_mem hc
    rw [← rd_L1_mem l i hi, h i hi, rd_L1_mem g i (by omega)]
    exact hl _ (List.getElem_mem _)
theorem Adv.sound {l g : List (List Int)} (h : Adv l g) : g.all sndB = l.all sndB :=
  (all_congr _ l g h.n (fun i hi => snd_congr _ _ (h.b i hi) (fun j hj => (h.c i j hi hj).st))).symm
theorem Adv.valid {l g : List (List Int)} (h : Adv l g) (hv : validB l = true) : validB g = true := by
  have s := small_of l hv
  have s2 := h.small s
  unfold validB at hv ⊢
  simp only [Bool.and_eq_true, decide_eq_true_eq, List.all_eq_true] at hv ⊢
  refine ⟨s2.n, fun c hc => ?_⟩
  obtain ⟨i, hi, rfl⟩ := List.getElem_of_mem hc
  have h48 := s2.b i hi
  rw [rd_L1_mem g i hi] at h48
  refine (okBank_iff _).2 ⟨h48.2, h48.1, fun x hx => ?_⟩
  obtain ⟨j, hj, rfl⟩ := List.getElem_of_mem hx
  have hil : i < l.length := by have := h.n; omega
  have hjl : j < (rd_L1 l i).length := by rw [h.b i hil, rd_L1_mem g i hi]; exact hj
  have hc := (h.c i j hil hjl).le ?_
  · rw [rd_L1_mem g i hi, rd_at _ _ hj] at hc; exact hc
  · have := (okBank_iff _).1 (hv.2 (rd_L1 l i) (by rw [rd_L1_mem l i hil]; exact List.getElem_mem _))
    rw [rd_at _ _ hjl]
    exact this.2.2 _ (List.getElem_mem _)
end Go.Proofs.Ytnobomefhpkicaa.P
