/- Some small texts of the machine's walk, in one. -/
import Derived.Test.YtfdgihdmhdhpcaaDoorProg
import Derived.Below
import Derived.Deep.Draws
import Derived.Deep.AppendLies
import Derived.Maps.AppendAt
import Derived.OwnWalk
import Derived.Laws.BytesArg
import Derived.Laws.MakeOwn
import Derived.Laws.OwnMore
import Derived.Deep.OwnRows
import Derived.Tactics
import Derived.Lib.ConvBytes
import Derived.Laws.Slices
import Derived.WalkKit
import Derived.KernelRfl
import Derived.RowKit3
import Derived.Deep.LoopGhost
import Derived.Deep.QuietTactic
import Derived.BigQuiet
import Derived.WideLaws
import Derived.Deep.DeepCutAuto
import Derived.Deep.CutBlock
import Derived.Deep.RegionHeld3
import Derived.Laws.Rows
import Derived.Lib.AppendStr
import Derived.ArgAppend
import Derived.Laws.IdiomCopy
import Derived.OrdersHeld
import Derived.Laws.BitsLemmas
import Derived.RowKit
import Derived.Test.YtfdgihdmhdhpcaaDoorWWords
import Derived.Test.YtfdgihdmhdhpcaaDoorWLast
import Derived.Test.YtfdgihdmhdhpcaaDoorWTab
import Derived.Test.YtfdgihdmhdhpcaaDoorWFour
import Derived.Test.YtfdgihdmhdhpcaaDoorWQPut
import Derived.Test.YtfdgihdmhdhpcaaDoorWApart
import Derived.Test.YtfdgihdmhdhpcaaDoorWArr
import Derived.Test.YtfdgihdmhdhpcaaDoorWZeros
import Derived.Test.YtfdgihdmhdhpcaaDoorWFoot
import Derived.Test.YtfdgihdmhdhpcaaDoorWKept
import Derived.Test.YtfdgihdmhdhpcaaDoorWShare
import Derived.Test.YtfdgihdmhdhpcaaDoorWN
import Derived.Test.YtfdgihdmhdhpcaaDoorWFootNe
import Derived.Test.YtfdgihdmhdhpcaaDoorWAt
import Derived.Test.YtfdgihdmhdhpcaaDoorWEqStruct
import Derived.Test.YtfdgihdmhdhpcaaDoorWRepsOne
import Derived.Test.YtfdgihdmhdhpcaaDoorWInv
import Derived.Test.YtfdgihdmhdhpcaaDoorWInvWords
import Derived.Test.YtfdgihdmhdhpcaaDoorWGuard
import Derived.Test.YtfdgihdmhdhpcaaDoorWNEv
import Derived.Test.YtfdgihdmhdhpcaaDoorWMore
import Derived.Lib.Hide
import Derived.Outline
import Derived.Recover
import Derived.WalkLawsBesides
import Derived.Laws.Panics
import Derived.Laws.Pointers
import Derived.Tactics2
import Derived.Deep.RegionWith
import Derived.WalkSpells
import Derived.WalkMore
import Derived.Laws.Cover3
import Derived.Deep.MidRow
import Derived.Deep.Upon
import Derived.ChangeKeysEq
import Derived.Test.YtfdgihdmhdhpcaaDoorGA
import Derived.Test.YtfdgihdmhdhpcaaDoorE1
import Derived.Test.YtfdgihdmhdhpcaaDoorQ1
import Derived.Test.YtfdgihdmhdhpcaaDoorQ2
import Derived.Test.YtfdgihdmhdhpcaaDoorQ3
import Derived.Test.YtfdgihdmhdhpcaaDoorM8
section
namespace Go.Proofs.YtfdgihdmhdhpcaaDoor.P
open Go.RowKit Go.Proofs.YtfdgihdmhdhpcaaDoorW.PrintWords Go.Proofs.YtfdgihdmhdhpcaaDoorW.PrintLast Go.Proofs.YtfdgihdmhdhpcaaDoorW.PrintMore
attribute [local go_sem] max2_int min2_int max_two min_two max_three min_three max_four min_four
set_option linter.unusedVariables false
set_option linter.unusedSimpArgs false
theorem ints_l0 (l : List Int) (hl : ∀ x ∈ l, I64 x) (hn : l.length < LIM) : ∀ (m i k : Nat) (acc : List Int), i + m = l.length → m + 13 ≤ k → acc.length + 10 * m < 140737488355328 →
    manifest_ints.l0 k acc l (l.length : Int) (i : Int) = some (acc ++ (l.drop i).flatMap encI)
  | 0, i, k, acc, h, hk, _ => by
    obtain ⟨k, rfl⟩ : ∃ n, k = n + 1 := ⟨k - 1, by omega⟩
    rw [manifest_ints.l0, if_neg (by omega), List.drop_eq_nil_of_le (by omega)]
    simp
  | m + 1, i, k, acc, h, hk, ha => by
    obtain ⟨k, rfl⟩ : ∃ n, k = n + 1 := ⟨k - 1, by omega⟩
    have hi : i < l.length := by omega
    have hle := encI_le l[i]
    have hrd : rd l (i : Int) = l[i] := by
      unfold rd
      simp [List.getD_eq_getElem?_getD, List.getElem?_eq_getElem hi]
    have hn2 : l.length < 1099511627776 := hn
    rw [manifest_ints.l0, if_pos (by omega), if_pos (by omega), if_pos (by omega), hrd, wire_Int_eq k _ (by omega) (hl _ (List.getElem_mem hi)), Option.bind_some, if_pos (by omega), wrap64_id (x := (i : Int) + 1) (by omega) (by omega)]
    have h1 := ints_l0 l hl hn m (i + 1) k (acc ++ encI l[i]) (by omega) (by omega) (by rw [List.length_append]; omega)
    rw [show ((i + 1 : Nat) : Int) = (i : Int) + 1 by omega] at h1
    rw [h1, List.drop_eq_getElem_cons hi, List.flatMap_cons, List.append_assoc]
theorem ints_eq (k : Nat) (l : List Int) (hl : ∀ x ∈ l, I64 x) (hn : l.length < LIM) (hk : l.length + 13 ≤ k) : manifest_ints.f k l = some (l.flatMap encI) := by
  have hn2 : l.length < 1099511627776 := hn
  have h := ints_l0 l hl hn l.length 0 k [] (by omega) hk (by simp; omega)
  rw [manifest_ints.f]
  rw [show ((0 : Nat) : Int) = 0 from rfl] at h
  rw [h]
  simp
theorem digests_eq (k : Nat) (hk : 12 ≤ k) (L : List S38) (h : L.length < LIM) : wire_Digests.f k L = some (encD L) := by
  have hle := encI_le (L.length : Int)
  have h2 : L.length < 1099511627776 := h
  rw [wire_Digests.f, wire_Int_eq k _ hk (I64_len h), Option.bind_some, if_pos (by omega)]
  rfl
theorem encD_len (L : List S38) : (encD L).length ≤ 10 + 16 * L.length := by
  have hle := encI_le (L.length : Int)
  rw [encD, List.length_append, digBytes_len]
  omega
theorem manifest_eq (k : Nat) (hk : 20 ≤ k) (x : S24) (h : ManOk x) : manifest_manifest.f k x.f0 x.f1 x.f2 x.f3 = some (encMan x) := by
  have h2 : x.f3.length < 1099511627776 := h.2.2.2.2
  have hl := encD_len x.f3
  have l0 := encI_le x.f0
  have l1 := encI_le x.f1
  have l2 := encI_le x.f2
  rw [manifest_manifest.f, ints_eq k _ (by simp; exact ⟨h.1, h.2.1, h.2.2.1⟩) (by simp [LIM]) (by simp; omega), Option.bind_some, digests_eq k (by omega) _ h.2.2.2.2, Option.bind_some]
  have e : List.flatMap encI [x.f0, x.f1, x.f2] = encI x.f0 ++ (encI x.f1 ++ encI x.f2) := by simp
  rw [e, if_pos (by simp only [List.length_append]; omega), encMan]
  simp
theorem keyset_eq (k : Nat) (hk : 20 ≤ k) (x : S30) (h : KeysOk x) : manifest_keyset.f k x.f0 x.f1 x.f2 x.f3 = some (encKeys x) := by
  have h2 : x.f3.length < 1099511627776 := h.2.2.2.2
  have hl := encD_len x.f3
  have l0 := encI_le x.f0
  have l1 := encI_le x.f1
  have l2 := encI_le x.f2
  rw [manifest_keyset.f, ints_eq k _ (by simp; exact ⟨h.1, h.2.1, h.2.2.1⟩) (by simp [LIM]) (by simp; omega), Option.bind_some, digests_eq k (by omega) _ h.2.2.2.2, Option.bind_some]
  have e : List.flatMap encI [x.f0, x.f1, x.f2] = encI x.f0 ++ (encI x.f1 ++ encI x.f2) := by simp
  rw [e, if_pos (by simp only [List.length_append]; omega), encKeys]
  simp
theorem signed_l0 (l : List S72) (hl : ∀ x ∈ l, SigOk x) (hn : l.length < LIM) : ∀ (m i k : Nat) (acc : List Int), i + m = l.length → m + 20 ≤ k → acc.length + ((l.drop i).flatMap encSig).length < 140737488355328 →
    manifest_signed.l0 k acc l (l.length : Int) (i : Int) = some (acc ++ (l.drop i).flatMap encSig)
  | 0, i, k, acc, h, hk, _ => by
    obtain ⟨k, rfl⟩ : ∃ n, k = n + 1 := ⟨k - 1, by omega⟩
    rw [manifest_signed.l0, if_neg (by omega), List.drop_eq_nil_of_le (by omega)]
    simp
  | m + 1, i, k, acc, h, hk, ha => by
    obtain ⟨k, rfl⟩ : ∃ n, k = n + 1 := ⟨k - 1, by omega⟩
    have hi : i < l.length := by omega
    have hrd : rd_T72 l (i : Int) = l[i] := by
      unfold rd_T72
      simp [List.getD_eq_getElem?_getD, List.getElem?_eq_getElem hi]
    obtain ⟨s0, s1, s2, s3⟩ := hl _ (List.getElem_mem hi)
    have hn2 : l.length < 1099511627776 := hn
    rw [List.drop_eq_getElem_cons hi, List.flatMap_cons] at ha ⊢
    rw [manifest_signed.l0, if_pos (by omega), if_pos (by omega), if_pos (by omega), hrd]
    generalize l[i] = y at s0 s1 s2 s3 ha ⊢
    have hel : (encSig y).length = (encI y.f0).length + ((encI y.f1.f0).length + ((encD y.f1.f1).length + (encD y.f1.f2).length)) := by
      rw [encSig, List.length_append, List.length_append, List.length_append]
    rw [List.length_append] at ha
    have e : List.flatMap encI [y.f0, y.f1.f0] = encI y.f0 ++ encI y.f1.f0 := by simp
    rw [ints_eq k _ (by simp; exact ⟨s0, s1⟩) (by simp [LIM]) (by simp; omega), Option.bind_some, e, if_pos (by rw [List.length_append]; omega), Option.bind_some, digests_eq k (by omega) _ s2.2, Option.bind_some,
      if_pos (by rw [List.length_append, List.length_append]; omega), Option.bind_some, digests_eq k (by omega) _ s3.2, Option.bind_some, if_pos (by rw [List.length_append, List.length_append, List.length_append]; omega), wrap64_id (x := (i : Int) + 1) (by omega) (by omega)]
    have h1 := signed_l0 l hl hn m (i + 1) k (acc ++ (encI y.f0 ++ encI y.f1.f0) ++ encD y.f1.f1 ++ encD y.f1.f2) (by omega) (by omega) (by simp only [List.length_append]; omega)
    rw [show ((i + 1 : Nat) : Int) = (i : Int) + 1 by omega] at h1
    rw [h1, encSig]
    simp
theorem signed_eq (k : Nat) (l : List S72) (h : SigsOk l) (hk : l.length + 20 ≤ k) (hlen : (encL encSig l).length < LIM) : manifest_signed.f k l = some (encL encSig l) := by
  have hlen2 : (encL encSig l).length < 1099511627776 := hlen
  rw [encL, List.length_append] at hlen2
  have h1 := signed_l0 l h.1 h.2 l.length 0 k (encI (l.length : Int)) (by omega) hk (by simp only [List.drop_zero]; omega)
  rw [show ((0 : Nat) : Int) = 0 from rfl] at h1
  have e : List.flatMap encI [(l.length : Int)] = encI (l.length : Int) := by simp
  rw [manifest_signed.f, ints_eq k _ (by simp; exact I64_len h.2) (by simp [LIM]) (by simp; omega), Option.bind_some, e, h1]
  rfl
set_option maxRecDepth 100000 in
theorem strs_l0 (l : List ByteArray) (hl : ∀ x ∈ l, StrOk x) (hn : l.length < LIM) : ∀ (m i k : Nat) (acc : List Int), i + m = l.length → m + 20 ≤ k → acc.length + ((l.drop i).flatMap encS).length < 140737488355328 →
    manifest_EncodeBundle.l0 k acc l (l.length : Int) (i : Int) = some (strOfNums (acc ++ (l.drop i).flatMap encS))
  | 0, i, k, acc, h, hk, _ => by
    obtain ⟨k, rfl⟩ : ∃ n, k = n + 1 := ⟨k - 1, by omega⟩
    rw [manifest_EncodeBundle.l0, if_neg (by omega), List.drop_eq_nil_of_le (by omega)]
    simp
  | m + 1, i, k, acc, h, hk, ha => by
    obtain ⟨k, rfl⟩ : ∃ n, k = n + 1 := ⟨k - 1, by omega⟩
    have hi : i < l.length := by omega
    have hrd : rdOf ByteArray.empty l (i : Int) = l[i] := by
      unfold rdOf
      simp [List.getD_eq_getElem?_getD, List.getElem?_eq_getElem hi]
    have hs := hl _ (List.getElem_mem hi)
    have hn2 : l.length < 1099511627776 := hn
    rw [List.drop_eq_getElem_cons hi, List.flatMap_cons] at ha ⊢
    rw [manifest_EncodeBundle.l0, if_pos (by omega), if_pos (by omega), if_pos (by omega), hrd]
    generalize l[i] = y at hs ha ⊢
    have hel : (encS y).length = (encI (y.size : Int)).length + y.size := by rw [encS, List.length_append, bytesOf_length]
    rw [List.length_append] at ha
    have hw : wire_Bytes.f k y = some (encS y) := by
      rw [wire_Bytes.f, wire_Int_eq k _ (by omega) (I64_len hs), Option.bind_some, if_pos (by omega)]
      rfl
    rw [hw, Option.bind_some, if_pos (by omega), wrap64_id (x := (i : Int) + 1) (by omega) (by omega)]
    have h1 := strs_l0 l hl hn m (i + 1) k (acc ++ encS y) (by omega) (by omega) (by simp only [List.length_append]; omega)
    rw [show ((i + 1 : Nat) : Int) = (i : Int) + 1 by omega] at h1
    rw [h1]
    simp
theorem EncodeBundle_eq (k : Nat) (x : S28) (h : BunOk x) (h1 : x.f1.length + 20 ≤ k) (h2 : x.f2.length + 20 ≤ k) (hlen : (encBun x).length < LIM) :
    manifest_EncodeBundle.f k x.f0.f0 x.f0.f1 x.f0.f2 x.f0.f3 x.f1 x.f2 = some (strOfNums (encBun x)) := by
  have hlen2 : (encBun x).length < 1099511627776 := hlen
  rw [encBun, List.length_append, List.length_append] at hlen2
  have e2 : (encL encS x.f2).length = (encI (x.f2.length : Int)).length + (x.f2.flatMap encS).length := by rw [encL, List.length_append]
  have e : List.flatMap encI [(x.f2.length : Int)] = encI (x.f2.length : Int) := by simp
  have hc : slices_Concat_byte_byte.f [encMan x.f0, encL encSig x.f1, encI (x.f2.length : Int)] = some (encMan x.f0 ++ (encL encSig x.f1 ++ encI (x.f2.length : Int))) := by
    rw [slices_Concat_byte_byte.f, if_pos ⟨by simp, by simp [sumLen]; omega⟩]
    simp
  have h3 := strs_l0 x.f2 h.2.2.1 h.2.2.2 x.f2.length 0 k (encMan x.f0 ++ (encL encSig x.f1 ++ encI (x.f2.length : Int))) (by omega) h2 (by simp only [List.drop_zero, List.length_append]; omega)
  rw [show ((0 : Nat) : Int) = 0 from rfl] at h3
  rw [manifest_EncodeBundle.f, manifest_eq k (by omega) _ h.1, Option.bind_some, signed_eq k _ h.2.1 h1 (by show _ < 1099511627776; omega), Option.bind_some, ints_eq k _ (by simp; exact I64_len h.2.2.2) (by simp [LIM]) (by simp; omega), Option.bind_some, e, hc, Option.bind_some, h3, encBun]
  simp [encL]
theorem EncodeRotation_eq (k : Nat) (x : S32) (h : RotOk x) (h1 : x.f1.length + 20 ≤ k) (hlen : (encRot x).length < LIM) :
    manifest_EncodeRotation.f k x.f0.f0 x.f0.f1 x.f0.f2 x.f0.f3 x.f1 = some (strOfNums (encRot x)) := by
  have hlen2 : (encRot x).length < 1099511627776 := hlen
  rw [encRot, List.length_append] at hlen2
  rw [manifest_EncodeRotation.f, keyset_eq k (by omega) _ h.1, Option.bind_some, signed_eq k _ h.2 h1 (by show _ < 1099511627776; omega), Option.bind_some, if_pos (by omega)]
  rfl
theorem Encode_eq (k : Nat) (hk : 20 ≤ k) (x : S24) (h : ManOk x) : manifest_Encode.f k x.f0 x.f1 x.f2 x.f3 = some (strOfNums (encMan x)) := by
  rw [manifest_Encode.f, manifest_eq k hk x h]
  rfl
theorem EncodeKeyset_eq (k : Nat) (hk : 20 ≤ k) (x : S30) (h : KeysOk x) : manifest_EncodeKeyset.f k x.f0 x.f1 x.f2 x.f3 = some (strOfNums (encKeys x)) := by
  rw [manifest_EncodeKeyset.f, keyset_eq k hk x h]
  rfl
end Go.Proofs.YtfdgihdmhdhpcaaDoor.P
end
section
namespace Go.Proofs.YtfdgihdmhdhpcaaDoor.P
open Go.RowKit Go.Proofs.YtfdgihdmhdhpcaaDoorW.PrintWords Go.Proofs.YtfdgihdmhdhpcaaDoorW.PrintLast Go.Proofs.YtfdgihdmhdhpcaaDoorW.PrintMore
attribute [local go_sem] max2_int min2_int max_two min_two max_three min_three max_four min_four
set_option linter.unusedVariables false
set_option linter.unusedSimpArgs false
theorem lim_le {n : Nat} (h : n < LIM) : n < 140737488355328 := by
  have : n < 1099511627776 := h
  omega
/-- The four decoders over a byte string that is an encoding, a cut of it, more than it, or any. -/
theorem dec_whole {α : Type} {P : α → Prop} {enc : α → List Int} {p : List Int → Int → Option (α × List Int × Int)} (h : Par P enc p) (z x : α) (hx : P x) (hl : (enc x).length < LIM) :
    ∃ t, p (bytesOf (strOfNums (enc x))) 0 = some t ∧ endP z t.1 t.2.1 t.2.2 = (x, 0) := by
  have h1 := h.ok x [] hx (fun _ h => absurd h (by simp)) (by simpa using hl)
  rw [List.append_nil] at h1
  exact ⟨_, by rw [bytesOf_str _ (h.bytes x hx)]; exact h1, rfl⟩
theorem dec_more {α : Type} {P : α → Prop} {enc : α → List Int} {p : List Int → Int → Option (α × List Int × Int)} (h : Par P enc p) (z x : α) (r : ByteArray) (hx : P x) (hr : 0 < r.size) (hl : (enc x).length + r.size < LIM) :
    ∃ t, p (enc x ++ bytesOf r) 0 = some t ∧ endP z t.1 t.2.1 t.2.2 = (z, 7) := by
  have h1 := h.ok x (bytesOf r) hx (bytesOf_bytes r) (by rw [bytesOf_length]; exact hl)
  refine ⟨_, h1, ?_⟩
  show endP z x (bytesOf r) 0 = _
  rw [endP, if_pos rfl, if_pos (by rw [bytesOf_length]; exact hr)]
theorem dec_cutoff {α : Type} {P : α → Prop} {enc : α → List Int} {p : List Int → Int → Option (α × List Int × Int)} (h : Par P enc p) (z x : α) (m : Nat) (hx : P x) (hm : m < (enc x).length) (hl : (enc x).length < LIM) :
    ∃ t, p ((enc x).take m) 0 = some t ∧ endP z t.1 t.2.1 t.2.2 = (z, 6) := by
  obtain ⟨y, l, e⟩ := h.pre x m hx hm hl
  refine ⟨_, e, ?_⟩
  show endP z y l 6 = _
  rw [endP, if_neg (by decide)]
/-- Whatever the string is: the decoder answers, and if it answers no error the string is the encoding. -/
theorem dec_any {α : Type} {P : α → Prop} {enc : α → List Int} {p : List Int → Int → Option (α × List Int × Int)} (h : Par P enc p) (z : α) (s : ByteArray) (hs : s.size < LIM) :
    ∃ t, p (bytesOf s) 0 = some t ∧ ((endP z t.1 t.2.1 t.2.2).2 = 0 → P (endP z t.1 t.2.1 t.2.2).1 ∧ strOfNums (enc (endP z t.1 t.2.1 t.2.2).1) = s ∧ (enc (endP z t.1 t.2.1 t.2.2).1).length = s.size) := by
  obtain ⟨x, r, e, h1, hb, hl⟩ := h.tot (bytesOf s) (bytesOf_bytes s) (by rw [bytesOf_length]; exact hs)
  refine ⟨_, h1, ?_⟩
  show (endP z x r e).2 = 0 → P (endP z x r e).1 ∧ strOfNums (enc (endP z x r e).1) = s ∧ (enc (endP z x r e).1).length = s.size
  unfold endP
  by_cases he : e = 0
  · subst he
    rw [if_pos rfl]
    by_cases hr : 0 < r.length
    · rw [if_pos hr]
      intro h
      exact absurd h (by simp)
    · rw [if_neg hr]
      intro _
      have hr0 : r = [] := List.eq_nil_of_length_eq_zero (by omega)
      subst hr0
      obtain ⟨hx, h2⟩ := h.can _ x [] (bytesOf_bytes s) (by rw [bytesOf_length]; exact hs) h1
      rw [List.append_nil] at h2
      exact ⟨hx, by rw [← h2, str_bytesOf], by rw [← h2, bytesOf_length]⟩
  · rw [if_neg he]
    intro h
    exact absurd h he
end Go.Proofs.YtfdgihdmhdhpcaaDoor.P
end
