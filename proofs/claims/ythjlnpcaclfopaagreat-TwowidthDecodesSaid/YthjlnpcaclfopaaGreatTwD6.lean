/-
  Chapter 12: the reference's Decode, walked: it returns what the program's returns.
  Condition: the widths are readable, at most a million.
-/
import Derived.Test.YthjlnpcaclfopaaGreatTwD5
namespace Go.Proofs.YthjlnpcaclfopaaGreat
open Go.RowKit

theorem ofList (l : List UInt8) : ∃ C : ByteArray, C.data.toList = l ∧ C.size = l.length := ⟨⟨l.toArray⟩, by simp, by simp [ByteArray.size]⟩
theorem ckB {f : Nat} {args : Array Value} {w : World} {l : List UInt8} {D : ByteArray} (hD : D.data.toList = l) (h : Calls Tryz.prog f args w fun e w' => e = .returned (strV l) ∧ Ext w w') :
    Calls Tryz.prog f args w fun e w' => e = .returned (.string D) ∧ Ext w w' :=
  h.mono fun e w' ⟨he, hx⟩ => ⟨by rw [he, ← hD]; simp only [strV, mk_toList], hx⟩
theorem ne_bytes {a b : ByteArray} (h : a.data.toList ≠ b.data.toList) : (a.toList == b.toList) = false := by rw [Lib.toList_data, Lib.toList_data, beq_eq_false_iff_ne]; exact h

/-- What is read of a symbol without fault: its characters, s (what is compared), and what stands without the check character. -/
structure Parts (k : Nat) (chars : List UInt8) (check : Bool) (s : List UInt8) : Prop where
  plain : check = false → Tw.textK k chars false = s
  size : check = true → 2 ≤ s.length ∧ s.length ≤ 2000
  same : check = true → ((Tw.compK k (Tw.textK k chars true) true = (chars, 0)) ↔ Tw.chkK k (Tw.textK k chars true) = s)

set_option maxRecDepth 100000 in
theorem parts_0 (bits : List Bool) (n : Nat) (check : Bool) (hn : bits.length + 1 = n * 10) (hn2 : 3 + check.toNat ≤ n) (hn3 : n ≤ 1002 + check.toNat) (hz : (Tw.readK 0 (Tw.elems bits)).2 = 0) :
    ∃ M, (Tw.readK 0 (Tw.elems bits)).1 = 42 :: (M ++ [42]) ∧ M.length = n - 2 ∧ Parts 0 (42 :: (M ++ [42])) check M ∧ Tw.textK 0 (42 :: (M ++ [42])) true = M.take (M.length - 1) := by
  obtain ⟨a, M, b, h1, h2, h3, h4, h5⟩ := read_parts Tw.c39 Tw.p39 [42] Cd.syms 9 (Tw.elems bits) n (by rw [elems_len]; omega) (by omega) (by decide) (by decide) hz
  have ha := idx42 a h3
  have hb := idx42 b h4
  subst ha hb
  have ht : Tw.textK 0 (42 :: (M ++ [42])) true = M.take (M.length - 1) := by
    show ((42 :: (M ++ [42])).drop 1).take ((42 :: (M ++ [42])).length - 2 - 1) = _
    rw [cut_inner 42 42 M _ (by simp)]
    congr 1
    simp
  refine ⟨M, h1, h2, ⟨fun _ => ?_, fun hc => ?_, fun hc => ?_⟩, ht⟩
  · show ((42 :: (M ++ [42])).drop 1).take ((42 :: (M ++ [42])).length - 2 - 0) = _
    rw [cut_inner 42 42 M _ (by simp)]
    simp
  · subst hc; simp at hn2 hn3; omega
  · subst hc
    simp at hn2 hn3
    rw [ht]
    exact cmp_0 M (by omega) (by omega) h5
set_option maxRecDepth 100000 in
theorem parts_1 (bits : List Bool) (n : Nat) (check : Bool) (hn : bits.length + 1 = n * 8) (hn2 : 2 + check.toNat ≤ n) (hn3 : n ≤ 1000 + check.toNat) (hz : (Tw.readK 1 (Tw.elems bits)).2 = 0) :
    (Tw.readK 1 (Tw.elems bits)).1.length = n ∧ Parts 1 (Tw.readK 1 (Tw.elems bits)).1 check (Tw.readK 1 (Tw.elems bits)).1 ∧ (check = true → ∀ c ∈ Tw.textK 1 (Tw.readK 1 (Tw.elems bits)).1 true, 0 ≤ Lib.indexByte Tw.cCb c) := by
  obtain ⟨a, M, b, h1, h2, h3, h4, h5⟩ := read_parts Tw.cCb Tw.pCb Tw.eCb Tw.dCb 7 (Tw.elems bits) n (by rw [elems_len]; omega) (by omega) (by decide) (by decide) hz
  have h1' : (Tw.readK 1 (Tw.elems bits)).1 = a :: (M ++ [b]) := h1
  rw [h1']
  have hlen : (a :: (M ++ [b])).length = M.length + 2 := by simp
  have ht : check = true → Tw.textK 1 (a :: (M ++ [b])) true = a :: (M.take (M.length - 1) ++ [b]) := by
    intro hc
    subst hc
    simp at hn2
    show (a :: (M ++ [b])).take ((a :: (M ++ [b])).length - 2) ++ (a :: (M ++ [b])).drop ((a :: (M ++ [b])).length - 1) = _
    rw [hlen]
    obtain ⟨q, hq⟩ : ∃ q, M.length = q + 1 := ⟨M.length - 1, by omega⟩
    rw [show M.length + 2 - 2 = q + 1 by omega, show M.length + 2 - 1 = M.length + 1 by omega, show M.length - 1 = q by omega, List.take_succ_cons, List.drop_succ_cons, List.take_append_of_le_length (by omega), List.drop_left]
    rfl
  refine ⟨by rw [hlen]; omega, ⟨fun _ => rfl, fun hc => ?_, fun hc => ?_⟩, fun hc => ?_⟩
  · subst hc; simp at hn2 hn3; rw [hlen]; omega
  · rw [ht hc]
    subst hc
    simp at hn2
    obtain ⟨c1, _⟩ := cmp_1 a b M (by omega) h3 h4 h5
    show Tw.compCb _ true = _ ↔ Tw.cbc _ = _
    rw [c1, Prod.mk.injEq]
    simp
  · rw [ht hc]
    subst hc
    simp at hn2
    exact (cmp_1 a b M (by omega) h3 h4 h5).2
set_option maxRecDepth 100000 in
theorem parts_2 (bits : List Bool) (h : Nat) (check : Bool) (hn : bits.length = 10 * h + 7) (hh1 : 1 ≤ h) (hh : h ≤ 500) (hz : (Tw.readK 2 (Tw.elems bits)).2 = 0) :
    (Tw.readK 2 (Tw.elems bits)).1.length = 2 * h ∧ Parts 2 (Tw.readK 2 (Tw.elems bits)).1 check (Tw.readK 2 (Tw.elems bits)).1 := by
  obtain ⟨h1, h2⟩ := itf_parts (Tw.elems bits) h (by rw [elems_len]; omega) hz
  have h1' : (Tw.readK 2 (Tw.elems bits)).1.length = 2 * h := h1
  have h2' : ∀ c ∈ (Tw.readK 2 (Tw.elems bits)).1, 0 ≤ Lib.indexByte Tw.cItf c := h2
  generalize (Tw.readK 2 (Tw.elems bits)).1 = l at *
  refine ⟨h1', ⟨fun _ => rfl, fun _ => by omega, fun _ => ?_⟩⟩
  have hl : (l.take (l.length - 1)).length = l.length - 1 := by rw [List.length_take]; omega
  have hc := cmp_2 (l.take (l.length - 1)) (by omega) (by omega) (by omega) (fun c hc => h2' c (List.mem_of_mem_take hc))
  show Tw.compItf (l.take (l.length - 1)) true = (l, 0) ↔ (Cd.app 1 (l.take (l.length - 1))).1 = l
  rw [hc, Prod.mk.injEq]
  simp
end Go.Proofs.YthjlnpcaclfopaaGreat
