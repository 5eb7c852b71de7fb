/-
  Maps from strings that are the call's own: sets, numbers.
  No condition.
-/
import Derived.Maps.OwnSet
import Derived.Maps.Views
import Derived.StringKeys
import Derived.Maps.RangeWalk
import Derived.Test.YtkpfehfcgpapiaaGreatDoorFmPa
import Derived.Test.YtkpfehfcgpapiaaGreatDoorRk
import Derived.Test.YtkpfehfcgpapiaaGreatDoorRow3
import Derived.Deep.Slices
import Derived.Deep.Fields
import Derived.ChangeSame
import Derived.OpenShut
import Derived.Lib.SmallJoins

/-
  Maps from strings that are the call's own: sets, numbers.
  No condition.
-/
namespace Go.Proofs.YtkpfehfcgpapiaaGreatDoor
open Go.RowKit Go.Maps Go

section
variable {P : Program} {w : World} {k e : TypeId} {T : TypeId}
def boolR : Value → Option (DataW Unit × List MemPlace)
  | .bool b => some (.lit (.bool b), [])
  | _ => none
theorem boolR_inv {v : Value} {z : DataW Unit × List MemPlace} (h : boolR v = some z) : ∃ b, v = .bool b ∧ z = (.lit (.bool b), []) := by
  cases v with
  | bool b => exact ⟨b, rfl, (Option.some.inj h).symm⟩
  | _ => cases h
theorem key_lit (s : List UInt8) : WideAt.IsKeyLit (.string s) := trivial
/-- The strings of a map to bools. -/
def SetB (P : Program) (k : TypeId) (w : World) (b : Nat) (met : List (List UInt8)) : Prop :=
  ∃ (D : DataW Unit), w.ownsMap P k boolR b met.length D ∧ ∀ s, D.atKey (.string s) (.lit (.bool false)) = .lit (.bool (met.contains s))
theorem keyS_of (hk : P.underlying k = some .string) (s : ByteArray) (hs : s.size ≤ maxLen) : keyOf P k (.string s) = some (.string s.data.toList) := WideMaps.keyOf_string_mk hk hs
theorem SetB.made (w : World) : SetB P k (w.alloc (.map #[] 0)) w.heap.size [] :=
  ⟨.map [], (World.ownsMap_made w P k boolR).mono (Nat.le_refl _), fun s => rfl⟩
theorem SetB.get {b : Nat} {met : List (List UInt8)} (h : SetB P k w b met) (hk : P.underlying k = some .string) (ht : P.underlying T = some (.map k e)) (hz : (zeroValue e).run P w = .ok (.bool false) w) (s : ByteArray) (hs : s.size ≤ maxLen) :
    (Instr.lookup T (.map (some b)) (.string s) false).run P w = .ok (.bool (met.contains s.data.toList)) w := by
  obtain ⟨D, ho, hat⟩ := h
  have h1 := hat s.data.toList
  obtain ⟨es, clock, hb, F, _, rfl⟩ := ho
  rcases Maps.fit_look false (string_keyed hk) ht hz hb F (keyS_of hk s hs) with ⟨hrun, _, h2⟩ | ⟨e0, y, _, _, hrun, hRv, h2, _⟩
  · rw [h2] at h1
    injection h1 with h1
    injection h1 with h1
    rw [← h1]; exact hrun
  · rw [h2] at h1
    obtain ⟨c, hc, rfl⟩ := boolR_inv hRv
    injection h1 with h1
    injection h1 with h1
    rw [← h1, ← hc]; exact hrun
theorem SetB.put {b : Nat} {met : List (List UInt8)} (h : SetB P k w b met) (hk : P.underlying k = some .string) (ht : P.underlying T = some (.map k e)) (s : ByteArray) (hs : s.size ≤ maxLen) (hn : met.length < maxLen) :
    ∃ w', (Instr.mapUpdate T (.map (some b)) (.string s) (.bool true)).run P w = .ok () w' ∧ SetB P k w' b (met ++ [s.data.toList]) ∧ w.grownBy w' (some b) := by
  obtain ⟨D, ho, hat⟩ := h
  obtain ⟨w', hrun, ho', ht'⟩ := ho.store (t := T) (string_keyed hk) ht hn (keyS_of hk s hs) (val := .bool true) (d := .lit (.bool true)) (ps := []) rfl
  refine ⟨w', hrun, ⟨_, by rw [List.length_append]; exact ho', fun s' => ?_⟩, ht'.grown⟩
  by_cases h : s' = s.data.toList
  · subst h
    rw [atKey_put_same ho.isMap (key_lit _)]
    simp
  · rw [atKey_put_other (fun h' => h (by injection h')), hat s']
    have e1 : (met ++ [s.data.toList]).contains s' = met.contains s' := by
      rw [Bool.eq_iff_iff, List.contains_iff_mem, List.contains_iff_mem, List.mem_append, List.mem_singleton]
      exact ⟨fun h2 => h2.resolve_right h, .inl⟩
    rw [e1]
/-- A map that is kept. -/
theorem SetB.kept {w' : World} {b : Nat} {met : List (List UInt8)} (h : SetB P k w b met) {row : Option Nat} (hg : w.grownBy w' row) (hne : row ≠ some b) : SetB P k w' b met := by
  obtain ⟨D, ho, hat⟩ := h
  exact ⟨D, ho.kept hg (fun e => hne e.symm), hat⟩
theorem SetB.lt {b : Nat} {met : List (List UInt8)} (h : SetB P k w b met) : b < w.heap.size := by
  obtain ⟨D, ho, _⟩ := h
  exact ho.lt

/-! ### Numbers under strings -/
def intR : Value → Option (DataW Unit × List MemPlace)
  | .int .i64 n => some (.lit (.int .i64 n), [])
  | _ => none
theorem intR_inv {v : Value} {z : DataW Unit × List MemPlace} (h : intR v = some z) : ∃ n, v = .int .i64 n ∧ z = (.lit (.int .i64 n), []) := by
  unfold intR at h
  split at h
  · exact ⟨_, rfl, (Option.some.inj h).symm⟩
  · cases h
/-- The numbers of a map from strings: what stands at a string. -/
def MapI (P : Program) (k : TypeId) (w : World) (b n : Nat) (f : List UInt8 → Option Int) : Prop :=
  ∃ (D : DataW Unit), w.ownsMap P k intR b n D ∧ ∀ s, Maps.has D (.string s) = (f s).isSome ∧ D.atKey (.string s) (.lit (.int .i64 0)) = .lit (.int .i64 ((f s).getD 0))
theorem MapI.made (w : World) : MapI P k (w.alloc (.map #[] 0)) w.heap.size 0 (fun _ => none) :=
  ⟨.map [], (World.ownsMap_made w P k intR).mono (Nat.le_refl _), fun s => ⟨rfl, rfl⟩⟩
theorem MapI.get {b n : Nat} {f : List UInt8 → Option Int} (h : MapI P k w b n f) (hk : P.underlying k = some .string) (ht : P.underlying T = some (.map k e)) (hz : (zeroValue e).run P w = .ok (.int .i64 0) w) (s : ByteArray) (hs : s.size ≤ maxLen) :
    (Instr.lookup T (.map (some b)) (.string s) true).run P w = .ok (.tuple #[.int .i64 ((f s.data.toList).getD 0), .bool (f s.data.toList).isSome]) w := by
  obtain ⟨D, ho, hat⟩ := h
  obtain ⟨h1, h2⟩ := hat s.data.toList
  obtain ⟨v, ps, hrun, hR⟩ := ho.look_ok (t := T) (string_keyed hk) ht hz (zd := .lit (.int .i64 0)) (zp := []) rfl (keyS_of hk s hs)
  obtain ⟨m, rfl, hm⟩ := intR_inv hR
  have hm1 := congrArg Prod.fst hm
  dsimp only at hm1
  rw [h2] at hm1
  injection hm1 with hm1
  injection hm1 with _ hm1
  rw [h1, ← hm1] at hrun
  exact hrun
theorem MapI.put {b n : Nat} {f : List UInt8 → Option Int} (h : MapI P k w b n f) (hk : P.underlying k = some .string) (ht : P.underlying T = some (.map k e)) (s : ByteArray) (hs : s.size ≤ maxLen) (m : Int) (hn : n < maxLen) :
    ∃ w', (Instr.mapUpdate T (.map (some b)) (.string s) (.int .i64 m)).run P w = .ok () w' ∧ MapI P k w' b (n + 1) (fun x => if x = s.data.toList then some m else f x) ∧ w.grownBy w' (some b) := by
  obtain ⟨D, ho, hat⟩ := h
  obtain ⟨w', hrun, ho', ht'⟩ := ho.store (t := T) (string_keyed hk) ht hn (keyS_of hk s hs) (val := .int .i64 m) (d := .lit (.int .i64 m)) (ps := []) rfl
  refine ⟨w', hrun, ⟨_, ho', fun s' => ?_⟩, ht'.grown⟩
  by_cases h : s' = s.data.toList
  · subst h
    rw [atKey_put_same ho.isMap (key_lit _), has_put_same ho.isMap (key_lit _)]
    dsimp only
    rw [if_pos rfl]
    exact ⟨rfl, rfl⟩
  · rw [atKey_put_other (fun h' => h (by injection h')), has_put_other (fun h' => h (by injection h'))]
    dsimp only
    rw [if_neg h]
    exact hat s'
theorem MapI.kept {w' : World} {b n : Nat} {f : List UInt8 → Option Int} (h : MapI P k w b n f) {row : Option Nat} (hg : w.grownBy w' row) (hne : row ≠ some b) : MapI P k w' b n f := by
  obtain ⟨D, ho, hat⟩ := h
  exact ⟨D, ho.kept hg (fun e => hne e.symm), hat⟩
theorem MapI.lt {b n : Nat} {f : List UInt8 → Option Int} (h : MapI P k w b n f) : b < w.heap.size := by
  obtain ⟨D, ho, _⟩ := h
  exact ho.lt
end
end Go.Proofs.YtkpfehfcgpapiaaGreatDoor

/-
  Chapter 51: forms in memory.
  No condition.
-/
namespace Go.Proofs.YtkpfehfcgpapiaaGreatDoor
open Go.RowKit

def strV (l : Fm.S) : Value := .string ⟨l.toArray⟩
def enc1 (l : Fm.S) : List Value := [strV l]
theorem enc1_len (l : Fm.S) : (enc1 l).length = 1 := rfl
theorem enc1_one (l : Fm.S) : ∀ v ∈ enc1 l, v.oneCell' = true := by
  intro v hv
  simp only [enc1, List.mem_singleton] at hv
  subst hv; rfl
theorem strV_mk (s : ByteArray) : strV s.data.toList = .string s := by unfold strV; cases s; simp
/-- A slice of strings that reads as a list, its length within its capacity. -/
def StrsR (w : World) (v : Value) (l : List Fm.S) : Prop := KSl 1 enc1 w v l ∧ ∃ a c, v = .slice a l.length c ∧ l.length ≤ c
theorem StrsR.ext {w w' : World} {v : Value} {l : List Fm.S} (h : StrsR w v l) (hx : Ext w w') : StrsR w' v l := ⟨h.1.ext hx, h.2⟩
theorem StrsR.form {w : World} {v : Value} {l : List Fm.S} (h : StrsR w v l) : ∃ a c, v = .slice a l.length c ∧ l.length ≤ c := h.2
theorem StrsR.nil (w : World) : StrsR w (.slice none 0 0) [] := ⟨KSl.nil _ _ _, none, 0, rfl, Nat.le_refl _⟩
/-- Where a slice lies: address, length, capacity. -/
abbrev Lie := Option Addr × Nat × Nat
def lieV (x : Lie) : Value := .slice x.1 x.2.1 x.2.2
def encF (x : Fm.Fld × Lie) : List Value := [strV x.1.name, encI x.1.op, encI x.1.mn, encI x.1.mx, encI x.1.ck, lieV x.2, .bool x.1.opt]
theorem encF_len (x : Fm.Fld × Lie) : (encF x).length = 7 := rfl
theorem encF_one (x : Fm.Fld × Lie) : ∀ v ∈ encF x, v.oneCell' = true := by
  intro v hv
  simp only [encF, List.mem_cons, List.not_mem_nil, or_false] at hv
  rcases hv with rfl | rfl | rfl | rfl | rfl | rfl | rfl <;> rfl
def encM (x : Fm.Sm × Lie) : List Value := [strV x.1.total, lieV x.2]
theorem encM_len (x : Fm.Sm × Lie) : (encM x).length = 2 := rfl
theorem encM_one (x : Fm.Sm × Lie) : ∀ v ∈ encM x, v.oneCell' = true := by
  intro v hv
  simp only [encM, List.mem_cons, List.not_mem_nil, or_false] at hv
  rcases hv with rfl | rfl <;> rfl
/-- Fields in memory. -/
def FldsR (w : World) (v : Value) (fs : List Fm.Fld) : Prop := ∃ gs : List (Fm.Fld × Lie), gs.map (·.1) = fs ∧ KSl 7 encF w v gs ∧ ∀ x ∈ gs, StrsR w (lieV x.2) x.1.chs
def SumsR (w : World) (v : Value) (ss : List Fm.Sm) : Prop := ∃ gs : List (Fm.Sm × Lie), gs.map (·.1) = ss ∧ KSl 2 encM w v gs ∧ ∀ x ∈ gs, StrsR w (lieV x.2) x.1.parts
theorem FldsR.ext {w w' : World} {v : Value} {fs : List Fm.Fld} (h : FldsR w v fs) (hx : Ext w w') : FldsR w' v fs := by
  obtain ⟨gs, h1, h2, h3⟩ := h
  exact ⟨gs, h1, h2.ext hx, fun x hx' => (h3 x hx').ext hx⟩
theorem SumsR.ext {w w' : World} {v : Value} {ss : List Fm.Sm} (h : SumsR w v ss) (hx : Ext w w') : SumsR w' v ss := by
  obtain ⟨gs, h1, h2, h3⟩ := h
  exact ⟨gs, h1, h2.ext hx, fun x hx' => (h3 x hx').ext hx⟩
theorem FldsR.form {w : World} {v : Value} {fs : List Fm.Fld} (h : FldsR w v fs) : ∃ a c, v = .slice a fs.length c := by
  obtain ⟨gs, rfl, h2, _⟩ := h
  obtain ⟨a, c, h⟩ := h2.form
  exact ⟨a, c, by rw [List.length_map]; exact h⟩
theorem SumsR.form {w : World} {v : Value} {ss : List Fm.Sm} (h : SumsR w v ss) : ∃ a c, v = .slice a ss.length c := by
  obtain ⟨gs, rfl, h2, _⟩ := h
  obtain ⟨a, c, h⟩ := h2.form
  exact ⟨a, c, by rw [List.length_map]; exact h⟩
/-- The cells of the field i. -/
theorem FldsR.at_ {w : World} {a : Option Addr} {n c : Nat} {fs : List Fm.Fld} (h : FldsR w (.slice a n c) fs) {i : Nat} {f : Fm.Fld} (hi : fs[i]? = some f) :
    ∃ b o la ln lc, a = some ⟨b, o, none⟩ ∧ b < w.heap.size ∧ StrsR w (.slice la ln lc) f.chs ∧ w.cell? ⟨b, o + i * 7, none⟩ = some (strV f.name) ∧ w.cell? ⟨b, o + i * 7 + 1, none⟩ = some (.int .i64 f.op) ∧ w.cell? ⟨b, o + i * 7 + 2, none⟩ = some (.int .i64 f.mn) ∧
      w.cell? ⟨b, o + i * 7 + 3, none⟩ = some (.int .i64 f.mx) ∧ w.cell? ⟨b, o + i * 7 + 4, none⟩ = some (.int .i64 f.ck) ∧ w.cell? ⟨b, o + i * 7 + 5, none⟩ = some (.slice la ln lc) ∧ w.cell? ⟨b, o + i * 7 + 6, none⟩ = some (.bool f.opt) := by
  obtain ⟨gs, rfl, h2, h3⟩ := h
  rw [List.getElem?_map] at hi
  obtain ⟨⟨g, la, ln, lc⟩, hg, rfl⟩ := Option.map_eq_some_iff.1 hi
  obtain ⟨b, o, rfl, hb, hc⟩ := h2.at_ hg
  exact ⟨b, o, la, ln, lc, rfl, hb, h3 _ (List.mem_of_getElem? hg), hc 0 (by omega), hc 1 (by omega), hc 2 (by omega), hc 3 (by omega), hc 4 (by omega), hc 5 (by omega), hc 6 (by omega)⟩
theorem SumsR.at_ {w : World} {a : Option Addr} {n c : Nat} {ss : List Fm.Sm} (h : SumsR w (.slice a n c) ss) {i : Nat} {r : Fm.Sm} (hi : ss[i]? = some r) :
    ∃ b o la ln lc, a = some ⟨b, o, none⟩ ∧ b < w.heap.size ∧ StrsR w (.slice la ln lc) r.parts ∧ w.cell? ⟨b, o + i * 2, none⟩ = some (strV r.total) ∧ w.cell? ⟨b, o + i * 2 + 1, none⟩ = some (.slice la ln lc) := by
  obtain ⟨gs, rfl, h2, h3⟩ := h
  rw [List.getElem?_map] at hi
  obtain ⟨⟨g, la, ln, lc⟩, hg, rfl⟩ := Option.map_eq_some_iff.1 hi
  obtain ⟨b, o, rfl, hb, hc⟩ := h2.at_ hg
  exact ⟨b, o, la, ln, lc, rfl, hb, h3 _ (List.mem_of_getElem? hg), hc 0 (by omega), hc 1 (by omega)⟩
/-- The cell of the string i. -/
theorem StrsR.cell {w : World} {a : Option Addr} {n c : Nat} {l : List Fm.S} (h : StrsR w (.slice a n c) l) {i : Nat} {s : Fm.S} (hi : l[i]? = some s) : ∃ b o, a = some ⟨b, o, none⟩ ∧ b < w.heap.size ∧ w.cell? ⟨b, o + i, none⟩ = some (strV s) := by
  obtain ⟨b, o, rfl, hb, hc⟩ := h.1.at_ hi
  refine ⟨b, o, rfl, hb, ?_⟩
  have := hc 0 (by omega)
  rw [Nat.mul_one, Nat.add_zero] at this
  exact this
/-- The same, as bytes. -/
theorem StrsR.bytes {w : World} {a : Option Addr} {n c : Nat} {l : List Fm.S} (h : StrsR w (.slice a n c) l) {i : Nat} {s : Fm.S} (hi : l[i]? = some s) : ∃ b o X, a = some ⟨b, o, none⟩ ∧ b < w.heap.size ∧ w.cell? ⟨b, o + i, none⟩ = some (.string X) ∧ X.data.toList = s := by
  obtain ⟨b, o, h1, h2, h3⟩ := h.cell hi
  exact ⟨b, o, ⟨s.toArray⟩, h1, h2, h3, rfl⟩
/-- A slice of the call's own is one that reads as a list. -/
theorem KOwn.strs {T : TypeId} {w : World} {B : Nat} {v : Value} {l : List Fm.S} (h : KOwn T 1 enc1 w B v l) : StrsR w v l := by
  refine ⟨h.sl enc1_len, ?_⟩
  rcases h.2 with ⟨hnil, h0⟩ | ⟨g, cap, cur, hv, _, _, h1, _⟩
  · exact ⟨none, 0, by rw [hnil, h0], by rw [h0]; exact Nat.le_refl _⟩
  · exact ⟨_, cap, hv, h1⟩
theorem snoc_take {α : Type} {l : List α} {i : Nat} {x : α} (h : l[i]? = some x) : l.take (i + 1) = l.take i ++ [x] := by
  rw [List.take_add_one, h]; rfl
theorem cons_drop {α : Type} {l : List α} {i : Nat} {x : α} (h : l[i]? = some x) : l.drop i = x :: l.drop (i + 1) := by
  obtain ⟨h1, h2⟩ := List.getElem?_eq_some_iff.1 h
  rw [List.drop_eq_getElem_cons h1, h2]
/-- The field i, in a later world: its parts by name. -/
theorem FldsR.here {w wr : World} {a : Option Addr} {n c : Nat} {fs : List Fm.Fld} (h : FldsR w (.slice a n c) fs) (hx : Ext w wr) {i : Nat} {f : Fm.Fld} (hi : fs[i]? = some f) :
    ∃ b o X op mn mx ck la ln lc l opt, a = some ⟨b, o, none⟩ ∧ b < w.heap.size ∧ f = ⟨X.data.toList, op, mn, mx, ck, l, opt⟩ ∧ StrsR w (.slice la ln lc) l ∧ wr.cell? ⟨b, o + i * 7, none⟩ = some (.string X) ∧ wr.cell? ⟨b, o + i * 7 + 1, none⟩ = some (.int .i64 op) ∧ wr.cell? ⟨b, o + i * 7 + 2, none⟩ = some (.int .i64 mn) ∧
      wr.cell? ⟨b, o + i * 7 + 3, none⟩ = some (.int .i64 mx) ∧ wr.cell? ⟨b, o + i * 7 + 4, none⟩ = some (.int .i64 ck) ∧ wr.cell? ⟨b, o + i * 7 + 5, none⟩ = some (.slice la ln lc) ∧ wr.cell? ⟨b, o + i * 7 + 6, none⟩ = some (.bool opt) := by
  obtain ⟨b, o, la, ln, lc, h1, hb, h2, c0, c1, c2, c3, c4, c5, c6⟩ := h.at_ hi
  obtain ⟨nm, op, mn, mx, ck, l, opt⟩ := f
  exact ⟨b, o, ⟨nm.toArray⟩, op, mn, mx, ck, la, ln, lc, l, opt, h1, hb, rfl, h2, (hx.cell hb).trans c0, (hx.cell hb).trans c1, (hx.cell hb).trans c2, (hx.cell hb).trans c3, (hx.cell hb).trans c4, (hx.cell hb).trans c5, (hx.cell hb).trans c6⟩
theorem SumsR.here {w wr : World} {a : Option Addr} {n c : Nat} {ss : List Fm.Sm} (h : SumsR w (.slice a n c) ss) (hx : Ext w wr) {i : Nat} {r : Fm.Sm} (hi : ss[i]? = some r) :
    ∃ b o X la ln lc l, a = some ⟨b, o, none⟩ ∧ b < w.heap.size ∧ r = ⟨X.data.toList, l⟩ ∧ StrsR w (.slice la ln lc) l ∧ wr.cell? ⟨b, o + i * 2, none⟩ = some (.string X) ∧ wr.cell? ⟨b, o + i * 2 + 1, none⟩ = some (.slice la ln lc) := by
  obtain ⟨b, o, la, ln, lc, h1, hb, h2, c0, c1⟩ := h.at_ hi
  obtain ⟨t, l⟩ := r
  exact ⟨b, o, ⟨t.toArray⟩, la, ln, lc, l, h1, hb, rfl, h2, (hx.cell hb).trans c0, (hx.cell hb).trans c1⟩
/-- The string i, in a later world. -/
theorem StrsR.here {w wr : World} {a : Option Addr} {n c : Nat} {l : List Fm.S} (h : StrsR w (.slice a n c) l) (hx : Ext w wr) {i : Nat} {s : Fm.S} (hi : l[i]? = some s) : ∃ b o X, a = some ⟨b, o, none⟩ ∧ b < w.heap.size ∧ s = X.data.toList ∧ wr.cell? ⟨b, o + i, none⟩ = some (.string X) := by
  obtain ⟨b, o, X, h1, hb, h2, h3⟩ := h.bytes hi
  exact ⟨b, o, X, h1, hb, h3.symm, (hx.cell hb).trans h2⟩
/-- A boxed struct in a later world. -/
theorem kept7 {w wr : World} {x0 x1 x2 x3 x4 x5 x6 : Value} {t : TypeId} (h : Ext (w.alloc (.cells #[x0, x1, x2, x3, x4, x5, x6] t)) wr) :
    wr.cell? ⟨w.heap.size, 0, none⟩ = some x0 ∧ wr.cell? ⟨w.heap.size, 1, none⟩ = some x1 ∧ wr.cell? ⟨w.heap.size, 2, none⟩ = some x2 ∧ wr.cell? ⟨w.heap.size, 3, none⟩ = some x3 ∧ wr.cell? ⟨w.heap.size, 4, none⟩ = some x4 ∧ wr.cell? ⟨w.heap.size, 5, none⟩ = some x5 ∧ wr.cell? ⟨w.heap.size, 6, none⟩ = some x6 := by
  have r := row_on (heap_alloc_new w _) h
  exact ⟨cell_at r rfl, cell_at r rfl, cell_at r rfl, cell_at r rfl, cell_at r rfl, cell_at r rfl, cell_at r rfl⟩
theorem kept3 {w wr : World} {x0 x1 x2 : Value} {t : TypeId} (h : Ext (w.alloc (.cells #[x0, x1, x2] t)) wr) :
    wr.cell? ⟨w.heap.size, 0, none⟩ = some x0 ∧ wr.cell? ⟨w.heap.size, 1, none⟩ = some x1 ∧ wr.cell? ⟨w.heap.size, 2, none⟩ = some x2 := by
  have r := row_on (heap_alloc_new w _) h
  exact ⟨cell_at r rfl, cell_at r rfl, cell_at r rfl⟩
theorem kept2 {w wr : World} {x0 x1 : Value} {t : TypeId} (h : Ext (w.alloc (.cells #[x0, x1] t)) wr) :
    wr.cell? ⟨w.heap.size, 0, none⟩ = some x0 ∧ wr.cell? ⟨w.heap.size, 1, none⟩ = some x1 := by
  have r := row_on (heap_alloc_new w _) h
  exact ⟨cell_at r rfl, cell_at r rfl⟩
/-- No string is longer than the reach. -/
def Short (n : Nat) (l : List Fm.S) : Prop := ∀ s ∈ l, s.length ≤ n
structure FrmB (n : Nat) (F : Fm.Frm) : Prop where
  name : F.name.length ≤ n
  flds : ∀ f ∈ F.fields, f.name.length ≤ n ∧ Short n f.chs
  sums : ∀ r ∈ F.sums, r.total.length ≤ n ∧ Short n r.parts
end Go.Proofs.YtkpfehfcgpapiaaGreatDoor

/-
  Slices that came in, element by element, as lists.
  No condition.
-/
namespace Go.Proofs.YtkpfehfcgpapiaaGreatDoor
open Go.RowKit Go.ChangeShapes Go.WideShapes Go.Deep

theorem ksl_of {α : Type} {k : Nat} {enc : α → List Value} (hk : ∀ x, (enc x).length = k) (hk0 : 0 < k) {w : World} {x : Addr} {len cap : Nat} (Pα : α → Prop)
    (h : ∀ i, i < len → ∃ y : α, Pα y ∧ ∀ c, c < k → w.cell? (x.add (i * k + c)) = (enc y)[c]?) : ∃ xs : List α, xs.length = len ∧ (∀ y ∈ xs, Pα y) ∧ KSl k enc w (.slice (some x) len cap) xs := by
  have key : ∀ m, m ≤ len → ∃ xs : List α, xs.length = m ∧ (∀ y ∈ xs, Pα y) ∧ ∀ i y, xs[i]? = some y → ∀ c, c < k → w.cell? (x.add (i * k + c)) = (enc y)[c]? := by
    intro m
    induction m with
    | zero => intro _; exact ⟨[], rfl, (fun y hy => by cases hy), (fun i y h => by simp at h)⟩
    | succ m ih =>
      intro hm
      obtain ⟨xs, h1, h2, h3⟩ := ih (by omega)
      obtain ⟨y, hy, hc⟩ := h m (by omega)
      refine ⟨xs ++ [y], by simp [h1], fun z hz => ?_, fun i z hz => ?_⟩
      · rcases List.mem_append.1 hz with hz | hz
        · exact h2 z hz
        · rw [List.mem_singleton.1 hz]; exact hy
      · by_cases hi : i < m
        · rw [List.getElem?_append_left (by omega)] at hz
          exact h3 i z hz
        · have hil := (List.getElem?_eq_some_iff.1 hz).1
          rw [List.length_append, h1] at hil
          have : i = m := by simp at hil; omega
          subst this
          rw [List.getElem?_append_right (by omega), h1] at hz
          simp only [Nat.sub_self, List.getElem?_cons_zero, Option.some.injEq] at hz
          subst hz
          exact hc
  obtain ⟨xs, h1, h2, h3⟩ := key len (Nat.le_refl _)
  refine ⟨xs, h1, h2, ?_⟩
  by_cases hl0 : len = 0
  · subst hl0
    exact .inl ⟨List.eq_nil_of_length_eq_zero h1, some x, cap, rfl⟩
  · obtain ⟨b, off, q⟩ := x
    obtain ⟨y, hy⟩ : ∃ y, xs[0]? = some y := ⟨_, List.getElem?_eq_getElem (by omega)⟩
    have h4 := h3 0 y hy 0 hk0
    have hx0 : (enc y)[0]? = some ((enc y)[0]'(by rw [hk]; exact hk0)) := List.getElem?_eq_getElem _
    rw [hx0] at h4
    have hq : q = none := by
      cases q with
      | none => rfl
      | some q => exact absurd h4 (by unfold Addr.add World.cell?; split <;> simp)
    subst hq
    refine .inr ⟨b, off, cap, by rw [h1], ?_, fun i z hz c hc => ?_⟩
    · rw [add_off] at h4
      rcases Nat.lt_or_ge b w.heap.size with h | h
      · exact h
      · simp [World.cell?, Array.getElem?_eq_none h] at h4
    · have := h3 i z hz c hc
      rw [add_off, ← Nat.add_assoc] at this
      exact this
section
variable {H : Type} {enc : TypeId × Value → H} {P : Program} {w : World} {base : Nat} {held : Bool}
/-- A slice of strings that came in. -/
theorem strs_came {t e : TypeId} {a : Option Addr} {len cap fuel : Nat} {x : DataW H × List MemPlace} (ht : P.underlying t = some (.slice e)) (he : P.underlying e = some .string) (hC : P.cellsOf e = 1)
    (e1 : List UInt8 → List Value) (he1 : ∀ s : ByteArray, e1 s.data.toList = [.string s]) (h1 : ∀ l, (e1 l).length = 1) (h : DataW.trod enc P w base (fun _ => true) held fuel t [.slice a len cap] = some x) :
    ∃ l : List (List UInt8), l.length = len ∧ (∀ s ∈ l, s.length ≤ maxLen) ∧ KSl 1 e1 w (.slice a len cap) l ∧ len ≤ maxLen ∧ len ≤ cap ∧ (a = none → cap = 0) := by
  rcases open_slice ht h with ⟨hcs, _⟩ | ⟨ad, l, c, m, n, D, Pl, hcs, _, hlc, hcm, hm, hx, hi⟩
  · simp only [List.cons.injEq, Value.slice.injEq, and_true] at hcs
    obtain ⟨rfl, rfl, rfl⟩ := hcs
    exact ⟨[], rfl, (fun s h => by cases h), KSl.nil _ _ _, Nat.zero_le _, Nat.le_refl _, fun _ => rfl⟩
  · simp only [List.cons.injEq, Value.slice.injEq, and_true] at hcs
    obtain ⟨rfl, rfl, rfl⟩ := hcs
    simp only [if_true] at hm
    subst hm
    rw [hC] at hi
    obtain ⟨xs, g1, g2, g3⟩ := ksl_of (enc := e1) h1 (by decide) (w := w) (x := ad) (len := len) (cap := m) (fun s => s.length ≤ maxLen) (fun i hil => by
      obtain ⟨cs', hc, htr⟩ := hi i (by omega)
      obtain ⟨_, hcl, hat⟩ := World.cells?_some hc
      match cs', hcl with
      | [c0], _ =>
        obtain ⟨s0, e0, _, z0⟩ := DataW.trod_string he htr
        simp only [List.cons.injEq, and_true] at e0
        subst e0
        refine ⟨s0.data.toList, by rw [len_data]; exact z0, fun c hc => ?_⟩
        obtain rfl : c = 0 := by omega
        have q0 := hat 0 (by omega)
        rw [Go.Deep.add_add] at q0
        rw [he1]
        simpa using q0)
    exact ⟨xs, g1, g2, g3, by omega, hlc, fun h => by cases h⟩
end
end Go.Proofs.YtkpfehfcgpapiaaGreatDoor

/-
  Chapter 51: forms that came in.
  No condition.
-/
namespace Go.Proofs.YtkpfehfcgpapiaaGreatDoor
open Go.RowKit Go.ChangeShapes Go.WideShapes Go.Deep Go.Joins

theorem enc1_mk (s : ByteArray) : enc1 s.data.toList = [.string s] := by unfold enc1; rw [strV_mk]
section
variable {H : Type} {enc : TypeId × Value → H} {P : Program} {w : World} {base : Nat} {held : Bool}
/-- What a slice's cell holds. -/
theorem slice_shape {t e : TypeId} {spare : Nat → Bool} {v : Value} {fuel : Nat} {x : DataW H × List MemPlace} (ht : P.underlying t = some (.slice e)) (h : DataW.trod enc P w base spare held fuel t [v] = some x) : ∃ a n c, v = .slice a n c := by
  rcases open_slice ht h with ⟨hcs, _⟩ | ⟨ad, l, c, m, n, D, Pl, hcs, _⟩
  · simp only [List.cons.injEq, and_true] at hcs
    exact ⟨none, 0, 0, hcs⟩
  · simp only [List.cons.injEq, and_true] at hcs
    exact ⟨some ad, l, c, hcs⟩
/-- The bounds of what came in. -/
def FldB (f : Fm.Fld) : Prop := f.name.length ≤ maxLen ∧ Short maxLen f.chs ∧ f.chs.length ≤ maxLen
def SmB (r : Fm.Sm) : Prop := r.total.length ≤ maxLen ∧ Short maxLen r.parts ∧ r.parts.length ≤ maxLen
/-- The seven cells of a field. -/
theorem fld_cells {e s i l b : TypeId} {f0 f1 f2 f3 f4 f5 f6 : Field} (he : P.underlying e = some (.struct #[f0, f1, f2, f3, f4, f5, f6])) (hone : oneCellFields P #[f0, f1, f2, f3, f4, f5, f6] = true)
    (h0 : P.underlying f0.type = some .string) (h1 : P.underlying f1.type = some (.int .i64)) (h2 : P.underlying f2.type = some (.int .i64)) (h3 : P.underlying f3.type = some (.int .i64)) (h4 : P.underlying f4.type = some (.int .i64)) (h5 : P.underlying f5.type = some (.slice s)) (hs : P.underlying s = some .string) (hsC : P.cellsOf s = 1) (h6 : P.underlying f6.type = some .bool)
    {fuel : Nat} {c0 c1 c2 c3 c4 c5 c6 : Value} {x : DataW H × List MemPlace} (h : DataW.trod enc P w base (fun _ => true) held fuel e [c0, c1, c2, c3, c4, c5, c6] = some x) :
    ∃ g : Fm.Fld × Lie, [c0, c1, c2, c3, c4, c5, c6] = encF g ∧ FldB g.1 ∧ StrsR w (lieV g.2) g.1.chs ∧ (g.2.1 = none → g.2.2.2 = 0) := by
  obtain ⟨xs, n, _, _, _, hlen, hf⟩ := DataW.trod_struct he h
  match xs, hlen with
  | [y0, y1, y2, y3, y4, y5, y6], _ =>
    obtain ⟨o0, k0⟩ := hone_of hone 0 f0 rfl
    obtain ⟨o1, k1⟩ := hone_of hone 1 f1 rfl
    obtain ⟨o2, k2⟩ := hone_of hone 2 f2 rfl
    obtain ⟨o3, k3⟩ := hone_of hone 3 f3 rfl
    obtain ⟨o4, k4⟩ := hone_of hone 4 f4 rfl
    obtain ⟨o5, k5⟩ := hone_of hone 5 f5 rfl
    obtain ⟨o6, k6⟩ := hone_of hone 6 f6 rfl
    have t0 : DataW.trod enc P w base (fun _ => true) held n f0.type [c0] = some y0 := by simpa [o0, k0] using hf 0 f0 rfl
    have t1 : DataW.trod enc P w base (fun _ => true) held n f1.type [c1] = some y1 := by simpa [o1, k1] using hf 1 f1 rfl
    have t2 : DataW.trod enc P w base (fun _ => true) held n f2.type [c2] = some y2 := by simpa [o2, k2] using hf 2 f2 rfl
    have t3 : DataW.trod enc P w base (fun _ => true) held n f3.type [c3] = some y3 := by simpa [o3, k3] using hf 3 f3 rfl
    have t4 : DataW.trod enc P w base (fun _ => true) held n f4.type [c4] = some y4 := by simpa [o4, k4] using hf 4 f4 rfl
    have t5 : DataW.trod enc P w base (fun _ => true) held n f5.type [c5] = some y5 := by simpa [o5, k5] using hf 5 f5 rfl
    have t6 : DataW.trod enc P w base (fun _ => true) held n f6.type [c6] = some y6 := by simpa [o6, k6] using hf 6 f6 rfl
    obtain ⟨s0, e0, _, z0⟩ := DataW.trod_string h0 t0
    obtain ⟨n1, e1, _, _⟩ := DataW.trod_int h1 t1
    obtain ⟨n2, e2, _, _⟩ := DataW.trod_int h2 t2
    obtain ⟨n3, e3, _, _⟩ := DataW.trod_int h3 t3
    obtain ⟨n4, e4, _, _⟩ := DataW.trod_int h4 t4
    obtain ⟨b6, e6, _⟩ := DataW.trod_bool h6 t6
    obtain ⟨a5, l5, q5, rfl⟩ := slice_shape h5 t5
    obtain ⟨chs, g1, g2, g3, g4, g5, g6⟩ := strs_came h5 hs hsC enc1 enc1_mk enc1_len t5
    simp only [List.cons.injEq, and_true] at e0 e1 e2 e3 e4 e6
    subst e0 e1 e2 e3 e4 e6
    refine ⟨(⟨s0.data.toList, n1, n2, n3, n4, chs, b6⟩, (a5, l5, q5)), ?_, ⟨by rw [len_data]; exact z0, g2, by rw [g1]; exact g4⟩, ⟨g3, a5, q5, by rw [g1]; rfl, by rw [g1]; exact g5⟩, g6⟩
    unfold encF
    dsimp only
    rw [strV_mk]
    rfl
/-- A slice of fields that came in. -/
theorem flds_came {t e s : TypeId} {f0 f1 f2 f3 f4 f5 f6 : Field} (ht : P.underlying t = some (.slice e)) (he : P.underlying e = some (.struct #[f0, f1, f2, f3, f4, f5, f6])) (hone : oneCellFields P #[f0, f1, f2, f3, f4, f5, f6] = true) (hC : P.cellsOf e = 7)
    (h0 : P.underlying f0.type = some .string) (h1 : P.underlying f1.type = some (.int .i64)) (h2 : P.underlying f2.type = some (.int .i64)) (h3 : P.underlying f3.type = some (.int .i64)) (h4 : P.underlying f4.type = some (.int .i64)) (h5 : P.underlying f5.type = some (.slice s)) (hs : P.underlying s = some .string) (hsC : P.cellsOf s = 1) (h6 : P.underlying f6.type = some .bool)
    {a : Option Addr} {len cap fuel : Nat} {x : DataW H × List MemPlace} (h : DataW.trod enc P w base (fun _ => true) held fuel t [.slice a len cap] = some x) :
    ∃ fs : List Fm.Fld, fs.length = len ∧ (∀ f ∈ fs, FldB f) ∧ FldsR w (.slice a len cap) fs ∧ len ≤ maxLen ∧ (a = none → cap = 0) := by
  rcases open_slice ht h with ⟨hcs, _⟩ | ⟨ad, l, c, m, n, D, Pl, hcs, _, hlc, hcm, hm, hx, hi⟩
  · simp only [List.cons.injEq, Value.slice.injEq, and_true] at hcs
    obtain ⟨rfl, rfl, rfl⟩ := hcs
    exact ⟨[], rfl, (fun s h => by cases h), ⟨[], rfl, KSl.nil _ _ _, fun x hx => by cases hx⟩, Nat.zero_le _, fun _ => rfl⟩
  · simp only [List.cons.injEq, Value.slice.injEq, and_true] at hcs
    obtain ⟨rfl, rfl, rfl⟩ := hcs
    simp only [if_true] at hm
    subst hm
    rw [hC] at hi
    obtain ⟨xs, g1, g2, g3⟩ := ksl_of (enc := encF) encF_len (by decide) (w := w) (x := ad) (len := len) (cap := m) (fun g => FldB g.1 ∧ StrsR w (lieV g.2) g.1.chs) (fun i hil => by
      obtain ⟨cs', hc, htr⟩ := hi i (by omega)
      obtain ⟨_, hcl, hat⟩ := World.cells?_some hc
      match cs', hcl with
      | [c0, c1, c2, c3, c4, c5, c6], _ =>
        obtain ⟨g, hg, hb, hs', _⟩ := fld_cells (s := s) (i := s) (l := s) (b := s) he hone h0 h1 h2 h3 h4 h5 hs hsC h6 htr
        refine ⟨g, ⟨hb, hs'⟩, fun c hc => ?_⟩
        have q := hat c hc
        rw [Go.Deep.add_add, hg] at q
        exact q)
    exact ⟨xs.map (·.1), by rw [List.length_map, g1], fun f hf => by obtain ⟨g, hg, rfl⟩ := List.mem_map.1 hf; exact (g2 g hg).1, ⟨xs, rfl, g3, fun g hg => (g2 g hg).2⟩, by omega, fun h => by cases h⟩
/-- A slice of sum rules that came in. -/
theorem sums_came {t e s : TypeId} {f0 f1 : Field} (ht : P.underlying t = some (.slice e)) (he : P.underlying e = some (.struct #[f0, f1])) (hone : oneCellFields P #[f0, f1] = true) (hC : P.cellsOf e = 2)
    (h0 : P.underlying f0.type = some .string) (h1 : P.underlying f1.type = some (.slice s)) (hs : P.underlying s = some .string) (hsC : P.cellsOf s = 1)
    {a : Option Addr} {len cap fuel : Nat} {x : DataW H × List MemPlace} (h : DataW.trod enc P w base (fun _ => true) held fuel t [.slice a len cap] = some x) :
    ∃ ss : List Fm.Sm, ss.length = len ∧ (∀ r ∈ ss, SmB r) ∧ SumsR w (.slice a len cap) ss ∧ len ≤ maxLen ∧ (a = none → cap = 0) := by
  rcases open_slice ht h with ⟨hcs, _⟩ | ⟨ad, l, c, m, n, D, Pl, hcs, _, hlc, hcm, hm, hx, hi⟩
  · simp only [List.cons.injEq, Value.slice.injEq, and_true] at hcs
    obtain ⟨rfl, rfl, rfl⟩ := hcs
    exact ⟨[], rfl, (fun s h => by cases h), ⟨[], rfl, KSl.nil _ _ _, fun x hx => by cases hx⟩, Nat.zero_le _, fun _ => rfl⟩
  · simp only [List.cons.injEq, Value.slice.injEq, and_true] at hcs
    obtain ⟨rfl, rfl, rfl⟩ := hcs
    simp only [if_true] at hm
    subst hm
    rw [hC] at hi
    obtain ⟨xs, g1, g2, g3⟩ := ksl_of (enc := encM) encM_len (by decide) (w := w) (x := ad) (len := len) (cap := m) (fun g => SmB g.1 ∧ StrsR w (lieV g.2) g.1.parts) (fun i hil => by
      obtain ⟨cs', hc, htr⟩ := hi i (by omega)
      obtain ⟨_, hcl, hat⟩ := World.cells?_some hc
      match cs', hcl with
      | [c0, c1], _ =>
        obtain ⟨ys, n', _, _, _, hlen, hf⟩ := DataW.trod_struct he htr
        match ys, hlen with
        | [y0, y1], _ =>
          obtain ⟨o0, k0⟩ := hone_of hone 0 f0 rfl
          obtain ⟨o1, k1⟩ := hone_of hone 1 f1 rfl
          have t0 : DataW.trod enc P w base (fun _ => true) held n' f0.type [c0] = some y0 := by simpa [o0, k0] using hf 0 f0 rfl
          have t1 : DataW.trod enc P w base (fun _ => true) held n' f1.type [c1] = some y1 := by simpa [o1, k1] using hf 1 f1 rfl
          obtain ⟨s0, e0, _, z0⟩ := DataW.trod_string h0 t0
          simp only [List.cons.injEq, and_true] at e0
          subst e0
          obtain ⟨a1, l1, q1, rfl⟩ := slice_shape h1 t1
          obtain ⟨ps, b1, b2, b3, b4, b5, b6⟩ := strs_came h1 hs hsC enc1 enc1_mk enc1_len t1
          refine ⟨(⟨s0.data.toList, ps⟩, (a1, l1, q1)), ⟨⟨by rw [len_data]; exact z0, b2, by rw [b1]; exact b4⟩, ⟨b3, a1, q1, by rw [b1]; rfl, by rw [b1]; exact b5⟩⟩, fun c hc => ?_⟩
          have q := hat c hc
          rw [Go.Deep.add_add] at q
          have hg : encM (⟨s0.data.toList, ps⟩, (a1, l1, q1)) = [.string s0, .slice a1 l1 q1] := by
            unfold encM
            dsimp only
            rw [strV_mk]
            rfl
          rw [hg]
          exact q)
    exact ⟨xs.map (·.1), by rw [List.length_map, g1], fun f hf => by obtain ⟨g, hg, rfl⟩ := List.mem_map.1 hf; exact (g2 g hg).1, ⟨xs, rfl, g3, fun g hg => (g2 g hg).2⟩, by omega, fun h => by cases h⟩
end
end Go.Proofs.YtkpfehfcgpapiaaGreatDoor
