/-
  Chapter 12: the three symbologies, and 'find', walked.
  No condition.
-/
import Derived.Test.YthjlnpcaclfopaaGreatTwW8
namespace Go.Proofs.YthjlnpcaclfopaaGreat
open Go.RowKit

theorem Ext.cells {W w1 : World} (hb : Ext W w1) : (∀ b o, b < W.heap.size → w1.cell? ⟨b, o, none⟩ = W.cell? ⟨b, o, none⟩) ∧ (∀ b o, b < W.heap.size → w1.frozen? ⟨b, o, none⟩ = W.frozen? ⟨b, o, none⟩) :=
  ⟨fun b o h => hb.cell (p := ⟨b, o, none⟩) h, fun b o h => hb.frozen (p := ⟨b, o, none⟩) h⟩

/-- The functions that a symbology's value holds. -/
structure SymFns where
  z : Nat
  pf : Nat
  pc : Array Value
  hf : Nat
  hc : Array Value
  cf : Nat
  cc : Array Value
  mf : Nat
  df : Nat
  dc : Array Value
  rf : Nat
  rr : Array Value
  rc : Array Value
  tf : Nat
def SymFns.val (F : SymFns) : Value :=
  .agg #[.int .i64 (F.z : Int), .func (.func F.pf) #[] F.pc, .func (.func F.hf) #[] F.hc, .func (.func F.cf) #[] F.cc, .func (.func F.mf) #[] #[], .func (.func F.df) #[] F.dc, .func (.func F.rf) F.rr F.rc, .func (.func F.tf) #[] #[]]

/-- What may be drawn. -/
def Drawable (k : Nat) (l : List UInt8) : Prop := l.length ≤ 10000 ∧ (k = 2 → l.length % 2 = 0 ∧ ∀ c ∈ l, (Tw.pat Tw.cItf Tw.pItf 5 c).1.length = 5)
def least3 (k : Nat) : Nat := 3 - k

/-- The blocks from B on are as they were. -/
def Above (B : Nat) (w w' : World) : Prop := w.heap.size ≤ w'.heap.size ∧ ∀ b o, B ≤ b → b < w.heap.size → w'.cell? ⟨b, o, none⟩ = w.cell? ⟨b, o, none⟩
theorem Above.refl (B : Nat) (w : World) : Above B w w := ⟨Nat.le_refl _, fun _ _ _ _ => rfl⟩
theorem Above.of_ext {w w' : World} (B : Nat) (h : Ext w w') : Above B w w' := ⟨h.size, fun b o _ hb => h.cell (p := ⟨b, o, none⟩) hb⟩
theorem Above.trans {B : Nat} {a b c : World} (h : Above B a b) (k : Above B b c) : Above B a c :=
  ⟨Nat.le_trans h.1 k.1, fun x o h1 h2 => by rw [k.2 x o h1 (Nat.lt_of_lt_of_le h2 h.1)]; exact h.2 x o h1 h2⟩
theorem Above.setCell {B : Nat} {w w' : World} (h : Above B w w') {p : Addr} (hp : p.block < B) (u : Value) : Above B w (w'.setCell p u) := by
  refine ⟨by simpa using h.1, fun b o h1 h2 => ?_⟩
  rw [World.cell?_setCell_other _ _ _ _ (by intro e; subst e; simp only at hp; omega)]
  exact h.2 b o h1 h2
theorem AlphAt.above {B : Nat} {w w' : World} {bc bp bz : Nat} {cs ps : ByteArray} {z : Nat} (h : AlphAt w bc bp bz cs ps z) (hk : Above B w w') (h1 : B ≤ bc) (h2 : B ≤ bp) (h3 : B ≤ bz) : AlphAt w' bc bp bz cs ps z :=
  ⟨by rw [hk.2 _ _ h1 h.lc]; exact h.c, by rw [hk.2 _ _ h2 h.lp]; exact h.p, by rw [hk.2 _ _ h3 h.lz]; exact h.z, Nat.lt_of_lt_of_le h.lc hk.1, Nat.lt_of_lt_of_le h.lp hk.1, Nat.lt_of_lt_of_le h.lz hk.1⟩
theorem SpacedAt.above {B : Nat} {w w' : World} {z bc bp bz ba be bi bl bm : Nat} {edge inner : ByteArray} {least most : Nat} (h : SpacedAt w z bc bp bz ba be bi bl bm edge inner least most)
    (hk : Above B w w') (h1 : B ≤ ba) (h2 : B ≤ be) (h3 : B ≤ bi) (h4 : B ≤ bl) (h5 : B ≤ bm) : SpacedAt w' z bc bp bz ba be bi bl bm edge inner least most :=
  ⟨by rw [hk.2 _ _ h1 h.la]; exact h.a0, by rw [hk.2 _ _ h1 h.la]; exact h.a1, by rw [hk.2 _ _ h1 h.la]; exact h.a2,
    by rw [hk.2 _ _ h2 h.le]; exact h.e, by rw [hk.2 _ _ h3 h.li]; exact h.i, by rw [hk.2 _ _ h4 h.ll]; exact h.l, by rw [hk.2 _ _ h5 h.lm]; exact h.m,
    Nat.lt_of_lt_of_le h.la hk.1, Nat.lt_of_lt_of_le h.le hk.1, Nat.lt_of_lt_of_le h.li hk.1, Nat.lt_of_lt_of_le h.ll hk.1, Nat.lt_of_lt_of_le h.lm hk.1⟩
theorem ItfAt.above {B : Nat} {w w' : World} {bc bp bz ba bn : Nat} (h : ItfAt w bc bp bz ba bn) (hk : Above B w w') (h1 : B ≤ ba) (h2 : B ≤ bn) : ItfAt w' bc bp bz ba bn :=
  ⟨by rw [hk.2 _ _ h1 h.la]; exact h.a0, by rw [hk.2 _ _ h1 h.la]; exact h.a1, by rw [hk.2 _ _ h2 h.ln]; exact h.n, Nat.lt_of_lt_of_le h.la hk.1, Nat.lt_of_lt_of_le h.ln hk.1⟩

def Enters (f : Nat) : Prop := ∀ xs w, (callFunc f xs).run Tryz.prog w = .ok (.enter f xs) w
def SymFns.Enter (F : SymFns) : Prop := Enters F.pf ∧ Enters F.cf ∧ Enters F.mf ∧ Enters F.df ∧ Enters F.rf ∧ Enters F.tf

structure SymAt (B : Nat) (w : World) (k : Nat) (F : SymFns) : Prop where
  pat : ∀ w', Above B w w' → ∀ c : UInt8, Calls Tryz.prog F.pf (#[.int .u8 (c.toNat : Int)] ++ F.pc) w' fun e w'' => e = .returned (.tuple #[strV (Tw.patK k c).1, .bool (Tw.patK k c).2]) ∧ w' = w''
  counts : ∀ w', Above B w w' → ∀ (n : Nat) (check : Bool), n ≤ 9223372036854775806 → Calls Tryz.prog F.cf (#[.int .i64 (n : Int), .bool check] ++ F.cc) w' fun e w'' => e = .returned (.bool (Tw.countsK k n check)) ∧ w' = w''
  comp : ∀ w', Above B w w' → ∀ (s : ByteArray) (check : Bool), s.size ≤ 1000000 → Calls Tryz.prog F.mf #[.string s, .bool check] w' fun e w'' => e = .returned (.tuple #[strV (Tw.compK k s.data.toList check).1, .int .i64 (Tw.compK k s.data.toList check).2]) ∧ Ext w' w''
  draw : ∀ w', Above B w w' → ∀ s : ByteArray, Drawable k s.data.toList → Calls Tryz.prog F.df (#[.string s] ++ F.dc) w' fun e w'' => e = .returned (strV (Tw.drawK k s.data.toList)) ∧ Ext w' w''
  read : ∀ w', Above B w w' → ∀ (s : ByteArray) (check : Bool), Tw.countsK k s.size check = true → Calls Tryz.prog F.rf (F.rr ++ #[.string s] ++ F.rc) w' fun e w'' => e = .returned (.tuple #[strV (Tw.readK k s.data.toList).1, .int .i64 (Tw.readK k s.data.toList).2]) ∧ Ext w' w''
  text : ∀ w', Above B w w' → ∀ (s : ByteArray) (check : Bool), s.size ≤ 1000000 → least3 k ≤ s.size → Calls Tryz.prog F.tf #[.string s, .bool check] w' fun e w'' => e = .returned (strV (Tw.textK k s.data.toList check)) ∧ Ext w' w''
  ent : F.Enter
theorem SymAt.above {B : Nat} {w w' : World} {k : Nat} {F : SymFns} (h : SymAt B w k F) (hx : Above B w w') : SymAt B w' k F :=
  ⟨fun w1 h1 => h.pat w1 (hx.trans h1), fun w1 h1 => h.counts w1 (hx.trans h1), fun w1 h1 => h.comp w1 (hx.trans h1), fun w1 h1 => h.draw w1 (hx.trans h1), fun w1 h1 => h.read w1 (hx.trans h1), fun w1 h1 => h.text w1 (hx.trans h1), h.ent⟩
theorem SymAt.ext {B : Nat} {w w' : World} {k : Nat} {F : SymFns} (h : SymAt B w k F) (hx : Ext w w') : SymAt B w' k F := h.above (Above.of_ext B hx)

def fnsSp (z bc bp bz ba be bi bl bm m t : Nat) : SymFns :=
  { z := z, pf := 71, pc := #[.pointer (some ⟨bc, 0, none⟩), .pointer (some ⟨bp, 0, none⟩), .pointer (some ⟨bz, 0, none⟩)],
    hf := 72, hc := #[.pointer (some ⟨bc, 0, none⟩), .pointer (some ⟨bp, 0, none⟩), .pointer (some ⟨bz, 0, none⟩)],
    cf := 67, cc := #[.pointer (some ⟨ba, 0, none⟩), .pointer (some ⟨bl, 0, none⟩), .pointer (some ⟨bm, 0, none⟩)], mf := m,
    df := 68, dc := #[.pointer (some ⟨ba, 0, none⟩)], rf := 70, rr := #[], rc := #[.pointer (some ⟨ba, 0, none⟩), .pointer (some ⟨be, 0, none⟩), .pointer (some ⟨bi, 0, none⟩)], tf := t }
def fnsItf (bc bp bz ba bn : Nat) : SymFns :=
  { z := 5, pf := 71, pc := #[.pointer (some ⟨bc, 0, none⟩), .pointer (some ⟨bp, 0, none⟩), .pointer (some ⟨bz, 0, none⟩)],
    hf := 72, hc := #[.pointer (some ⟨bc, 0, none⟩), .pointer (some ⟨bp, 0, none⟩), .pointer (some ⟨bz, 0, none⟩)],
    cf := 59, cc := #[.pointer (some ⟨bn, 0, none⟩), .pointer (some ⟨ba, 0, none⟩)], mf := 60,
    df := 61, dc := #[.pointer (some ⟨ba, 0, none⟩)], rf := 62, rr := #[alphV 5 bc bp bz], rc := #[], tf := 63 }

theorem symAt_39 (B : Nat) (w : World) (bc bp bz ba be bi bl bm : Nat) (g1 : B ≤ bc ∧ B ≤ bp ∧ B ≤ bz) (g2 : B ≤ ba ∧ B ≤ be ∧ B ≤ bi ∧ B ≤ bl ∧ B ≤ bm) (cs ps edge inner : ByteArray) (hS : SpacedAt w 9 bc bp bz ba be bi bl bm edge inner 1 1000) (hA : AlphAt w bc bp bz cs ps 9)
    (h1 : cs.data.toList = Tw.c39) (h2 : ps.data.toList = Tw.p39) (h3 : edge.data.toList = [42]) (h4 : inner.data.toList = Cd.syms) :
    SymAt B w 0 (fnsSp 9 bc bp bz ba be bi bl bm 53 56) := by
  have s1 : cs.size = 44 := by rw [size_of_toList h1]; rfl
  have s2 : ps.size = 396 := by rw [size_of_toList h2]; decide +kernel
  refine ⟨fun w' hx c => ?_, fun w' hx n check hn => ?_, fun w' hx s check hs => ?_, fun w' hx s hd => ?_, fun w' hx s check hc => ?_, fun w' hx s check hs hl => ?_, ?_⟩
  · have := pattern_any cs ps 9 c bc bp bz w' (hA.above hx g1.1 g1.2.1 g1.2.2) (by omega) (by omega) (by omega)
    rw [h1, h2] at this
    exact this
  · exact counts_any 9 bc bp bz ba be bi bl bm edge inner 1 1000 n check w' (by omega) (hS.above hx g2.1 g2.2.1 g2.2.2.1 g2.2.2.2.1 g2.2.2.2.2) (by omega) (by omega) hn
  · exact comp39_any s check w' hs
  · have := draw_any cs ps 9 bc bp bz ba be bi bl bm edge inner 1 1000 s w' (hS.above hx g2.1 g2.2.1 g2.2.2.1 g2.2.2.2.1 g2.2.2.2.2) (hA.above hx g1.1 g1.2.1 g1.2.2) (by omega) (by omega) (by omega) (by have := hd.1; rw [len_data] at this; omega)
    rw [h1, h2] at this
    exact this
  · have hc' : Tw.counts 9 1 1000 s.size check = true := hc
    unfold Tw.counts at hc'
    simp only [Bool.and_eq_true, decide_eq_true_eq] at hc'
    have hb : check.toNat ≤ 1 := Bool.toNat_le check
    have := read_9 cs ps bc bp bz ba be bi bl bm edge inner 1 1000 s ((s.size + 1) / 10) w' (hS.above hx g2.1 g2.2.1 g2.2.2.1 g2.2.2.2.1 g2.2.2.2.2) (hA.above hx g1.1 g1.2.1 g1.2.2) (by omega) (by omega) (by omega) (by omega) (by omega)
    rw [h1, h2, h3, h4] at this
    exact this
  · exact (text39_any s check w' hs hl).mono fun _ _ h => ⟨h.1, h.2 ▸ Ext.refl _⟩
  · exact ⟨fun _ _ => by kernel_rfl, fun _ _ => by kernel_rfl, fun _ _ => by kernel_rfl, fun _ _ => by kernel_rfl, fun _ _ => by kernel_rfl, fun _ _ => by kernel_rfl⟩
theorem symAt_Cb (B : Nat) (w : World) (bc bp bz ba be bi bl bm : Nat) (g1 : B ≤ bc ∧ B ≤ bp ∧ B ≤ bz) (g2 : B ≤ ba ∧ B ≤ be ∧ B ≤ bi ∧ B ≤ bl ∧ B ≤ bm) (cs ps edge inner : ByteArray) (hS : SpacedAt w 7 bc bp bz ba be bi bl bm edge inner 0 998) (hA : AlphAt w bc bp bz cs ps 7)
    (h1 : cs.data.toList = Tw.cCb) (h2 : ps.data.toList = Tw.pCb) (h3 : edge.data.toList = Tw.eCb) (h4 : inner.data.toList = Tw.dCb) :
    SymAt B w 1 (fnsSp 7 bc bp bz ba be bi bl bm 57 58) := by
  have s1 : cs.size = 20 := by rw [size_of_toList h1]; rfl
  have s2 : ps.size = 140 := by rw [size_of_toList h2]; decide +kernel
  refine ⟨fun w' hx c => ?_, fun w' hx n check hn => ?_, fun w' hx s check hs => ?_, fun w' hx s hd => ?_, fun w' hx s check hc => ?_, fun w' hx s check hs hl => ?_, ?_⟩
  · have := pattern_any cs ps 7 c bc bp bz w' (hA.above hx g1.1 g1.2.1 g1.2.2) (by omega) (by omega) (by omega)
    rw [h1, h2] at this
    exact this
  · exact counts_any 7 bc bp bz ba be bi bl bm edge inner 0 998 n check w' (by omega) (hS.above hx g2.1 g2.2.1 g2.2.2.1 g2.2.2.2.1 g2.2.2.2.2) (by omega) (by omega) hn
  · exact compCb_any s check w' hs
  · have := draw_any cs ps 7 bc bp bz ba be bi bl bm edge inner 0 998 s w' (hS.above hx g2.1 g2.2.1 g2.2.2.1 g2.2.2.2.1 g2.2.2.2.2) (hA.above hx g1.1 g1.2.1 g1.2.2) (by omega) (by omega) (by omega) (by have := hd.1; rw [len_data] at this; omega)
    rw [h1, h2] at this
    exact this
  · have hc' : Tw.counts 7 0 998 s.size check = true := hc
    unfold Tw.counts at hc'
    simp only [Bool.and_eq_true, decide_eq_true_eq] at hc'
    have hb : check.toNat ≤ 1 := Bool.toNat_le check
    have := read_7 cs ps bc bp bz ba be bi bl bm edge inner 0 998 s ((s.size + 1) / 8) w' (hS.above hx g2.1 g2.2.1 g2.2.2.1 g2.2.2.2.1 g2.2.2.2.2) (hA.above hx g1.1 g1.2.1 g1.2.2) (by omega) (by omega) (by omega) (by omega) (by omega)
    rw [h1, h2, h3, h4] at this
    exact this
  · exact textCb_any s check w' hs hl
  · exact ⟨fun _ _ => by kernel_rfl, fun _ _ => by kernel_rfl, fun _ _ => by kernel_rfl, fun _ _ => by kernel_rfl, fun _ _ => by kernel_rfl, fun _ _ => by kernel_rfl⟩
theorem symAt_Itf (B : Nat) (w : World) (bc bp bz ba bn : Nat) (g1 : B ≤ bc ∧ B ≤ bp ∧ B ≤ bz) (g2 : B ≤ ba ∧ B ≤ bn) (cs ps : ByteArray) (hI : ItfAt w bc bp bz ba bn) (hA : AlphAt w bc bp bz cs ps 5)
    (h1 : cs.data.toList = Tw.cItf) (h2 : ps.data.toList = Tw.pItf) : SymAt B w 2 (fnsItf bc bp bz ba bn) := by
  have s1 : cs.size = 10 := by rw [size_of_toList h1]; rfl
  have s2 : ps.size = 50 := by rw [size_of_toList h2]; decide +kernel
  refine ⟨fun w' hx c => ?_, fun w' hx n check hn => ?_, fun w' hx s check hs => ?_, fun w' hx s hd => ?_, fun w' hx s check hc => ?_, fun w' hx s check hs hl => ?_, ?_⟩
  · have := pattern_any cs ps 5 c bc bp bz w' (hA.above hx g1.1 g1.2.1 g1.2.2) (by omega) (by omega) (by omega)
    rw [h1, h2] at this
    exact this
  · exact countsItf_any bc bp bz ba bn n check w' (hI.above hx g2.1 g2.2) hn
  · exact compItf_any s check w' hs
  · have h0 := hd.1
    have h3 := hd.2 rfl
    rw [len_data] at h0 h3
    exact drawItf_any cs ps bc bp bz ba bn s (s.size / 2) w' (hI.above hx g2.1 g2.2) (hA.above hx g1.1 g1.2.1 g1.2.2) h1 h2 (by omega) (by omega) h3.2
  · have hc' : Tw.countsItf s.size = true := hc
    unfold Tw.countsItf at hc'
    simp only [Bool.and_eq_true, decide_eq_true_eq] at hc'
    exact readItf_any cs ps bc bp bz s ((s.size - 7) / 10) w' (hA.above hx g1.1 g1.2.1 g1.2.2) h1 h2 (by omega) (by omega) (by omega)
  · exact textItf_any s check w' hs hl
  · exact ⟨fun _ _ => by kernel_rfl, fun _ _ => by kernel_rfl, fun _ _ => by kernel_rfl, fun _ _ => by kernel_rfl, fun _ _ => by kernel_rfl, fun _ _ => by kernel_rfl⟩

set_option maxRecDepth 100000 in
set_option maxHeartbeats 4000000 in
theorem sym39_any (w : World) : Calls Tryz.prog 34 #[] w fun e w' => ∃ F : SymFns, e = .returned F.val ∧ SymAt (w.heap.size + 1) w' 0 F ∧ Ext w w' := by
  go_enter Tryz.func34, Tryz.ntmps34
  go_wp2_with fail
  refine (newAlphabet_any _ _ 9 _ (.inl ⟨by decide +kernel, by decide +kernel, rfl⟩)).mono ?_
  rintro e w1 ⟨bc, bp, bz, rfl, hA1, ⟨u1, u2, u3⟩, hx1⟩
  go_wp2_with fail
  refine (spaced_any 9 bc bp bz _ _ 1 1000 _).mono ?_
  rintro e w2 ⟨ba, be, bi, bl, bm, rfl, hS2, ⟨u4, u5, u6, u7, u8⟩, hx2⟩
  unfold spacedV
  have hx3 := hx1.trans hx2
  obtain ⟨hc, hf⟩ := hx3.cells
  have hz : w.heap.size < w2.heap.size := by have := hx3.size; simp at this; omega
  have hz1 := hx1.size
  simp at u1 u2 u3 hz1
  go_wp2
  refine bodyPost_ret_by (v := (fnsSp 9 bc bp bz ba be bi bl bm 53 56).val) (by simp [results, Tryz.results34, go_sem, SymFns.val, fnsSp, hc, hz]) rfl
    ⟨_, rfl, symAt_39 _ _ bc bp bz ba be bi bl bm ⟨by omega, by omega, by omega⟩ ⟨by omega, by omega, by omega, by omega, by omega⟩ _ _ _ _ (hS2.keep (B := w.heap.size) ?_ ?_ (by omega) (by omega) (by omega) (by omega) (by omega)) ((hA1.ext hx2).keep (B := w.heap.size) ?_ ?_ (by omega) (by omega) (by omega)) (by decide +kernel) (by decide +kernel) (by decide +kernel) (by decide +kernel), ?_⟩
  all_goals first
    | (intro b o h1 h2
       rw [World.cell?_alloc_lt _ _ _ (by simpa using h2)]
       repeat rw [World.cell?_setCell_other _ _ _ _ (by intro e; injection e with e1; first | exact h1 e1 | exact h1 e1.symm)])
    | (simp; done)
    | (refine Ext.alloc ?_ _
       repeat refine Ext.setCell ?_ (Nat.le_refl _) _
       exact Ext.trans ((Ext.refl w).alloc _) hx3)

set_option maxRecDepth 100000 in
set_option maxHeartbeats 4000000 in
theorem symCb_any (w : World) : Calls Tryz.prog 35 #[] w fun e w' => ∃ F : SymFns, e = .returned F.val ∧ SymAt (w.heap.size + 1) w' 1 F ∧ Ext w w' := by
  go_enter Tryz.func35, Tryz.ntmps35
  go_wp2_with fail
  refine (newAlphabet_any _ _ 7 _ (.inr (.inl ⟨by decide +kernel, by decide +kernel, rfl⟩))).mono ?_
  rintro e w1 ⟨bc, bp, bz, rfl, hA1, ⟨u1, u2, u3⟩, hx1⟩
  go_wp2_with fail
  refine (spaced_any 7 bc bp bz _ _ 0 998 _).mono ?_
  rintro e w2 ⟨ba, be, bi, bl, bm, rfl, hS2, ⟨u4, u5, u6, u7, u8⟩, hx2⟩
  unfold spacedV
  have hx3 := hx1.trans hx2
  obtain ⟨hc, hf⟩ := hx3.cells
  have hz : w.heap.size < w2.heap.size := by have := hx3.size; simp at this; omega
  have hz1 := hx1.size
  simp at u1 u2 u3 hz1
  go_wp2
  refine bodyPost_ret_by (v := (fnsSp 7 bc bp bz ba be bi bl bm 57 58).val) (by simp [results, Tryz.results35, go_sem, SymFns.val, fnsSp, hc, hz]) rfl
    ⟨_, rfl, symAt_Cb _ _ bc bp bz ba be bi bl bm ⟨by omega, by omega, by omega⟩ ⟨by omega, by omega, by omega, by omega, by omega⟩ _ _ _ _ (hS2.keep (B := w.heap.size) ?_ ?_ (by omega) (by omega) (by omega) (by omega) (by omega)) ((hA1.ext hx2).keep (B := w.heap.size) ?_ ?_ (by omega) (by omega) (by omega)) (by decide +kernel) (by decide +kernel) (by decide +kernel) (by decide +kernel), ?_⟩
  all_goals first
    | (intro b o h1 h2
       rw [World.cell?_alloc_lt _ _ _ (by simpa using h2)]
       repeat rw [World.cell?_setCell_other _ _ _ _ (by intro e; injection e with e1; first | exact h1 e1 | exact h1 e1.symm)])
    | (simp; done)
    | (refine Ext.alloc ?_ _
       repeat refine Ext.setCell ?_ (Nat.le_refl _) _
       exact Ext.trans ((Ext.refl w).alloc _) hx3)

set_option maxRecDepth 100000 in
set_option maxHeartbeats 4000000 in
theorem symItf_any (w : World) : Calls Tryz.prog 36 #[] w fun e w' => ∃ F : SymFns, e = .returned F.val ∧ SymAt (w.heap.size + 1) w' 2 F ∧ Ext w w' := by
  go_enter Tryz.func36, Tryz.ntmps36
  go_wp2_with fail
  refine (newAlphabet_any _ _ 5 _ (.inr (.inr ⟨by decide +kernel, by decide +kernel, rfl⟩))).mono ?_
  rintro e w1 ⟨bc, bp, bz, rfl, hA1, ⟨u1, u2, u3⟩, hx1⟩
  unfold alphV
  obtain ⟨hc, hf⟩ := hx1.cells
  have hz : w.heap.size < w1.heap.size := by have := hx1.size; simp at this; omega
  have hx3 := hx1
  simp at u1 u2 u3
  go_wp2
  refine bodyPost_ret_by (v := (fnsItf bc bp bz w1.heap.size (w1.heap.size + 1)).val) (by simp [results, Tryz.results36, go_sem, SymFns.val, fnsItf, alphV, hc, hz]) rfl
    ⟨_, rfl, symAt_Itf _ _ bc bp bz w1.heap.size (w1.heap.size + 1) ⟨by omega, by omega, by omega⟩ ⟨by omega, by omega⟩ _ _ ⟨by simp [go_sem], by simp [go_sem], by simp [go_sem], by simp; omega, by simp⟩ (hA1.keep (B := w.heap.size) ?_ ?_ (by omega) (by omega) (by omega)) (by decide +kernel) (by decide +kernel), ?_⟩
  all_goals first
    | (intro b o h1 h2
       rw [World.cell?_alloc_lt _ _ _ (by simp; omega), World.cell?_alloc_lt _ _ _ (by simpa using h2)]
       repeat rw [World.cell?_setCell_other _ _ _ _ (by intro e; injection e with e1; first | exact h1 e1 | exact h1 e1.symm)])
    | (simp; omega)
    | (refine Ext.alloc (Ext.alloc ?_ _) _
       repeat refine Ext.setCell ?_ (Nat.le_refl _) _
       exact Ext.trans ((Ext.refl w).alloc _) hx3)

/-- What 'find' returns for a kind that there is. -/
def Found (k : Nat) (w : World) (e : Ending) (w' : World) : Prop := ∃ (B : Nat) (F : SymFns), e = .returned (.tuple #[F.val, .bool true]) ∧ SymAt B w' k F ∧ Ext w w'

set_option maxRecDepth 100000 in
set_option maxHeartbeats 4000000 in
theorem find_39 (w : World) : Calls Tryz.prog 17 #[.int .i64 5] w (Found 0 w) := by
  go_enter Tryz.func17, Tryz.ntmps17
  go_wp2_with fail
  refine (sym39_any _).mono ?_
  rintro e w1 ⟨F, rfl, hF, hx1⟩
  obtain ⟨hc, hf⟩ := hx1.cells
  have hz : w.heap.size < w1.heap.size := by have := hx1.size; simp at this; omega
  unfold SymFns.val
  go_wp2
  refine bodyPost_ret_by (v := .tuple #[F.val, .bool true]) (by simp [results, Tryz.results17, go_sem, SymFns.val, hc]) rfl ⟨_, F, rfl, hF.above ?_, ?_⟩
  · repeat refine Above.setCell ?_ (by simp; omega) _
    exact Above.refl _ _
  · repeat refine Ext.setCell ?_ (Nat.le_refl _) _
    exact Ext.trans ((Ext.refl w).alloc _) hx1
set_option maxRecDepth 100000 in
set_option maxHeartbeats 4000000 in
theorem find_Cb (w : World) : Calls Tryz.prog 17 #[.int .i64 6] w (Found 1 w) := by
  go_enter Tryz.func17, Tryz.ntmps17
  go_wp2_with fail
  refine (symCb_any _).mono ?_
  rintro e w1 ⟨F, rfl, hF, hx1⟩
  obtain ⟨hc, hf⟩ := hx1.cells
  have hz : w.heap.size < w1.heap.size := by have := hx1.size; simp at this; omega
  unfold SymFns.val
  go_wp2
  refine bodyPost_ret_by (v := .tuple #[F.val, .bool true]) (by simp [results, Tryz.results17, go_sem, SymFns.val, hc]) rfl ⟨_, F, rfl, hF.above ?_, ?_⟩
  · repeat refine Above.setCell ?_ (by simp; omega) _
    exact Above.refl _ _
  · repeat refine Ext.setCell ?_ (Nat.le_refl _) _
    exact Ext.trans ((Ext.refl w).alloc _) hx1
set_option maxRecDepth 100000 in
set_option maxHeartbeats 4000000 in
theorem find_Itf (w : World) : Calls Tryz.prog 17 #[.int .i64 7] w (Found 2 w) := by
  go_enter Tryz.func17, Tryz.ntmps17
  go_wp2_with fail
  refine (symItf_any _).mono ?_
  rintro e w1 ⟨F, rfl, hF, hx1⟩
  obtain ⟨hc, hf⟩ := hx1.cells
  have hz : w.heap.size < w1.heap.size := by have := hx1.size; simp at this; omega
  unfold SymFns.val
  go_wp2
  refine bodyPost_ret_by (v := .tuple #[F.val, .bool true]) (by simp [results, Tryz.results17, go_sem, SymFns.val, hc]) rfl ⟨_, F, rfl, hF.above ?_, ?_⟩
  · repeat refine Above.setCell ?_ (by simp; omega) _
    exact Above.refl _ _
  · repeat refine Ext.setCell ?_ (Nat.le_refl _) _
    exact Ext.trans ((Ext.refl w).alloc _) hx1

set_option maxHeartbeats 1000000 in
theorem find_not (kind : Int) (w : World) (h5 : kind ≠ 5) (h6 : kind ≠ 6) (h7 : kind ≠ 7) : Calls Tryz.prog 17 #[.int .i64 kind] w fun e w' => e = .returned (.tuple #[.agg #[.int .i64 0, .nilFunc, .nilFunc, .nilFunc, .nilFunc, .nilFunc, .nilFunc, .nilFunc], .bool false]) ∧ Ext w w' := by
  have d5 : (kind == 5) = false := beq_eq_false_iff_ne.2 h5
  have d6 : (kind == 6) = false := beq_eq_false_iff_ne.2 h6
  have d7 : (kind == 7) = false := beq_eq_false_iff_ne.2 h7
  clear h5 h6 h7
  go_enter Tryz.func17, Tryz.ntmps17
  go_wp2
  refine bodyPost_ret_by (v := .tuple #[.agg #[.int .i64 0, .nilFunc, .nilFunc, .nilFunc, .nilFunc, .nilFunc, .nilFunc, .nilFunc], .bool false]) (by simp [results, Tryz.results17, go_sem]) rfl ⟨rfl, (by repeat (first | exact Ext.refl _ | assumption | refine Ext.alloc ?_ _ | refine Ext.drew ?_ | refine Ext.trans ?_ (by assumption)))⟩
end Go.Proofs.YthjlnpcaclfopaaGreat
