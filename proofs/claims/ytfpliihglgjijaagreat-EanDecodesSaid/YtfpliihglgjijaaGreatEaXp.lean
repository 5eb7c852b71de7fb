/-
  One operation alone, behind the ones whose order is drawn.
  No condition.
-/
import Derived.Test.YtfpliihglgjijaaGreatRel
import Derived.RegionTactic
import Derived.Test.YtfpliihglgjijaaGreatEaX1
import Derived.Test.YtfpliihglgjijaaGreatEaXo
import Derived.Test.YtfpliihglgjijaaGreatEaQ

/-
  One operation alone, behind the ones whose order is drawn.
  No condition.
-/
namespace Go.Proofs.YtfpliihglgjijaaGreat
set_option linter.unusedVariables false
open Go.RowKit

theorem wpAny_solo {P : Program} {ops : Array Oper} {Q : Exit → Act → World → Prop} {fuel : Nat} {listed : Array Bool} {a : Act} {w : World} (i : Nat) {o : Oper} (hr : Region.ready .any ops listed = [i]) (ho : ops[i]? = some o)
    (h : ∀ K' : Act → World → Prop, (∀ a w, wpAny P .any ops Q fuel (listed.setIfInBounds i true) a w → K' a w) → if Region.wanted o (yielded ops a.tmps) = true then Oper.wp P o a w K' Q else K' (a.put o.dst undef) w) : wpAny P .any ops Q (fuel + 1) listed a w :=
  wpAny_ready hr (by simp) (AllReady.cons ho h AllReady.nil)
end Go.Proofs.YtfpliihglgjijaaGreat

/-
  Chapter 11: the reference's digit, walked.
  Condition: a digit.
-/
namespace Go.Proofs.YtfpliihglgjijaaGreat
open Go.RowKit

theorem achr_byte : ∀ n : Fin 10, (Ea.chr n.1).toNat = 48 + n.1 := by decide
set_option maxRecDepth 100000 in
set_option maxHeartbeats 1000000 in
theorem xdigit_any (x : Nat) (hx10 : x < 10) (w : World) : Calls Tryz.prog 98 #[.int .i64 (x : Int)] w fun e w' => e = .returned (.string (Ea.bS [Ea.chr x])) ∧ Ext w w' := by
  have hcv := conv_one w (Ea.chr x) (48 + (x : Int)) (by have h := achr_byte ⟨x, hx10⟩; dsimp only at h; rw [h]; omega)
  go_enter Tryz.func98, Tryz.ntmps98
  go_wp2
  go_ret
  exact ⟨rfl, (by repeat (first | exact Ext.refl _ | assumption | refine Ext.alloc ?_ _ | refine Ext.drew ?_ | refine Ext.trans ?_ (by assumption)))⟩
end Go.Proofs.YtfpliihglgjijaaGreat

/-
  Chapter 11: the reference's find13 and findE, walked; rows cut at one end.
  Condition: strings of sets.
-/
namespace Go.Proofs.YtfpliihglgjijaaGreat
open Go.RowKit

theorem cut_bools_h {w : World} {v : Value} {xs : List Value} (hs : SlK w v xs) (h : Nat) (hh : h ≤ xs.length) :
    ∃ v', (∀ w', (Instr.slice 23 v none (some (.int .i64 (h : Int))) none).run Tryz.prog w' = .ok v' w') ∧ SlK w v' (xs.take h) := by
  obtain ⟨hsl, a, c, rfl, hc⟩ := hs
  refine ⟨_, fun w' => ?_, (sliced_sl hsl hc (Nat.zero_le h) hh).congr (by rw [List.drop_zero, Nat.sub_zero])⟩
  have e : Tryz.prog.elem 23 = 4 := by kernel_rfl
  have ht : Tryz.prog.underlying 23 = some (.slice (Tryz.prog.elem 23)) := by rw [e]; exact Tryz.underlying23
  rw [run_slice_h w' 23 a xs.length c ht .i64 (h : Int) (by omega) (by omega), e, sizeOf_bool]
  rfl
theorem cut_bools_l {w : World} {v : Value} {xs : List Value} (hs : SlK w v xs) (l : Nat) (hl : l ≤ xs.length) :
    ∃ v', (∀ w', (Instr.slice 23 v (some (.int .i64 (l : Int))) none none).run Tryz.prog w' = .ok v' w') ∧ SlK w v' (xs.drop l) := by
  obtain ⟨hsl, a, c, rfl, hc⟩ := hs
  refine ⟨_, fun w' => ?_, (sliced_sl hsl hc hl (Nat.le_refl _)).congr (by rw [List.take_of_length_le (by rw [List.length_drop]; exact Nat.le_refl _)])⟩
  have e : Tryz.prog.elem 23 = 4 := by kernel_rfl
  have ht : Tryz.prog.underlying 23 = some (.slice (Tryz.prog.elem 23)) := by rw [e]; exact Tryz.underlying23
  rw [run_slice_l w' 23 a xs.length c ht .i64 (l : Int) (by omega) (by omega), e, sizeOf_bool]
  rfl

theorem idx_first {α : Type} [DecidableEq α] {y : α} : ∀ (l : List α) (k : Nat), (∀ i, i < k → l[i]? ≠ some y) → l[k]? = some y → Ea.idx l y = some k := by
  intro l
  induction l with
  | nil => intro k _ h; cases h
  | cons x l ih =>
    intro k h1 h2
    cases k with
    | zero =>
      simp only [List.getElem?_cons_zero, Option.some.injEq] at h2
      rw [Ea.idx, if_pos h2]
    | succ k =>
      have hx : ¬ x = y := fun e => h1 0 (Nat.succ_pos _) (by rw [List.getElem?_cons_zero, e])
      rw [Ea.idx, if_neg hx, ih k (fun i hi => by have := h1 (i + 1) (by omega); simpa using this) (by simpa using h2)]; rfl
theorem idx_none {α : Type} [DecidableEq α] {y : α} : ∀ (l : List α), (∀ i, i < l.length → l[i]? ≠ some y) → Ea.idx l y = none := by
  intro l
  induction l with
  | nil => intro _; rfl
  | cons x l ih =>
    intro h1
    have hx : ¬ x = y := fun e => h1 0 (Nat.succ_pos _) (by rw [List.getElem?_cons_zero, e])
    rw [Ea.idx, if_neg hx, ih (fun i hi => by have := h1 (i + 1) (by simp; omega); simpa using this)]; rfl
theorem setsL_at : ∀ i : Fin 10, Ea.setsL[i.1]? = some (Ea.sets13 i.1) := by decide
theorem setsE_at0 : ∀ i : Fin 10, Ea.setsE0[i.1]? = some (Ea.setsE 0 i.1) := by decide
theorem setsE_at1 : ∀ i : Fin 10, (Ea.setsE0.map (fun l => l.map (fun x => 1 - x)))[i.1]? = some (Ea.setsE 1 i.1) := by decide
/-- The number of a found place, or -1. -/
def noV (o : Option Nat) : Int := match o with
  | some d => (d : Int)
  | none => -1
def noE (o : Option (Nat × Nat)) : Value := match o with
  | some (y, c) => .tuple #[.int .i64 (y : Int), .int .i64 (c : Int)]
  | none => .tuple #[.int .i64 (-1), .int .i64 (-1)]

set_option maxRecDepth 100000 in
set_option maxHeartbeats 1000000 in
theorem xfind13_any (s : ByteArray) (u : List Nat) (hs : s.data.toList = zS u) (hu : ∀ x ∈ u, x < 10) (w : World) :
    Calls Tryz.prog 97 #[.string s] w fun e w' => e = .returned (.int .i64 (noV (Ea.find13 u))) ∧ Ext w w' := by
  obtain ⟨res, hres⟩ : ∃ res, Ea.find13 u = res := ⟨_, rfl⟩
  rw [hres]
  have HRES := Lib.hid hres
  have HS := Lib.hid hs
  have HU := Lib.hid hu
  clear hres hs hu
  go_enter Tryz.func97, Tryz.ntmps97
  go_wp2
  go_loopw [3] (fun v3 wr => ∃ k : Nat, k ≤ 10 ∧ v3 = .int .i64 (k : Int) ∧ Hid (∀ i, i < k → Ea.setsL[i]? ≠ some u) ∧ Ext w wr) (fun v3 _ => 10 - (intOf v3).toNat)
  case atStart => exact ⟨0, Nat.zero_le _, rfl, Lib.hid (fun i hi => absurd hi (Nat.not_lt_zero _)), Ext.refl _⟩
  case round =>
    obtain ⟨k, hk, rfl, HB, hxr⟩ := hrel
    by_cases hlt : k < 10
    · have HC := Lib.hid (fun w => xsets13_any k hlt w)
      obtain ⟨X, hX⟩ : ∃ X, Ea.bS (zS (Ea.sets13 k)) = X := ⟨_, rfl⟩
      have HQ : Hid ((X.toList == s.toList) = decide (Ea.sets13 k = u)) := Lib.hid (by
        rw [Bool.eq_iff_iff, beq_iff_eq, decide_eq_true_eq, ← hX, Lib.toList_data, Lib.toList_data, HS.out, Ea.bS_list]
        constructor
        · intro h
          exact zS_inj (fun x hx => by have := (Ea.sets13_ok ⟨k, hlt⟩).2.1 x hx; omega) HU.out h
        · intro h; rw [h])
      have HAT := Lib.hid (setsL_at ⟨k, hlt⟩)
      rw [hX] at HC
      clear hX
      go_wp2_with fail
      refine (HC.out _).mono ?_
      rintro e w1 ⟨rfl, hx1⟩
      cases hq : (X.toList == s.toList)
      · have HB2 : Hid (∀ i, i < k + 1 → Ea.setsL[i]? ≠ some u) := Lib.hid (fun i hi => by
          rcases Nat.lt_or_ge i k with h | h
          · exact HB.out i h
          · obtain rfl : i = k := by omega
            have := HQ.out
            rw [hq] at this
            have h3 := of_decide_eq_false this.symm
            rw [HAT.out]
            intro e
            exact h3 (by injection e))
        go_wp2
        go_roundw
        case rel => exact ⟨k + 1, by omega, by go_num, HB2, hxr.trans hx1⟩
        case measure => simp [intOf]; omega
      · have HF : Hid (res = some k) := Lib.hid (by
          have := HQ.out
          rw [hq] at this
          have h3 := of_decide_eq_true this.symm
          rw [← HRES.out]
          unfold Ea.find13
          exact idx_first _ k HB.out (by rw [HAT.out, h3]))
        go_wp2
        go_ret
        exact ⟨by rw [HF.out]; rfl, hxr.trans hx1⟩
    · obtain rfl : k = 10 := by omega
      have HF : Hid (res = none) := Lib.hid (by
        rw [← HRES.out]
        unfold Ea.find13
        exact idx_none _ HB.out)
      clear hk hlt
      go_wp2
      go_ret
      exact ⟨by rw [HF.out]; rfl, hxr⟩

theorem findE_first (y c : Nat) (hy : y < 2) (hc : c < 10) (u : List Nat) (h0 : ∀ i, i < 10 → 0 < y → Ea.setsE 0 i ≠ u) (h1 : ∀ i, i < c → Ea.setsE y i ≠ u) (h2 : Ea.setsE y c = u) : Ea.findE u = some (y, c) := by
  have h' : y = 0 ∨ y = 1 := by omega
  unfold Ea.findE
  rcases h' with rfl | rfl
  · rw [idx_first Ea.setsE0 c (fun i hi => by
      rw [setsE_at0 ⟨i, by omega⟩]; intro e; exact h1 i hi (by injection e)) (by rw [setsE_at0 ⟨c, hc⟩, h2])]
  · rw [idx_none Ea.setsE0 (fun i hi => by
      have hi : i < 10 := hi
      rw [setsE_at0 ⟨i, hi⟩]; intro e; exact h0 i hi (by omega) (by injection e))]
    dsimp only
    rw [idx_first _ c (fun i hi => by
      rw [setsE_at1 ⟨i, by omega⟩]; intro e; exact h1 i hi (by injection e)) (by rw [setsE_at1 ⟨c, hc⟩, h2])]; rfl
theorem findE_never (u : List Nat) (h0 : ∀ y i, y < 2 → i < 10 → Ea.setsE y i ≠ u) : Ea.findE u = none := by
  unfold Ea.findE
  rw [idx_none Ea.setsE0 (fun i hi => by
      have hi : i < 10 := hi
      rw [setsE_at0 ⟨i, hi⟩]; intro e; exact h0 0 i (by omega) hi (by injection e))]
  dsimp only
  rw [idx_none _ (fun i hi => by
      have hi : i < 10 := by simpa [Ea.setsE0] using hi
      rw [setsE_at1 ⟨i, hi⟩]; intro e; exact h0 1 i (by omega) hi (by injection e))]; rfl

set_option maxRecDepth 100000 in
set_option maxHeartbeats 1000000 in
theorem xfindE_any (s : ByteArray) (u : List Nat) (hs : s.data.toList = zS u) (hu : ∀ x ∈ u, x < 10) (w : World) :
    Calls Tryz.prog 99 #[.string s] w fun e w' => e = .returned (noE (Ea.findE u)) ∧ Ext w w' := by
  obtain ⟨res, hres⟩ : ∃ res, Ea.findE u = res := ⟨_, rfl⟩
  rw [hres]
  have HRES := Lib.hid hres
  have HS := Lib.hid hs
  have HU := Lib.hid hu
  clear hres hs hu
  go_enter Tryz.func99, Tryz.ntmps99
  go_wp2
  go_loopw [4] (fun v4 wr => ∃ y : Nat, y ≤ 2 ∧ v4 = .int .i64 (y : Int) ∧ Hid (∀ q i, q < y → i < 10 → Ea.setsE q i ≠ u) ∧ Ext w wr) (fun v4 _ => 2 - (intOf v4).toNat)
  case atStart => exact ⟨0, Nat.zero_le _, rfl, Lib.hid (fun q i hq => absurd hq (Nat.not_lt_zero _)), Ext.refl _⟩
  case round =>
    obtain ⟨y, hy, rfl, HB, hxr⟩ := hrel
    by_cases hyt : y < 2
    · have dy : decide ((y : Int) < 2) = true := decide_eq_true (by omega)
      go_wp2
      go_loopw [5] (fun v5 wq => ∃ k : Nat, k ≤ 10 ∧ v5 = .int .i64 (k : Int) ∧ Hid (∀ i, i < k → Ea.setsE y i ≠ u) ∧ Ext w wq) (fun v5 _ => 10 - (intOf v5).toNat)
      case atStart => exact ⟨0, Nat.zero_le _, rfl, Lib.hid (fun i hi => absurd hi (Nat.not_lt_zero _)), hxr⟩
      case round =>
        obtain ⟨k, hk, rfl, HC, hxq⟩ := hrel
        by_cases hlt : k < 10
        · have HSE := Lib.hid (fun w => xsetsE_any y k hyt hlt w)
          obtain ⟨X, hX⟩ : ∃ X, Ea.bS (zS (Ea.setsE y k)) = X := ⟨_, rfl⟩
          have HQ : Hid ((X.toList == s.toList) = decide (Ea.setsE y k = u)) := Lib.hid (by
            rw [Bool.eq_iff_iff, beq_iff_eq, decide_eq_true_eq, ← hX, Lib.toList_data, Lib.toList_data, HS.out, Ea.bS_list]
            constructor
            · intro h
              exact zS_inj (fun x hx => by have := (Ea.setsE_ok ⟨y, hyt⟩ ⟨k, hlt⟩).2.1 x hx; omega) HU.out h
            · intro h; rw [h])
          rw [hX] at HSE
          clear hX
          go_wp2_with fail
          refine (HSE.out _).mono ?_
          rintro e w1 ⟨rfl, hx1⟩
          cases hq : (X.toList == s.toList)
          · have HC2 : Hid (∀ i, i < k + 1 → Ea.setsE y i ≠ u) := Lib.hid (fun i hi => by
              rcases Nat.lt_or_ge i k with h | h
              · exact HC.out i h
              · obtain rfl : i = k := by omega
                have := HQ.out
                rw [hq] at this
                exact of_decide_eq_false this.symm)
            go_wp2
            go_roundw
            case rel => exact ⟨k + 1, by omega, by go_num, HC2, hxq.trans hx1⟩
            case measure => simp [intOf]; omega
          · have HF : Hid (res = some (y, k)) := Lib.hid (by
              have := HQ.out
              rw [hq] at this
              have h3 := of_decide_eq_true this.symm
              rw [← HRES.out]
              exact findE_first y k hyt hlt u (fun i hi h0 => HB.out 0 i h0 hi) HC.out h3)
            go_wp2
            go_ret2
            exact ⟨by rw [HF.out]; rfl, hxq.trans hx1⟩
        · obtain rfl : k = 10 := by omega
          have HB2 : Hid (∀ q i, q < y + 1 → i < 10 → Ea.setsE q i ≠ u) := Lib.hid (fun q i hq hi => by
            rcases Nat.lt_or_ge q y with h | h
            · exact HB.out q i h hi
            · obtain rfl : q = y := by omega
              exact HC.out i hi)
          clear hk hlt
          go_wp2
          go_roundw
          case rel => exact ⟨y + 1, by omega, by go_num, HB2, hxq⟩
          case measure => simp [intOf]; omega
    · obtain rfl : y = 2 := by omega
      have HF : Hid (res = none) := Lib.hid (by
        rw [← HRES.out]
        exact findE_never u HB.out)
      clear hy hyt
      go_wp2
      go_ret2
      exact ⟨by rw [HF.out]; rfl, hxr⟩
end Go.Proofs.YtfpliihglgjijaaGreat

/-
  Chapter 11: the reference's read, walked.
  Condition: the row holds the digits.
-/
namespace Go.Proofs.YtfpliihglgjijaaGreat
open Go.RowKit

/-- Whether a found digit and set lie ahead of digit d, set t. -/
def gone (o : Option (Nat × Nat)) (d t : Nat) : Bool := match o with
  | none => false
  | some (d0, u0) => decide (d0 < d ∨ d0 = d ∧ u0 < t)
def goneT (o : Option (Nat × Nat)) (d t : Nat) : List UInt8 := if gone o d t = true then (match o with
  | none => []
  | some (d0, _) => [Ea.chr d0]) else []
def goneU (o : Option (Nat × Nat)) (d t : Nat) : List Nat := if gone o d t = true then (match o with
  | none => []
  | some (_, u0) => [u0]) else []
theorem goneT_len (o : Option (Nat × Nat)) (d t : Nat) : (goneT o d t).length ≤ 1 := by
  unfold goneT
  split
  · cases o <;> simp
  · simp
theorem goneU_len (o : Option (Nat × Nat)) (d t : Nat) : (goneU o d t).length ≤ 1 := by
  unfold goneU
  split
  · cases o <;> simp
  · simp
/-- The sets that are tried. -/
def span (both : Bool) (t lo hi : Nat) : Prop := if both = true then lo = 0 ∧ hi = 1 else lo = t ∧ hi = t
theorem span_may {both : Bool} {t lo hi : Nat} (h : span both t lo hi) (u : Nat) : Ea.may both t u ↔ lo ≤ u ∧ u ≤ hi := by
  unfold span at h
  unfold Ea.may
  cases both with
  | true => simp only [if_true] at h ⊢; omega
  | false => simp only [Bool.false_eq_true, if_false] at h ⊢; omega
theorem gone_start {both : Bool} {t lo hi : Nat} (ht : t < 3) (hs : span both t lo hi) (p : List Bool) : gone (Ea.look both t p) 0 lo = false := by
  cases h : Ea.look both t p with
  | none => rfl
  | some q =>
    obtain ⟨d0, u0⟩ := q
    have := (span_may hs u0).1 (Ea.look_some ht h).2.2
    show decide _ = false
    rw [decide_eq_false_iff_not]; omega
theorem gone_next {both : Bool} {t lo hi : Nat} (ht : t < 3) (hs : span both t lo hi) (p : List Bool) (d : Nat) : gone (Ea.look both t p) d (hi + 1) = gone (Ea.look both t p) (d + 1) lo := by
  cases h : Ea.look both t p with
  | none => rfl
  | some q =>
    obtain ⟨d0, u0⟩ := q
    have := (span_may hs u0).1 (Ea.look_some ht h).2.2
    show decide _ = decide _
    rw [decide_eq_decide]; omega
theorem gone_yes {both : Bool} {t lo hi : Nat} (ht : t < 3) (hs : span both t lo hi) {p : List Bool} {d u : Nat} (hd : d < 10) (hu : lo ≤ u ∧ u ≤ hi) (hp : p = Ea.modl u d) :
    gone (Ea.look both t p) d u = false ∧ gone (Ea.look both t p) d (u + 1) = true ∧ Ea.look both t p = some (d, u) := by
  have h : Ea.look both t p = some (d, u) := by rw [hp]; exact Ea.look_of ht hd ((span_may hs u).2 hu)
  rw [h]
  refine ⟨?_, ?_, rfl⟩
  · show decide _ = false
    rw [decide_eq_false_iff_not]; omega
  · show decide _ = true
    rw [decide_eq_true_eq]; omega
theorem gone_no {both : Bool} {t lo hi : Nat} (ht : t < 3) (hs : span both t lo hi) {p : List Bool} {d u : Nat} (hd : d < 10) (hu : lo ≤ u ∧ u ≤ hi) (hp : p ≠ Ea.modl u d) :
    gone (Ea.look both t p) d (u + 1) = gone (Ea.look both t p) d u := by
  cases h : Ea.look both t p with
  | none => rfl
  | some q =>
    obtain ⟨d0, u0⟩ := q
    have h2 := Ea.look_uniq ht h hd ((span_may hs u).2 hu)
    have h3 : ¬ (d = d0 ∧ u = u0) := fun e => hp (h2.2 e)
    show decide _ = decide _
    rw [decide_eq_decide]; omega
theorem gone_end {both : Bool} {t lo : Nat} (ht : t < 3) (p : List Bool) : gone (Ea.look both t p) 10 lo = (Ea.look both t p).isSome := by
  cases h : Ea.look both t p with
  | none => rfl
  | some q =>
    obtain ⟨d0, u0⟩ := q
    have := (Ea.look_some ht h).1
    show decide _ = true
    rw [decide_eq_true_eq]; omega

/-- What the rounds have found. -/
structure Found (p : List Bool) (lo hi : Nat) (ds : List UInt8) (us : List Nat) (r : Option (Nat × Nat)) where
  X : Nat → Nat → ByteArray
  Y : Nat → Nat → ByteArray
  B : Nat → Nat → Bool
  start : X 0 lo = Ea.bS ds ∧ Y 0 lo = Ea.bS (zS us) ∧ B 0 lo = false
  yes : ∀ d u, d < 10 → lo ≤ u → u ≤ hi → decide (p = Ea.modl u d) = true → X d (u + 1) = X d u ++ Ea.bS [Ea.chr d] ∧ Y d (u + 1) = Y d u ++ Ea.bS [Ea.chr u] ∧ B d (u + 1) = true
  no : ∀ d u, d < 10 → lo ≤ u → u ≤ hi → decide (p = Ea.modl u d) = false → X d (u + 1) = X d u ∧ Y d (u + 1) = Y d u ∧ B d (u + 1) = B d u
  next : ∀ d, X d (hi + 1) = X (d + 1) lo ∧ Y d (hi + 1) = Y (d + 1) lo ∧ B d (hi + 1) = B (d + 1) lo
  stop : B 10 lo = r.isSome ∧ ∀ d u, r = some (d, u) → X 10 lo = Ea.bS (ds ++ [Ea.chr d]) ∧ Y 10 lo = Ea.bS (zS (us ++ [u]))
  small : ∀ d u, (X d u).size ≤ ds.length + 1 ∧ (Y d u).size ≤ us.length + 1
theorem bS_app (a b : List UInt8) : Ea.bS (a ++ b) = Ea.bS a ++ Ea.bS b := by
  apply bytes_ext
  rw [ByteArray.data_append, Array.toList_append]; rfl
theorem found_of {both : Bool} {t lo hi : Nat} (ht : t < 3) (hs : span both t lo hi) (p : List Bool) (ds : List UInt8) (us : List Nat) : Nonempty (Found p lo hi ds us (Ea.look both t p)) := by
  have hT : ∀ d u d1 u1, gone (Ea.look both t p) d u = gone (Ea.look both t p) d1 u1 → goneT (Ea.look both t p) d u = goneT (Ea.look both t p) d1 u1 ∧ goneU (Ea.look both t p) d u = goneU (Ea.look both t p) d1 u1 := by
    intro d u d1 u1 e
    unfold goneT goneU
    rw [e]; exact ⟨rfl, rfl⟩
  refine ⟨⟨fun d u => Ea.bS (ds ++ goneT (Ea.look both t p) d u), fun d u => Ea.bS (zS (us ++ goneU (Ea.look both t p) d u)), fun d u => gone (Ea.look both t p) d u, ?_, ?_, ?_, ?_, ?_, ?_⟩⟩
  · have h := gone_start ht hs p
    unfold goneT goneU
    rw [h]
    simp
  · intro d u hd h1 h2 hp
    obtain ⟨g1, g2, g3⟩ := gone_yes ht hs hd ⟨h1, h2⟩ (of_decide_eq_true hp)
    unfold goneT goneU
    rw [g1, g2, g3]
    simp only [if_true, Bool.false_eq_true, if_false, List.append_nil, zS_app, bS_app]
    first | trivial | (refine ⟨?_, ?_, ?_⟩ <;> first | rfl | trivial)
  · intro d u hd h1 h2 hp
    have h := gone_no ht hs hd ⟨h1, h2⟩ (of_decide_eq_false hp)
    obtain ⟨e1, e2⟩ := hT _ _ _ _ h
    rw [e1, e2, h]
    first | trivial | (refine ⟨?_, ?_, ?_⟩ <;> first | rfl | trivial)
  · intro d
    have h := gone_next ht hs p d
    obtain ⟨e1, e2⟩ := hT _ _ _ _ h
    rw [e1, e2, h]
    first | trivial | (refine ⟨?_, ?_, ?_⟩ <;> first | rfl | trivial)
  · have h := gone_end (lo := lo) (both := both) ht p
    refine ⟨h, fun d u e => ?_⟩
    unfold goneT goneU
    rw [h, e]
    exact ⟨rfl, rfl⟩
  · intro d u
    have h1 := goneT_len (Ea.look both t p) d u
    have h2 := goneU_len (Ea.look both t p) d u
    constructor
    · rw [size_of_toList (Ea.bS_list _), List.length_append]; omega
    · rw [size_of_toList (Ea.bS_list _), zS_len, List.length_append]; omega

def readV (r : Option (List UInt8 × List Nat)) : Value := match r with
  | none => .tuple #[.string (Ea.bS []), .string (Ea.bS [])]
  | some (l, u) => .tuple #[.string (Ea.bS l), .string (Ea.bS (zS u))]

set_option maxRecDepth 100000 in
set_option maxHeartbeats 3000000 in
theorem xread_any (v : Value) (m : List Bool) (at' n gap t lo hi : Nat) (both : Bool) (w : World) (hv : SlK w v (m.map encT)) (hn : n ≤ 6) (hg : gap ≤ 2) (ht : t < 3) (hsp : span both t lo hi) (hlen : at' + n * (7 + gap) ≤ m.length + gap) (hm : m.length ≤ 1000000) :
    Calls Tryz.prog 96 #[v, .int .i64 (at' : Int), .int .i64 (n : Int), .int .i64 (gap : Int), .int .i64 (lo : Int), .int .i64 (hi : Int)] w fun e w' => e = .returned (readV (Ea.rcg both t gap n (m.drop at'))) ∧ Ext w w' := by
  obtain ⟨res, hres⟩ : ∃ res, Ea.rcg both t gap n (m.drop at') = res := ⟨_, rfl⟩
  rw [hres]
  have HRES := Lib.hid hres
  have HV := Lib.hid hv
  have hhi : hi ≤ 2 := by unfold span at hsp; split at hsp <;> omega
  have HSP := Lib.hid hsp
  have hat : at' ≤ 1000100 := by omega
  have HLEN := Lib.hid hlen
  obtain ⟨_, a, c, rfl, hc⟩ := hv
  rw [List.length_map] at HV hc ⊢
  clear hres hsp hlen
  go_enter Tryz.func96, Tryz.ntmps96
  go_wp2
  go_loopw [14, 15, 16] (fun v14 v15 v16 wr => ∃ (k : Nat) (D T : ByteArray) (ds : List UInt8) (us : List Nat), k ≤ n ∧ v14 = .string D ∧ v15 = .string T ∧ v16 = .int .i64 (k : Int) ∧ Hid (D = Ea.bS ds ∧ T = Ea.bS (zS us) ∧ ds.length = k ∧ us.length = k) ∧ Hid (res = Ea.sofar (Ea.rcg both t gap (n - k) (m.drop (at' + k * (7 + gap)))) ds us) ∧ Ext w wr) (fun _ _ v16 _ => n - (intOf v16).toNat)
  case atStart => exact ⟨0, ⟨#[]⟩, ⟨#[]⟩, [], [], Nat.zero_le _, rfl, rfl, rfl, Lib.hid ⟨rfl, rfl, rfl, rfl⟩, Lib.hid (by rw [Ea.sofar_nil, Nat.sub_zero, Nat.zero_mul, Nat.add_zero]; exact HRES.out.symm), Ext.refl w⟩
  case round =>
    obtain ⟨k, D, T, ds, us, hk, rfl, rfl, rfl, HDT, HR, hxr⟩ := hrel
    by_cases hlt : k < n
    · have hkn : decide ((k : Int) < (n : Int)) = true := decide_eq_true (by omega)
      obtain ⟨x, hx⟩ : ∃ x, k * (7 + gap) = x := ⟨_, rfl⟩
      have hxi : (k : Int) * (7 + (gap : Int)) = (x : Int) := by rw [← hx]; push_cast; rfl
      have hx54 : x ≤ 54 := by rw [← hx]; exact Nat.le_trans (Nat.mul_le_mul (show k ≤ 6 by omega) (show 7 + gap ≤ 9 by omega)) (by decide)
      obtain ⟨y, hy⟩ : ∃ y, at' + x = y := ⟨_, rfl⟩
      have hyi : (at' : Int) + (x : Int) = (y : Int) := by omega
      obtain ⟨z, hz⟩ : ∃ z, y + 7 = z := ⟨_, rfl⟩
      have hzi : (y : Int) + 7 = (z : Int) := by omega
      have hzm : z ≤ m.length := by
        have h1 : (k + 1) * (7 + gap) ≤ n * (7 + gap) := Nat.mul_le_mul hlt (Nat.le_refl _)
        have h2 : (k + 1) * (7 + gap) = x + (7 + gap) := by rw [Nat.succ_mul, hx]
        have := HLEN.out
        omega
      obtain ⟨pv, hp1, hp2⟩ := slice_bools HV.out y z (by omega) (by rw [List.length_map]; exact hzm)
      rw [← List.map_drop, ← List.map_take, show z - y = 7 by omega] at hp2
      obtain ⟨p, hpp⟩ : ∃ p, (m.drop y).take 7 = p := ⟨_, rfl⟩
      rw [hpp] at hp2
      have hpl : p.length = 7 := by rw [← hpp, List.length_take, List.length_drop]; omega
      obtain ⟨F⟩ := found_of ht HSP.out p ds us
      have HF1 := Lib.hid F.start
      have HF2 := Lib.hid F.yes
      have HF3 := Lib.hid F.no
      have HF4 := Lib.hid F.next
      have HF5 := Lib.hid F.stop
      have HF6 := Lib.hid F.small
      obtain ⟨X, hX⟩ : ∃ X, F.X = X := ⟨_, rfl⟩
      obtain ⟨Y, hY⟩ : ∃ Y, F.Y = Y := ⟨_, rfl⟩
      obtain ⟨B, hB⟩ : ∃ B, F.B = B := ⟨_, rfl⟩
      rw [hX, hY, hB] at HF1 HF2 HF3 HF4 HF5
      rw [hX, hY] at HF6
      have HP := Lib.hid hp2
      have HPL := Lib.hid hpl
      have HXX : Hid (k * (7 + gap) = x ∧ at' + x = y ∧ y + 7 = z ∧ (m.drop y).take 7 = p) := Lib.hid ⟨hx, hy, hz, hpp⟩
      have HL : Hid (Ea.look both t p = Ea.look both t ((m.drop (at' + k * (7 + gap))).take 7)) := Lib.hid (by rw [hx, hy, hpp])
      obtain ⟨lk, hlk⟩ : ∃ lk, Ea.look both t p = lk := ⟨_, rfl⟩
      rw [hlk] at HF5 HL
      clear hX hY hB hp2 hpl hx hy hz hpp hlk F
      have HS6 : Hid (∀ d u, (X d u).size ≤ 7 ∧ (Y d u).size ≤ 7) := Lib.hid (fun d u => by have := HF6.out d u; have h3 := HDT.out; omega)
      have hD : D = X 0 lo := by rw [HF1.out.1]; exact HDT.out.1
      have hT : T = Y 0 lo := by rw [HF1.out.2.1]; exact HDT.out.2.1
      subst hD hT
      have hB0 : B 0 lo = false := HF1.out.2.2
      clear HF1 HF6
      go_wp2_with fail
      go_loopw [14, 15, 18, 19] (fun v14 v15 v18 v19 wq => ∃ d : Nat, d ≤ 10 ∧ v14 = .string (X d lo) ∧ v15 = .string (Y d lo) ∧ v18 = .bool (B d lo) ∧ v19 = .int .i64 (d : Int) ∧ Ext w wq) (fun _ _ _ v19 _ => 10 - (intOf v19).toNat)
      case atStart => exact ⟨0, Nat.zero_le _, rfl, rfl, by rw [hB0], rfl, hxr⟩
      case round =>
        obtain ⟨d, hd, rfl, rfl, rfl, rfl, hxq⟩ := hrel
        by_cases hdt : d < 10
        · have hdd : decide ((d : Int) < 10) = true := decide_eq_true (by omega)
          go_wp2_with fail
          go_loopw [14, 15, 18, 20] (fun v14 v15 v18 v20 ws => ∃ u : Nat, lo ≤ u ∧ u ≤ hi + 1 ∧ v14 = .string (X d u) ∧ v15 = .string (Y d u) ∧ v18 = .bool (B d u) ∧ v20 = .int .i64 (u : Int) ∧ Ext w ws) (fun _ _ _ v20 _ => hi + 1 - (intOf v20).toNat)
          case atStart => exact ⟨lo, Nat.le_refl _, by have := HSP.out; unfold span at this; split at this <;> omega, rfl, rfl, rfl, rfl, hxq⟩
          case round =>
            obtain ⟨u, hul, huh, rfl, rfl, rfl, rfl, hxs⟩ := hrel
            by_cases hut : u ≤ hi
            · have hud : decide ((u : Int) ≤ (hi : Int)) = true := decide_eq_true (by omega)
              have HTB := Lib.hid (fun w => xtable_any d u hdt (by omega) w)
              have HY := HF2.out d u hdt hul hut
              have HN := HF3.out d u hdt hul hut
              have hs1 := HS6.out d u
              obtain ⟨hs1, hs2⟩ := hs1
              have hml : (Ea.modl u d).length ≤ 1000000 := by have := modl_len7 ⟨u, by omega⟩ ⟨d, hdt⟩; dsimp only at this; omega
              have HML := Lib.hid hml
              generalize Ea.modl u d = md at *
              cases hq : decide (p = md)
              · obtain ⟨n1, n2, n3⟩ := HN hq
                have HNN := Lib.hid (And.intro n1 (And.intro n2 n3))
                clear HY HN n1 n2 n3 hml
                go_wp2_with fail
                refine (HTB.out _).mono ?_
                rintro e w1 ⟨tv, rfl, hown, hx1⟩
                have HE := Lib.hid (xEqual_any pv tv p md w1 ((HP.out.ext hxs).ext hx1) hown.slk (by have := HPL.out; omega) HML.out)
                rw [hq] at HE
                clear hq
                go_wp2_with fail
                refine HE.out.mono ?_
                rintro e w2 ⟨rfl, hx2⟩
                go_wp2
                go_roundw
                case rel => exact ⟨u + 1, by omega, by omega, by rw [HNN.out.1], by rw [HNN.out.2.1], by rw [HNN.out.2.2], by go_num, (hxs.trans hx1).trans hx2⟩
                case measure => simp [intOf]; omega
              · obtain ⟨n1, n2, n3⟩ := HY hq
                have HNN := Lib.hid (And.intro n1 (And.intro n2 n3))
                clear HY HN n1 n2 n3 hml
                go_wp2_with fail
                refine (HTB.out _).mono ?_
                rintro e w1 ⟨tv, rfl, hown, hx1⟩
                have HE := Lib.hid (xEqual_any pv tv p md w1 ((HP.out.ext hxs).ext hx1) hown.slk (by have := HPL.out; omega) HML.out)
                rw [hq] at HE
                clear hq
                go_wp2_with fail
                refine HE.out.mono ?_
                rintro e w2 ⟨rfl, hx2⟩
                have hcv1 := conv_one w2 (Ea.chr d) (48 + (d : Int)) (by have h := achr_byte ⟨d, hdt⟩; dsimp only at h; rw [h]; omega)
                have hcv2 := conv_one (w2.alloc (.cells #[.int .u8 (48 + (d : Int))] 5)) (Ea.chr u) (48 + (u : Int)) (by have h := achr_byte ⟨u, by omega⟩; dsimp only at h; rw [h]; omega)
                rw [show (w2.alloc (.cells #[.int .u8 (48 + (d : Int))] 5)).heap.size = w2.heap.size + 1 by simp] at hcv2
                have hz1 : (Ea.bS [Ea.chr d]).size = 1 := rfl
                have hz2 : (Ea.bS [Ea.chr u]).size = 1 := rfl
                generalize Ea.bS [Ea.chr d] = CD at *
                generalize Ea.bS [Ea.chr u] = CU at *
                have HXE := Lib.hid ((((hxs.trans hx1).trans hx2).alloc (.cells #[.int .u8 (48 + (d : Int))] 5)).alloc (.cells #[.int .u8 (48 + (u : Int))] 5))
                clear hxs hx1 hx2
                go_wp2
                go_roundw
                case rel => exact ⟨u + 1, by omega, by omega, by rw [HNN.out.1], by rw [HNN.out.2.1], by rw [HNN.out.2.2], by go_num, HXE.out⟩
                case measure => simp [intOf]; omega
            · obtain rfl : u = hi + 1 := by omega
              have hud : decide (((hi + 1 : Nat) : Int) ≤ (hi : Int)) = false := decide_eq_false (by omega)
              obtain ⟨e1, e2, e3⟩ := HF4.out d
              rw [e1, e2, e3]
              clear e1 e2 e3 hul huh hut
              generalize ((hi + 1 : Nat) : Int) = hh at *
              go_wp2
              go_roundw
              case rel => exact ⟨d + 1, by omega, rfl, rfl, rfl, by go_num, hxs⟩
              case measure => simp [intOf]; omega
        · obtain rfl : d = 10 := by omega
          have hdd : decide (((10 : Nat) : Int) < 10) = false := by decide
          obtain ⟨b, hb⟩ : ∃ b, B 10 lo = b := ⟨_, rfl⟩
          rw [hb] at HF5 ⊢
          clear hd hdt hb
          cases hlo : lk with
          | none =>
            rw [hlo] at HF5 HL
            have hbf : b = false := HF5.out.1
            subst hbf
            have HG : Hid (res = none) := Lib.hid (by
              obtain ⟨q, hq⟩ : ∃ q, n - k = q + 1 := ⟨n - k - 1, by omega⟩
              rw [HR.out, hq, Ea.rcg_none (by rw [← HL.out])]; rfl)
            clear HF5
            go_wp2
            go_ret2
            exact ⟨by rw [HG.out]; rfl, hxq⟩
          | some q =>
            obtain ⟨d0, u0⟩ := q
            rw [hlo] at HF5 HL
            have hbf : b = true := HF5.out.1
            subst hbf
            obtain ⟨e1, e2⟩ := HF5.out.2 d0 u0 rfl
            have HE1 : Hid (X 10 lo = Ea.bS (ds ++ [Ea.chr d0]) ∧ Y 10 lo = Ea.bS (zS (us ++ [u0])) ∧ (ds ++ [Ea.chr d0]).length = k + 1 ∧ (us ++ [u0]).length = k + 1) := Lib.hid ⟨e1, e2, by rw [List.length_append, HDT.out.2.2.1]; rfl, by rw [List.length_append, HDT.out.2.2.2]; rfl⟩
            have HR2 : Hid (res = Ea.sofar (Ea.rcg both t gap (n - (k + 1)) (m.drop (at' + (k + 1) * (7 + gap)))) (ds ++ [Ea.chr d0]) (us ++ [u0])) := Lib.hid (by
              rw [HR.out, show n - k = (n - (k + 1)) + 1 by omega, Ea.rcg_some (by rw [← HL.out]), List.drop_drop, show at' + (k + 1) * (7 + gap) = at' + k * (7 + gap) + (7 + gap) by rw [Nat.succ_mul]; omega])
            clear HF5 e1 e2
            go_wp2
            go_roundw
            case rel => exact ⟨k + 1, _, _, _, _, by omega, rfl, rfl, by go_num, HE1, HR2, hxq⟩
            case measure => simp [intOf]; omega
    · obtain rfl : k = n := by omega
      have hkn : decide ((k : Int) < (k : Int)) = false := decide_eq_false (by omega)
      have HG : Hid (res = some (ds, us)) := Lib.hid (by rw [HR.out, Nat.sub_self, Ea.rcg, Ea.sofar_end])
      have HD2 : Hid (D = Ea.bS ds ∧ T = Ea.bS (zS us)) := Lib.hid ⟨HDT.out.1, HDT.out.2.1⟩
      clear hk hlt HR
      go_wp2
      go_ret2
      exact ⟨by rw [HG.out]; unfold readV; dsimp only; rw [← HD2.out.1, ← HD2.out.2]; rfl, hxr⟩
end Go.Proofs.YtfpliihglgjijaaGreat
