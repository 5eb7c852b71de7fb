/-
  Chapter 14: prefix and verifyAll, walked.
  Condition: the map is the table of application identifiers.
-/
import Derived.Test.YteojfkffmbcedaaGreatDoorGsW6
import Derived.Test.YteojfkffmbcedaaGreatDoorEl
import Derived.Lib.SmallJoins
namespace Go.Proofs.YteojfkffmbcedaaGreatDoor
set_option linter.unusedVariables false
open Go.RowKit Go.WideMaps Go.Maps

/-- What prefix returns. -/
def preV : Option (List UInt8 × Gs.Rule) → Value
  | none => .tuple #[.string ⟨#[]⟩, ruleV (0, 0, 0, 0), .bool false]
  | some (a, r) => .tuple #[encS a, ruleV r, .bool true]
def PreR (o : Option (List UInt8 × Gs.Rule)) (w : World) (e : Ending) (w' : World) : Prop := e = .returned (preV o) ∧ Ext w w'
/-- The cell of the rule. -/
def RuleAt (w : World) (b : Nat) (r : Gs.Rule) : Prop := w.heap[b]? = some (.cells #[.int .i64 r.1, .int .i64 r.2.1, .int .i64 r.2.2.1, .int .u8 (r.2.2.2.toNat : Int)] 38 (0, 0))
theorem RuleAt.cells {w : World} {b : Nat} {r : Gs.Rule} (h : RuleAt w b r) : w.cell? ⟨b, 0, none⟩ = some (.int .i64 r.1) ∧ w.cell? ⟨b, 1, none⟩ = some (.int .i64 r.2.1) ∧ w.cell? ⟨b, 2, none⟩ = some (.int .i64 r.2.2.1) ∧ w.cell? ⟨b, 3, none⟩ = some (.int .u8 (r.2.2.2.toNat : Int)) := by
  unfold RuleAt at h
  refine ⟨?_, ?_, ?_, ?_⟩
  all_goals unfold World.cell?; rw [h]; rfl
theorem RuleAt.free {w : World} {b : Nat} {r : Gs.Rule} (h : RuleAt w b r) (i : Nat) : w.frozen? ⟨b, i, none⟩ = false := Lib.frozen_of_heap h i
theorem RuleAt.put {w : World} {b : Nat} {r : Gs.Rule} (h : RuleAt w b r) (q : Gs.Rule) : RuleAt ((((w.setCell ⟨b, 0, none⟩ (.int .i64 q.1)).setCell ⟨b, 1, none⟩ (.int .i64 q.2.1)).setCell ⟨b, 2, none⟩ (.int .i64 q.2.2.1)).setCell ⟨b, 3, none⟩ (.int .u8 (q.2.2.2.toNat : Int))) b q :=
  Joins.block_setCell (Joins.block_setCell (Joins.block_setCell (Joins.block_setCell h _) _) _) _
theorem set_same {w : World} {b i : Nat} {cs : Array Value} {T : TypeId} {fr : Nat × Nat} {v : Value} (h : w.heap[b]? = some (.cells cs T fr)) (hi : i < cs.size) : (w.setCell ⟨b, i, none⟩ v).cell? ⟨b, i, none⟩ = some v := by
  unfold World.cell?; rw [Joins.block_setCell h]; simp [hi]
theorem RuleAt.puts {w : World} {b : Nat} {r : Gs.Rule} (h : RuleAt w b r) (q : Gs.Rule) :
    (w.setCell ⟨b, 0, none⟩ (.int .i64 q.1)).cell? ⟨b, 0, none⟩ = some (.int .i64 q.1) ∧
    ((w.setCell ⟨b, 0, none⟩ (.int .i64 q.1)).setCell ⟨b, 1, none⟩ (.int .i64 q.2.1)).cell? ⟨b, 1, none⟩ = some (.int .i64 q.2.1) ∧
    (((w.setCell ⟨b, 0, none⟩ (.int .i64 q.1)).setCell ⟨b, 1, none⟩ (.int .i64 q.2.1)).setCell ⟨b, 2, none⟩ (.int .i64 q.2.2.1)).cell? ⟨b, 2, none⟩ = some (.int .i64 q.2.2.1) ∧
    ((((w.setCell ⟨b, 0, none⟩ (.int .i64 q.1)).setCell ⟨b, 1, none⟩ (.int .i64 q.2.1)).setCell ⟨b, 2, none⟩ (.int .i64 q.2.2.1)).setCell ⟨b, 3, none⟩ (.int .u8 (q.2.2.2.toNat : Int))).cell? ⟨b, 3, none⟩ = some (.int .u8 (q.2.2.2.toNat : Int)) :=
  ⟨set_same h (by simp), set_same (Joins.block_setCell h _) (by simp), set_same (Joins.block_setCell (Joins.block_setCell h _) _) (by simp), set_same (Joins.block_setCell (Joins.block_setCell (Joins.block_setCell h _) _) _) (by simp)⟩
theorem RuleAt.puts0 {w : World} {b : Nat} {r : Gs.Rule} (h : RuleAt w b r) :
    (w.setCell ⟨b, 0, none⟩ (.int .i64 0)).cell? ⟨b, 0, none⟩ = some (.int .i64 0) ∧
    ((w.setCell ⟨b, 0, none⟩ (.int .i64 0)).setCell ⟨b, 1, none⟩ (.int .i64 0)).cell? ⟨b, 1, none⟩ = some (.int .i64 0) ∧
    (((w.setCell ⟨b, 0, none⟩ (.int .i64 0)).setCell ⟨b, 1, none⟩ (.int .i64 0)).setCell ⟨b, 2, none⟩ (.int .i64 0)).cell? ⟨b, 2, none⟩ = some (.int .i64 0) ∧
    ((((w.setCell ⟨b, 0, none⟩ (.int .i64 0)).setCell ⟨b, 1, none⟩ (.int .i64 0)).setCell ⟨b, 2, none⟩ (.int .i64 0)).setCell ⟨b, 3, none⟩ (.int .u8 0)).cell? ⟨b, 3, none⟩ = some (.int .u8 0) := h.puts (0, 0, 0, 0)
theorem RuleAt.ext {w w' : World} {b : Nat} {r : Gs.Rule} (h : RuleAt w b r) (hx : Ext w w') : RuleAt w' b r := by
  unfold RuleAt at h ⊢
  have hb : b < w.heap.size := by
    rcases Nat.lt_or_ge b w.heap.size with hh | hh
    · exact hh
    · rw [Array.getElem?_eq_none hh] at h; simp at h
  rw [hx.block b hb]; exact h
theorem pre_at {l : List UInt8} (n : Nat) (h0 : ∀ j, 2 ≤ j → j < n → Gs.preN l j = none) (h2 : 2 ≤ n) (h4 : n ≤ 4) {a : List UInt8 × Gs.Rule} (h : Gs.preN l n = some a) : Gs.pre l = some a := by
  unfold Gs.pre
  have : n = 2 ∨ n = 3 ∨ n = 4 := by omega
  rcases this with rfl | rfl | rfl
  · rw [h]; rfl
  · rw [h0 2 (by omega) (by omega), h]; rfl
  · rw [h0 2 (by omega) (by omega), h0 3 (by omega) (by omega), h]; rfl
theorem pre_no {l : List UInt8} (n : Nat) (h0 : ∀ j, 2 ≤ j → j < n → Gs.preN l j = none) (h2 : 2 ≤ n) (h : 4 < n ∨ l.length < n) : Gs.pre l = none := by
  have key : ∀ j, 2 ≤ j → j ≤ 4 → Gs.preN l j = none := by
    intro j h1 h3
    rcases Nat.lt_or_ge j n with hh | hh
    · exact h0 j h1 hh
    · unfold Gs.preN
      rw [if_neg (by omega)]
  unfold Gs.pre
  rw [key 2 (by omega) (by omega), key 3 (by omega) (by omega), key 4 (by omega) (by omega)]; rfl

set_option maxRecDepth 100000 in
set_option maxHeartbeats 2000000 in
theorem prefix_any (s : ByteArray) (b : Nat) (w : World) (hd : Dir w b) (hs : s.size ≤ 1000000) :
    Calls Tryz.prog 49 #[.map (some b), .string s] w (PreR (Gs.pre s.data.toList) w) := by
  have HF := Lib.hid (fun (n : Nat) (w' : World) (hx : Ext w w') => find_any (s.extract 0 n) b w' (hd.ext hx) (by unfold maxLen; rw [ByteArray.size_extract]; omega))
  have HP := Lib.hid (@pre_at s.data.toList)
  have HN := Lib.hid (@pre_no s.data.toList)
  have HE := Lib.hid (fun n => Gs.preN.eq_1 s.data.toList n)
  have HC := Lib.hid (fun n => cut_front s n)
  have hlen := len_data s
  generalize Gs.pre s.data.toList = res at *
  generalize hl : s.data.toList = l at *
  clear hd hl
  have HL := Lib.hid hlen
  clear hlen
  go_enter Tryz.func49, Tryz.ntmps49
  go_wp2
  go_loopw [7] (fun t wr => ∃ n : Nat, 2 ≤ n ∧ n ≤ 5 ∧ t = .int .i64 (n : Int) ∧ Hid (∀ j, 2 ≤ j → j < n → Gs.preN l j = none) ∧ Ext w wr ∧ Hid (∃ r, RuleAt wr w.heap.size r)) (fun t _ => 5 - (intOf t).toNat)
  case atStart => exact ⟨2, by omega, by omega, rfl, Lib.hid (fun j h1 h2 => by omega), (Ext.refl w).alloc _, Lib.hid ⟨(0, 0, 0, 0), heap_alloc_new _ _⟩⟩
  case round =>
    obtain ⟨n, h2, h5, rfl, hno, hx, hr⟩ := hrel
    by_cases h4 : n ≤ 4
    · by_cases hle : n ≤ s.size
      · obtain ⟨r0, hr0⟩ := hr.out
        have H1 := Lib.hid (HF.out n wr hx)
        have HE1 := Lib.hid (HE.out n)
        rw [if_pos (by rw [HL.out]; exact hle)] at HE1
        rw [HC.out] at H1
        obtain ⟨T, hT⟩ : ∃ T, l.take n = T := ⟨_, rfl⟩
        rw [hT] at H1 HE1
        cases hg : Gs.find T with
        | none =>
          rw [hg] at H1 HE1
          have HNX : Hid (∀ j, 2 ≤ j → j < n + 1 → Gs.preN l j = none) := Lib.hid (fun j h1 h3 => by
            rcases Nat.lt_or_ge j n with hh | hh
            · exact hno.out j h1 hh
            · obtain rfl : j = n := by omega
              exact HE1.out)
          clear hg hT HE1
          go_wp2_with fail
          refine H1.out.mono ?_
          rintro e w1 ⟨rfl, hx1⟩
          dsimp only [ruleO, ruleV, Option.isSome]
          have hr1 := hr0.ext hx1
          obtain ⟨c0, c1, c2, c3⟩ := hr1.cells
          have f0 := hr1.free 0
          have f1 := hr1.free 1
          have f2 := hr1.free 2
          have f3 := hr1.free 3
          have HR1 := Lib.hid (hr1.put (0, 0, 0, 0))
          have hxw := hx.trans hx1
          clear hx hx1 hr1 hr0 hr
          go_wp2
          go_roundw
          case rel => exact ⟨n + 1, by omega, by omega, by go_num, HNX, (((hxw.setCell (Nat.le_refl _) _).setCell (Nat.le_refl _) _).setCell (Nat.le_refl _) _).setCell (Nat.le_refl _) _, Lib.hid ⟨_, HR1.out⟩⟩
          case measure => simp [intOf]; omega
        | some r =>
          rw [hg] at H1 HE1
          have HRES : Hid (res = some (T, r)) := Lib.hid (HP.out n hno.out h2 h4 (by rw [HE1.out]; rfl))
          have HT : Hid (encS T = .string (s.extract 0 n)) := Lib.hid (by rw [← hT, ← HC.out, encS_of])
          clear hg HE1 HP HN hT
          obtain ⟨ra, rb, rc, rd⟩ := r
          go_wp2_with fail
          refine H1.out.mono ?_
          rintro e w1 ⟨rfl, hx1⟩
          dsimp only [ruleO, ruleV, Option.isSome]
          have hr1 := hr0.ext hx1
          obtain ⟨c0, c1, c2, c3⟩ := hr1.cells
          have f0 := hr1.free 0
          have f1 := hr1.free 1
          have f2 := hr1.free 2
          have f3 := hr1.free 3
          have hxw := hx.trans hx1
          clear hx hx1 hr0 hr
          have hr2 := hr1.put (ra, rb, rc, rd)
          dsimp only at hr2
          clear hr1
          go_wp2
          have hxw2 : Ext w ((((w1.setCell ⟨w.heap.size, 0, none⟩ (.int .i64 ra)).setCell ⟨w.heap.size, 1, none⟩ (.int .i64 rb)).setCell ⟨w.heap.size, 2, none⟩ (.int .i64 rc)).setCell ⟨w.heap.size, 3, none⟩ (.int .u8 (rd.toNat : Int))) := (((hxw.setCell (Nat.le_refl _) _).setCell (Nat.le_refl _) _).setCell (Nat.le_refl _) _).setCell (Nat.le_refl _) _
          generalize ((((w1.setCell ⟨w.heap.size, 0, none⟩ (.int .i64 ra)).setCell ⟨w.heap.size, 1, none⟩ (.int .i64 rb)).setCell ⟨w.heap.size, 2, none⟩ (.int .i64 rc)).setCell ⟨w.heap.size, 3, none⟩ (.int .u8 (rd.toNat : Int))) = w2 at *
          obtain ⟨g0, g1, g2, g3⟩ := hr2.cells
          dsimp only at g0 g1 g2 g3
          have f0 := hr2.free 0
          have f1 := hr2.free 1
          have f2 := hr2.free 2
          have f3 := hr2.free 3
          have HQ := Lib.hid (hr2.puts (ra, rb, rc, rd))
          clear hr2 hxw c0 c1 c2 c3
          go_region
          all_goals
            go_wp2
            obtain ⟨p0, p1, p2, p3⟩ := HQ.out
            refine bodyPost_ret_by (v := .tuple #[.string (s.extract 0 n), .agg #[.int .i64 ra, .int .i64 rb, .int .i64 rc, .int .u8 (rd.toNat : Int)], .bool true]) (by simp [results, Tryz.results49, go_sem, p0, p1, p2, p3]) rfl ⟨by rw [HRES.out]; simp only [preV, HT.out, ruleV], (by repeat (first | exact Ext.refl _ | assumption | refine Ext.alloc ?_ _ | refine Ext.drew ?_ | refine Ext.drewN ?_ _ | refine Ext.setCell ?_ (Nat.le_refl _) _ | refine Ext.trans ?_ (by assumption)))⟩
      · have HRES : Hid (res = none) := Lib.hid (HN.out n hno.out h2 (.inr (by rw [HL.out]; omega)))
        obtain ⟨r0, hr0⟩ := hr.out
        obtain ⟨c0, c1, c2, c3⟩ := hr0.cells
        have f0 := hr0.free 0
        have f1 := hr0.free 1
        have f2 := hr0.free 2
        have f3 := hr0.free 3
        have HQ := Lib.hid hr0.puts0
        have hle' : (s.size : Int) < (n : Int) := by omega
        clear HP HN hr0 hr
        go_wp2
        obtain ⟨p0, p1, p2, p3⟩ := HQ.out
        refine bodyPost_ret_by (v := .tuple #[.string ⟨#[]⟩, .agg #[.int .i64 0, .int .i64 0, .int .i64 0, .int .u8 0], .bool false]) (by simp [results, Tryz.results49, go_sem, p0, p1, p2, p3]) rfl ⟨by rw [HRES.out]; rfl, (by repeat (first | exact Ext.refl _ | assumption | refine Ext.alloc ?_ _ | refine Ext.drew ?_ | refine Ext.drewN ?_ _ | refine Ext.setCell ?_ (Nat.le_refl _) _ | refine Ext.trans ?_ (by assumption)))⟩
    · have HRES : Hid (res = none) := Lib.hid (HN.out n hno.out h2 (.inl (by omega)))
      obtain ⟨r0, hr0⟩ := hr.out
      obtain ⟨c0, c1, c2, c3⟩ := hr0.cells
      have f0 := hr0.free 0
      have f1 := hr0.free 1
      have f2 := hr0.free 2
      have f3 := hr0.free 3
      have HQ := Lib.hid hr0.puts0
      clear HP HN hr0 hr
      go_wp2
      obtain ⟨p0, p1, p2, p3⟩ := HQ.out
      refine bodyPost_ret_by (v := .tuple #[.string ⟨#[]⟩, .agg #[.int .i64 0, .int .i64 0, .int .i64 0, .int .u8 0], .bool false]) (by simp [results, Tryz.results49, go_sem, p0, p1, p2, p3]) rfl ⟨by rw [HRES.out]; rfl, (by repeat (first | exact Ext.refl _ | assumption | refine Ext.alloc ?_ _ | refine Ext.drew ?_ | refine Ext.drewN ?_ _ | refine Ext.setCell ?_ (Nat.le_refl _) _ | refine Ext.trans ?_ (by assumption)))⟩

set_option maxRecDepth 100000 in
set_option maxHeartbeats 2000000 in
theorem verifyAll_any (v : Value) (xs : List Gs.El) (b : Nat) (w : World) (hd : Dir w b) (hl : ESl w v xs) (hn : xs.length ≤ 1000000000000) (hs : ∀ x ∈ xs, x.1.length ≤ maxLen ∧ x.2.length ≤ maxLen) :
    Calls Tryz.prog 9 #[.map (some b), v] w fun e w' => e = .returned (.int .i64 (Gs.verAll xs)) ∧ Ext w w' := by
  obtain ⟨a, c, rfl⟩ := hl.form
  have HV := Lib.hid (fun (w' : World) (hx : Ext w w') (ai d : ByteArray) (h1 : ai.size ≤ maxLen) (h2 : d.size ≤ maxLen) => verR_walk ai d b w' (hd.ext hx) h1 h2)
  have HL := Lib.hid hl
  have HS := Lib.hid hs
  have HR := Lib.hid (Gs.verAll.eq_1 xs)
  generalize Gs.verAll xs = res at *
  clear hl hd hs
  by_cases h0 : xs = []
  · subst h0
    rw [if_pos rfl] at HR
    clear HV HL HS
    go_enter Tryz.func9, Tryz.ntmps9
    go_wp2
    go_ret
    exact ⟨ret_int HR.out.symm, Ext.refl _⟩
  · rw [if_neg h0] at HR
    obtain ⟨N, hN⟩ : ∃ N, xs.length = N := ⟨_, rfl⟩
    have hN0 : 0 < N := by rw [← hN]; exact List.length_pos_iff.2 h0
    have hN1 : ((N : Int) == 0) = false := by rw [beq_eq_false_iff_ne]; omega
    have HN := Lib.hid hN
    rw [hN] at hn HL ⊢
    clear h0 hN
    go_enter Tryz.func9, Tryz.ntmps9
    go_wp2
    go_loopw [13] (fun t wr => ∃ k : Nat, k ≤ N ∧ t = .int .i64 (k : Int) ∧ Hid (res = Gs.verL (xs.drop k)) ∧ Ext w wr) (fun t _ => N - (intOf t).toNat)
    case atStart => exact ⟨0, Nat.zero_le _, rfl, HR, Ext.refl w⟩
    case round =>
      obtain ⟨k, hk, rfl, hv, hx⟩ := hrel
      by_cases hlt : k < N
      · obtain ⟨x, hxk⟩ : ∃ x, xs[k]? = some x := ⟨_, List.getElem?_eq_getElem (by rw [HN.out]; exact hlt)⟩
        obtain ⟨bb, off, ha, hb, q0, q1⟩ := HL.out.at_ hxk
        subst ha
        have d0 := (hx.cell (p := ⟨bb, off + k * 2, none⟩) hb).trans q0
        have d1 := (hx.cell (p := ⟨bb, off + k * 2 + 1, none⟩) hb).trans q1
        have hdr : xs.drop k = x :: xs.drop (k + 1) := by
          obtain ⟨h1, h2⟩ := List.getElem?_eq_some_iff.1 hxk
          rw [List.drop_eq_getElem_cons h1, h2]
        have HV1 := Lib.hid (hv.out.trans (by rw [hdr, Gs.verL]))
        obtain ⟨s1, s2⟩ := HS.out x (List.mem_of_getElem? hxk)
        obtain ⟨xa, xd⟩ := x
        unfold encS at d0 d1
        dsimp only at d0 d1 s1 s2 HV1
        have HB : Hid ((⟨xa.toArray⟩ : ByteArray).data.toList = xa ∧ (⟨xd.toArray⟩ : ByteArray).data.toList = xd ∧ (⟨xa.toArray⟩ : ByteArray).size ≤ maxLen ∧ (⟨xd.toArray⟩ : ByteArray).size ≤ maxLen) := Lib.hid (by simp [ByteArray.size]; exact ⟨s1, s2⟩)
        generalize (⟨xa.toArray⟩ : ByteArray) = A at *
        generalize (⟨xd.toArray⟩ : ByteArray) = D at *
        clear hxk q0 q1 hdr s1 s2 hv
        go_wp2_with fail
        obtain ⟨b1, b2, b3, b4⟩ := HB.out
        have H1 := Lib.hid (HV.out _ (hx.alloc (.cells #[.string A, .string D] 35)) A D b3 b4)
        rw [b1, b2] at H1
        clear b1 b2 b3 b4
        by_cases hz : Gs.ver xa xd = 0
        · rw [if_pos hz] at HV1
          rw [hz] at H1
          clear hz
          refine H1.out.mono ?_
          rintro e w1 ⟨rfl, hx1⟩
          clear d0 d1
          go_wp2
          go_roundw
          case rel => exact ⟨k + 1, by omega, by go_num, HV1, (hx.alloc _).trans hx1⟩
          case measure => simp [intOf]; omega
        · rw [if_neg hz] at HV1
          obtain ⟨z, hzz⟩ : ∃ z, Gs.ver xa xd = z := ⟨_, rfl⟩
          rw [hzz] at H1 HV1 hz
          have hz1 : (z == 0) = false := by simpa using hz
          clear hzz
          refine H1.out.mono ?_
          rintro e w1 ⟨rfl, hx1⟩
          clear d0 d1
          go_wp2
          go_ret
          exact ⟨ret_int HV1.out.symm, (hx.alloc _).trans hx1⟩
      · obtain rfl : k = N := by omega
        have HV1 : Hid (res = 0) := Lib.hid (by rw [hv.out, ← HN.out, List.drop_length]; rfl)
        clear hk hlt hv
        go_wp2
        go_ret
        exact ⟨ret_int HV1.out.symm, hx⟩
end Go.Proofs.YteojfkffmbcedaaGreatDoor
