/-
  'insert' of the reference, walked.
  Condition: the list is of moderate length.
-/
import Derived.Test.YtkpfehfcgpapiaaGreatDoorStr
import Derived.Test.YtkpfehfcgpapiaaGreatDoorCdM5
import Derived.Laws.AppendOwnNone
namespace Go.Proofs.YtkpfehfcgpapiaaGreatDoor
open Go.RowKit Go.Sort

/-- Strings of the call's own are returned. -/
def RetOwn (w : World) (ss : List (List UInt8)) (e : Ending) (w' : World) : Prop := ∃ v, e = .returned v ∧ OwnS w' w.heap.size v ss ∧ Ext w w'

theorem wpList_append_strs {w : World} {ops : Array Oper} {rest : List Oper} {o : Oper} {a : Act} {Q : Exit → Act → World → Prop} (hgd : o.guard = none) (s x : Operand)
    (ho : o.op = .call { callee := .builtin .append, args := #[s, x], argTypes := #[37, 37] })
    (B : Nat) (v : Value) (ss : List (List UInt8)) (hs : a.eval s = v) (hown : OwnS w B v ss) (ts : List (List UInt8)) (b off m c : Nat) (hx : a.eval x = .slice (some ⟨b, off, none⟩) m c) (hm : m = ts.length)
    (hc : ∀ j, j < ts.length → w.cell? ⟨b, off + j, none⟩ = some (.string ⟨(ts.getD j []).toArray⟩)) (hn : ss.length + ts.length ≤ 1000000000) (hB : B ≤ w.heap.size)
    (h : ∀ v' w', OwnS w' B v' (ss ++ ts) → w.grownBy w' v.ownBlock → wpList Tryz.prog ops Q rest (a.put o.dst v') w') : wpList Tryz.prog ops Q (o :: rest) a w := by
  obtain ⟨i0, hi, hz0, hz1, hz2⟩ := info_parts info_str
  subst hm
  refine wpList_append_own _ hgd s x 37 ho B 9 i0 (.string ⟨#[]⟩) 1 16 Tryz.underlying37 hi hz0 hz1 hz2 rfl (by decide) v ss.length (ss.map encStr) hs hown ⟨b, off, none⟩ ts.length c (ts.map encStr) hx (by simp) ?_ ?_ ?_ ?_ hB ?_
  · intro j u hj
    have hj' : j < ts.length := by
      have := (List.getElem?_eq_some_iff.1 hj).1
      simpa using this
    rw [List.getElem?_map, List.getElem?_eq_getElem hj'] at hj
    simp only [Option.map_some, Option.some.injEq] at hj
    have := hc j hj'
    rw [List.getD_eq_getElem?_getD, List.getElem?_eq_getElem hj'] at this
    rw [show (Addr.add ⟨b, off, none⟩ j) = ⟨b, off + j, none⟩ from Go.WideShapes.add_plain .. , this, ← hj]
    rfl
  · intro u hu
    obtain ⟨y, _, rfl⟩ := List.mem_map.1 hu
    rfl
  · unfold maxLen; omega
  · omega
  · intro v' w' h1 h2 _
    refine h v' w' ?_ h2
    unfold OwnS
    rw [List.map_append, List.length_append]
    exact h1

theorem while_cut (ss : List (List UInt8)) (t : List UInt8) (j : Nat) (hj : j ≤ ss.length) (h1 : ∀ i, i < j → ss.getD i [] < t) (h2 : j < ss.length → ¬ ss.getD j [] < t) :
    ss.takeWhile (fun x => decide (x < t)) = ss.take j ∧ ss.dropWhile (fun x => decide (x < t)) = ss.drop j := by
  induction ss generalizing j with
  | nil => simp at hj; subst hj; simp
  | cons a ss ih =>
    cases j with
    | zero =>
      have := h2 (by simp)
      simp only [List.getD_cons_zero] at this
      rw [List.takeWhile_cons_of_neg (by simpa using this), List.dropWhile_cons_of_neg (by simpa using this)]
      simp
    | succ j =>
      have ha := h1 0 (by omega)
      simp only [List.getD_cons_zero] at ha
      obtain ⟨e1, e2⟩ := ih j (by simpa using hj) (fun i hi => by have := h1 (i + 1) (by omega); simpa using this) (fun hl => by have := h2 (by simpa using hl); simpa using this)
      rw [List.takeWhile_cons_of_pos (by simpa using ha), List.dropWhile_cons_of_pos (by simpa using ha), e1, e2]
      simp

set_option maxRecDepth 100000 in
set_option maxHeartbeats 1000000 in
theorem insert_nil (t : ByteArray) (w : World) :
    Calls Tryz.prog 108 #[.slice none 0 0, .string t] w (RetOwn w (Cd.ins [] t.data.toList)) := by
  obtain ⟨i0, hi, hz0, hz1, hz2⟩ := info_parts info_str
  have HI := Lib.hid hi
  have H0 := Lib.hid hz0
  have H1 := Lib.hid hz1
  have H2 := Lib.hid hz2
  clear hi hz0 hz1 hz2
  have hE : Cd.ins [] t.data.toList = [] ++ [t.data.toList] := rfl
  rw [hE]
  go_enter Tryz.func108, Tryz.ntmps108
  go_wp2
  go_loop [5, 6] (fun v i => v = .slice none 0 0 ∧ i = .int .i64 0) (fun _ _ => 0)
  case atStart => exact ⟨rfl, rfl⟩
  case round =>
    obtain ⟨rfl, rfl⟩ := hrel
    go_wp2_with (at_builtin; refine wpList_append_str rfl _ _ rfl w.heap.size (.slice none 0 0) [] rfl ((OwnS.nil w _).alloc _) t _ rfl ?c1 ?c2 ?c3 ?_)
    intro v' w5 hown5 hg5
    have hx5 := ((Ext.refl w).alloc _).grownBy hg5 (fun k h => by simp [Value.ownBlock] at h)
    go_wp2_with (at_builtin; refine wpList_append_own_none rfl _ _ 37 rfl w.heap.size 9 i0 1 Tryz.underlying37 HI.out _ _ _ rfl hown5 rfl ?_)
    go_wp2
    go_ret
    exact ⟨_, rfl, hown5, hx5⟩

set_option maxRecDepth 100000 in
set_option maxHeartbeats 2000000 in
theorem insert_some (g cap : Nat) (ss : List (List UInt8)) (t : ByteArray) (w : World) (hg : g < w.heap.size) (hlc : ss.length ≤ cap) (hcap : cap ≤ maxLen) (hl : ss.length ≤ 1000000)
    (hc : ∀ i, i < ss.length → w.cell? ⟨g, i, none⟩ = some (.string ⟨(ss.getD i []).toArray⟩)) :
    Calls Tryz.prog 108 #[.slice (some ⟨g, 0, none⟩) ss.length cap, .string t] w (RetOwn w (Cd.ins ss t.data.toList)) := by
  have HC := Lib.hid hc
  have HG := Lib.hid hg
  unfold maxLen at hcap
  clear hc hg
  go_enter Tryz.func108, Tryz.ntmps108
  go_wp2
  go_loopw [5, 6] (fun v i wr => ∃ j : Nat, j ≤ ss.length ∧ i = .int .i64 (j : Int) ∧ OwnS wr w.heap.size v (ss.take j) ∧ Hid (∀ i, i < j → ss.getD i [] < t.data.toList) ∧ Ext w wr) (fun _ i _ => ss.length - (intOf i).toNat)
  case atStart => exact ⟨0, Nat.zero_le _, rfl, OwnS.nil _ _, fun i hi => by omega, Ext.refl _⟩
  case round =>
    obtain ⟨j, hj, rfl, hown, hless, hxr⟩ := hrel
    have htl : (ss.take j).length = j := by rw [List.length_take]; omega
    by_cases hlt : j < ss.length
    · have hcell : wr.cell? ⟨g, j, none⟩ = some (.string ⟨(ss.getD j []).toArray⟩) := by rw [hxr.cell (p := ⟨g, j, none⟩) HG.out]; exact HC.out j hlt
      have hbl := bytesLess_eq (ss.getD j []) t.data.toList
      cases hb : Op.bytesLess (ss.getD j []) t.toList
      · have hnl : ¬ ss.getD j [] < t.data.toList := by
          rw [← decide_eq_false_iff_not, ← hbl, ← Lib.toList_data]; exact hb
        have HIN : Hid (Cd.ins ss t.data.toList = ss.take j ++ [t.data.toList] ++ ss.drop j) := by
          obtain ⟨e1, e2⟩ := while_cut ss t.data.toList j hj hless.out (fun _ => hnl)
          show _ = _; unfold Cd.ins; rw [e1, e2]
        generalize ss.getD j [] = y at *
        clear hbl hnl
        have hjc : j < cap := by omega
        go_wp2_with (at_builtin; refine wpList_append_str rfl _ _ rfl w.heap.size _ _ rfl (hown.alloc _) t _ rfl ?c1 ?c2 ?c3 ?_)
        case c1 => simp [go_sem]
        case c2 => omega
        case c3 => have := hxr.size; simp; omega
        intro v5 w5 hown5 hg5
        have hx5 := (hxr.alloc _).grownBy hg5 hown.low
        go_wp2_with (at_builtin; refine wpList_append_strs rfl _ _ rfl w.heap.size _ _ rfl hown5 (ss.drop j) g j (ss.length - j) _ rfl ?d1 ?d2 ?d3 ?d4 ?_)
        case d1 => rw [List.length_drop]
        case d2 => intro i hi; rw [List.length_drop] at hi; rw [hx5.cell (p := ⟨g, j + i, none⟩) HG.out, HC.out (j + i) (by omega)]; simp [List.getD_eq_getElem?_getD]
        case d3 => simp; omega
        case d4 => exact hx5.size
        intro v6 w6 hown6 hg6
        have hx6 := hx5.grownBy hg6 hown5.low
        go_wp2
        go_ret
        exact ⟨_, rfl, by rw [HIN.out]; simpa using hown6, hx6⟩
      · have hlt2 : ss.getD j [] < t.data.toList := by
          rw [← decide_eq_true_eq (p := ss.getD j [] < t.data.toList), ← hbl, ← Lib.toList_data]; exact hb
        have HL : Hid (∀ i, i < j + 1 → ss.getD i [] < t.data.toList) := fun i hi => by
          by_cases e : i = j
          · subst e; exact hlt2
          · exact hless.out i (by omega)
        have HTK : Hid (ss.take (j + 1) = ss.take j ++ [ss.getD j []]) := by
          show _ = _
          rw [List.take_succ_eq_append_getElem hlt, List.getD_eq_getElem?_getD, List.getElem?_eq_getElem hlt]; rfl
        generalize ss.getD j [] = y at *
        clear hbl hlt2
        go_wp2_with (at_builtin; refine wpList_append_str rfl _ _ rfl w.heap.size _ _ rfl (hown.alloc _) ⟨y.toArray⟩ _ rfl ?c1 ?c2 ?c3 ?_)
        case c1 => simp [go_sem]
        case c2 => omega
        case c3 => have := hxr.size; simp; omega
        intro v' w5 hown5 hg5
        have hx5 := (hxr.alloc _).grownBy hg5 hown.low
        go_wp2
        go_roundw
        case rel => exact ⟨j + 1, by omega, by go_num, by rw [HTK.out]; exact hown5, HL, hx5⟩
        case measure => simp [intOf]; omega
    · obtain rfl : j = ss.length := by omega
      have HIN : Hid (Cd.ins ss t.data.toList = ss.take ss.length ++ [t.data.toList] ++ []) := by
        obtain ⟨e1, e2⟩ := while_cut ss t.data.toList ss.length hj hless.out (fun h => absurd h hlt)
        show _ = _; unfold Cd.ins; rw [e1, e2, List.drop_length]
      rw [List.take_length] at hown HIN
      clear hj hlt htl
      by_cases hjc : ss.length < cap
      · have hjc' : ¬ cap = ss.length := by omega
        go_wp2_with (at_builtin; refine wpList_append_str rfl _ _ rfl w.heap.size _ _ rfl (hown.alloc _) t _ rfl ?c1 ?c2 ?c3 ?_)
        case c1 => simp [go_sem]
        case c2 => omega
        case c3 => have := hxr.size; simp; omega
        intro v5 w5 hown5 hg5
        have hx5 := (hxr.alloc _).grownBy hg5 hown.low
        go_wp2_with (at_builtin; refine wpList_append_strs rfl _ _ rfl w.heap.size _ _ rfl hown5 [] g ss.length 0 _ rfl ?d1 ?d2 ?d3 ?d4 ?_)
        case d1 => rfl
        case d2 => intro i hi; simp at hi
        case d3 => simp; omega
        case d4 => exact hx5.size
        intro v6 w6 hown6 hg6
        have hx6 := hx5.grownBy hg6 hown5.low
        go_wp2
        go_ret
        exact ⟨_, rfl, by rw [HIN.out]; simpa using hown6, hx6⟩
      · obtain rfl : cap = ss.length := by omega
        clear hjc hlc
        go_wp2_with (at_builtin; refine wpList_append_str rfl _ _ rfl w.heap.size _ _ rfl (hown.alloc _) t _ rfl ?c1 ?c2 ?c3 ?_)
        case c1 => simp [go_sem]
        case c2 => omega
        case c3 => have := hxr.size; simp; omega
        intro v5 w5 hown5 hg5
        have hx5 := (hxr.alloc _).grownBy hg5 hown.low
        go_wp2_with (at_builtin; refine wpList_append_strs rfl _ _ rfl w.heap.size _ _ rfl hown5 [] g 0 0 _ rfl ?d1 ?d2 ?d3 ?d4 ?_)
        case d1 => rfl
        case d2 => intro i hi; simp at hi
        case d3 => simp; omega
        case d4 => exact hx5.size
        intro v6 w6 hown6 hg6
        have hx6 := hx5.grownBy hg6 hown5.low
        go_wp2
        go_ret
        exact ⟨_, rfl, by rw [HIN.out]; simpa using hown6, hx6⟩

/-- 'insert' on a slice of the call's own. -/
theorem insert_own (B : Nat) (v : Value) (ss : List (List UInt8)) (t : ByteArray) (w : World) (h : OwnS w B v ss) (hl : ss.length ≤ 1000000) :
    Calls Tryz.prog 108 #[v, .string t] w (RetOwn w (Cd.ins ss t.data.toList)) := by
  have hst := h.strs
  rcases h.2 with ⟨hnil, h0⟩ | ⟨g, cap, cur, hv, hbase, hb, h1, h2, h3, h4⟩
  · have hss : ss = [] := List.eq_nil_of_length_eq_zero h0
    subst hss hnil
    exact insert_nil t w
  · subst hv
    rcases hst with ⟨rfl, a, c, e⟩ | ⟨b, off, cap', e, hb', hc⟩
    · exact insert_some g cap [] t w (Array.getElem?_eq_some_iff.1 hb).1 h1 h2 (by simp) (fun i hi => by simp at hi)
    · injection e with e1 e2 e3
      injection e1 with e1
      injection e1 with e1 e4
      subst e1 e4
      exact insert_some g cap ss t w hb' h1 h2 hl (fun i hi => by have := hc i hi; rwa [Nat.zero_add] at this)
end Go.Proofs.YtkpfehfcgpapiaaGreatDoor
