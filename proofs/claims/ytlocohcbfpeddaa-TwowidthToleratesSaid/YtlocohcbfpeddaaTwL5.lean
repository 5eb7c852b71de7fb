/-
  Chapter 12: the law TwowidthTolerates, walked.
  Condition: the text is within the reach; the bytes are readable.
-/
import Derived.Test.YtlocohcbfpeddaaTwL3
import Derived.OpenShut
namespace Go.Proofs.Ytlocohcbfpeddaa
open Go.RowKit Go.ChangeShapes Go.WideShapes

/-- A slice of bytes that came in: nil or not. -/
def BytesAt (w : World) (v : Value) (bs : List Int) : Prop :=
  (bs = [] ∧ ∃ a c, v = .slice a 0 c) ∨ ∃ b off cap, v = .slice (some ⟨b, off, none⟩) bs.length cap ∧ b < w.heap.size ∧ (∀ i, i < bs.length → w.cell? ⟨b, off + i, none⟩ = some (.int .u8 (bs.getD i 0))) ∧ (∀ x ∈ bs, 0 ≤ x ∧ x ≤ 255) ∧ bs.length ≤ 9223372036854775807
/-- What is added to width number i. -/
def more (bs : List Int) (i : Nat) : Int := if bs = [] then 0 else bs.getD (i % bs.length) 0 % 3
theorem more_bd (bs : List Int) (i : Nat) : 0 ≤ more bs i ∧ more bs i ≤ 2 := by unfold more; split <;> omega
/-- The widths after j rounds. -/
def tolW (ws bs : List Int) (j : Nat) : List Int := (List.range j).map fun i => 10 * ws.getD i 0 + more bs i
theorem tolW_snoc (ws bs : List Int) (j : Nat) : tolW ws bs (j + 1) = tolW ws bs j ++ [10 * ws.getD j 0 + more bs j] := by unfold tolW; rw [List.range_succ, List.map_append]; rfl
theorem wide_tol (e : List UInt8) (r : Int) (bs : List Int) (hr : r = 2 ∨ r = 3) (h0 : 110 ∈ e) (h1 : 119 ∈ e) : Tw.wide (tolW (Tw.widths r e) bs (Tw.widths r e).length) = (isW e, 0) := by
  have hl : (Tw.widths r e).length = e.length := by simp [Tw.widths]
  refine wide_of _ _ 10 12 (10 * r) (10 * r + 2) (by simp [tolW, isW, hl]) (fun i hi hb => ?_) (List.mem_map.2 ⟨110, h0, rfl⟩) (List.mem_map.2 ⟨119, h1, rfl⟩) (by omega) (by omega) (by omega) (by omega) (by omega)
  have hm := more_bd bs i
  have hie : i < e.length := by simpa [isW] using hb
  have hw : (Tw.widths r e).getD i 0 = if e[i] = 119 then r else 1 := by
    rw [List.getD_eq_getElem?_getD]; simp [Tw.widths, hie]
  simp only [tolW, isW, List.getElem_map, List.getElem_range, hw]
  refine ⟨fun hq => ?_, fun hq => ?_⟩
  · rw [if_neg (by simpa using hq)]; omega
  · rw [if_pos (by simpa using hq)]; omega

set_option maxRecDepth 100000 in
set_option maxHeartbeats 4000000 in
theorem law_tolerates (kind : Int) (s : ByteArray) (r : Int) (check : Bool) (addon : ByteArray) (u : Value) (bs : List Int) (w : World) (hs : s.size ≤ 9223372036854775807) (hu : BytesAt w u bs) :
    Calls Try.prog 5 #[.agg #[.int .i64 kind, .string s, .int .i64 r, .bool check, .string addon], u] w fun e w' => e = .returned (.bool true) ∧ Ext w w' := by
  have HE := Lib.hid (fun w => encoded_any kind s r check addon w hs)
  obtain ⟨a0, c0, n0, hul, hnl⟩ : ∃ a c n, u = .slice a n c ∧ n = bs.length := by
    rcases hu with ⟨rfl, a, c, rfl⟩ | ⟨b, off, cap, rfl, _⟩
    · exact ⟨a, c, 0, rfl, rfl⟩
    · exact ⟨_, _, _, rfl, rfl⟩
  by_cases h0 : encd kind s.data.toList r check = []
  · rw [h0] at HE
    subst hul
    clear h0 hu hnl
    go_enter Try.func5, Try.ntmps5
    go_wp2_with fail
    refine (HE.out _).mono ?_
    rintro e w1 ⟨v, rfl, hsl, hx1⟩
    obtain ⟨a, c, rfl⟩ := hsl.form
    simp only [List.map_nil, List.length_nil]
    clear hsl
    go_wp2_with fail
    refine (example_any _).mono ?_
    rintro e w2 ⟨rfl, hx2⟩
    go_wp2
    go_ret
    exact ⟨rfl, (((Ext.refl w).alloc _).trans hx1).trans hx2⟩
  · obtain ⟨k, chars, hk, hc, hws, hr, hsy, hel⟩ := encd_sym kind s.data.toList r check h0
    have HDC : Hid (Tw.dec kind (tolW (encd kind s.data.toList r check) bs (encd kind s.data.toList r check).length) check = (s.data.toList, 0)) := Lib.hid (by
      rw [dec_kind kind k hk, hws]
      exact dec_ok k _ check chars hsy hc _ (wide_tol _ r bs hr (hsy.both 0).1.1 (hsy.both 0).1.2) (by simp [Tw.widths, tolW]))
    have hwl : (encd kind s.data.toList r check).length = (Tw.drawK k chars).length := by rw [hws]; simp [Tw.widths]
    have hbd := widths_bd r (Tw.drawK k chars) hr
    rw [← hws] at hbd
    have HBD := Lib.hid hbd
    have HN0 := Lib.hid h0
    have hpos : 0 < (encd kind s.data.toList r check).length := List.length_pos_iff.2 h0
    rw [← hwl] at hel
    have HU := Lib.hid hu
    clear hws hwl hbd hsy hc hk h0 hu
    generalize encd kind s.data.toList r check = ws at *
    subst hul
    have HNL := Lib.hid hnl
    clear hnl
    go_enter Try.func5, Try.ntmps5
    go_wp2_with fail
    refine (HE.out _).mono ?_
    rintro e w1 ⟨v, rfl, hsl, hx1⟩
    rcases hsl with ⟨h1, _⟩ | ⟨b, off, cap, rfl, hb, hcell⟩
    · exact absurd (by simpa using h1) HN0.out
    rw [List.length_map] at hcell ⊢
    have HC : Hid (∀ w', Ext w1 w' → ∀ j, j < ws.length → w'.cell? ⟨b, off + j, none⟩ = some (.int .i64 (ws.getD j 0))) := Lib.hid (fun w' hx j hj => by
      rw [hx.cell (p := ⟨b, off + j, none⟩) hb, hcell j hj, List.getElem?_map, List.getD_eq_getElem?_getD, List.getElem?_eq_getElem hj]; rfl)
    have FJ : Hid (∀ w', Ext w1 w' → w'.cell? ⟨w.heap.size, 0, none⟩ = some (.int .i64 kind) ∧ w'.cell? ⟨w.heap.size, 1, none⟩ = some (.string s) ∧ w'.cell? ⟨w.heap.size, 3, none⟩ = some (.bool check)) := Lib.hid (fun w' hx => by
      refine ⟨?_, ?_, ?_⟩
      · rw [(hx1.trans hx).cell (p := ⟨w.heap.size, 0, none⟩) (by simp)]; simp [go_sem]
      · rw [(hx1.trans hx).cell (p := ⟨w.heap.size, 1, none⟩) (by simp)]; simp [go_sem]
      · rw [(hx1.trans hx).cell (p := ⟨w.heap.size, 3, none⟩) (by simp)]; simp [go_sem])
    have hxw : Ext w w1 := ((Ext.refl w).alloc _).trans hx1
    have hlb : ((ws.length : Int) == 0) = false := beq_eq_false_iff_ne.2 (by omega)
    clear hcell hx1 HE
    go_wp2
    go_loopw [7, 6] (fun i c wr => ∃ j : Nat, j ≤ ws.length ∧ i = .int .i64 (j : Int) ∧ Own 3 wr w1.heap.size c ((tolW ws bs j).map encI) ∧ Ext w1 wr) (fun i _ _ => ws.length - (intOf i).toNat)
    case atStart => exact ⟨0, Nat.zero_le _, rfl, Own.nil _ _ _, Ext.refl _⟩
    case round =>
      obtain ⟨j, hj, rfl, hown, hxr⟩ := hrel
      by_cases hlt : j < ws.length
      · have hcj := HC.out wr hxr j hlt
        obtain ⟨b1, b2⟩ := HBD.out _ (getD_mem ws j hlt)
        have HTS := Lib.hid (tolW_snoc ws bs j)
        have hgl : (tolW ws bs j).length ≤ j := by unfold tolW; rw [List.length_map, List.length_range]; exact Nat.le_refl _
        generalize tolW ws bs j = got at *
        generalize ws.getD j 0 = x at *
        rcases HU.out with ⟨hb0, _⟩ | ⟨bb, bo, bc, hbv, hbb, hbc, hbx, hbl⟩
        · have hm0 : more bs j = 0 := by unfold more; rw [if_pos hb0]
          have hn0 : n0 ≤ 0 := by rw [HNL.out, hb0]; exact Nat.le_refl _
          rw [hm0] at HTS
          clear hm0
          go_wp2_with (at_builtin; refine append_int rfl _ _ rfl w1.heap.size _ got rfl (hown.alloc _) _ (10 * x) rfl ?c1 ?c2 ?c3 ?_)
          case c1 => simp [go_sem, encI]
          case c2 => omega
          case c3 => have := hxr.size; simp; omega
          intro v' w5 hown5 hg5
          have hx5 := (hxr.alloc _).ofGrown hg5 hown.low
          clear hown hg5 hcj
          go_wp2
          go_roundw
          case rel => exact ⟨j + 1, by omega, by go_num, by rw [HTS.out, List.map_append, Int.add_zero]; exact hown5, hx5⟩
          case measure => simp [intOf]; omega
        · injection hbv with ha hn hcq
          by_cases hbe : bs = []
          · have hm0 : more bs j = 0 := by unfold more; rw [if_pos hbe]
            have hn0 : n0 ≤ 0 := by rw [HNL.out, hbe]; exact Nat.le_refl _
            rw [hm0] at HTS
            clear hm0 ha hn hcq
            go_wp2_with (at_builtin; refine append_int rfl _ _ rfl w1.heap.size _ got rfl (hown.alloc _) _ (10 * x) rfl ?c1 ?c2 ?c3 ?_)
            case c1 => simp [go_sem, encI]
            case c2 => omega
            case c3 => have := hxr.size; simp; omega
            intro v' w5 hown5 hg5
            have hx5 := (hxr.alloc _).ofGrown hg5 hown.low
            clear hown hg5 hcj
            go_wp2
            go_roundw
            case rel => exact ⟨j + 1, by omega, by go_num, by rw [HTS.out, List.map_append, Int.add_zero]; exact hown5, hx5⟩
            case measure => simp [intOf]; omega
          · have hbp : 0 < bs.length := List.length_pos_iff.2 hbe
            have hn1 : 0 < n0 := by omega
            have hmd : j % n0 < n0 := Nat.mod_lt _ hn1
            have hm0 : more bs j = bs.getD (j % n0) 0 % 3 := by unfold more; rw [if_neg hbe, hn]
            have hbq : wr.cell? ⟨bb, bo + j % n0, none⟩ = some (.int .u8 (bs.getD (j % n0) 0)) := by rw [((hxw.trans hxr)).cell (p := ⟨bb, bo + j % n0, none⟩) hbb]; exact hbc _ (by omega)
            obtain ⟨y1, y2⟩ := hbx _ (getD_mem bs (j % n0) (by omega))
            rw [hm0] at HTS
            have hnb : n0 ≤ 9223372036854775807 := by omega
            generalize bs.getD (j % n0) 0 = y at *
            clear hm0 hn hcq hbc hbx
            subst ha
            go_wp2_with (at_builtin; refine append_int rfl _ _ rfl w1.heap.size _ got rfl (hown.alloc _) _ (10 * x + y % 3) rfl ?c1 ?c2 ?c3 ?_)
            case c1 => simp [go_sem, encI]
            case c2 => omega
            case c3 => have := hxr.size; simp; omega
            intro v' w5 hown5 hg5
            have hx5 := (hxr.alloc _).ofGrown hg5 hown.low
            clear hown hg5 hcj hbq
            go_wp2
            go_roundw
            case rel => exact ⟨j + 1, by omega, by go_num, by rw [HTS.out, List.map_append]; exact hown5, hx5⟩
            case measure => simp [intOf]; omega
      · obtain rfl : j = ws.length := by omega
        obtain ⟨j0, j1, j3⟩ := FJ.out wr hxr
        have HD := Lib.hid (decode_any kind _ _ check wr hown.sl (by unfold tolW; rw [List.length_map, List.length_range]; omega))
        rw [HDC.out] at HD
        replace HD := Lib.hid (decR_at HD.out)
        clear hj hlt hown
        go_wp2_with fail
        refine HD.out.mono ?_
        rintro e w2 ⟨rfl, hx2⟩
        obtain ⟨q0, q1, q3⟩ := FJ.out w2 (hxr.trans hx2)
        go_wp2_with fail
        refine (example_any _).mono ?_
        rintro e w3 ⟨rfl, hx3⟩
        go_wp2
        go_ret
        exact ⟨rfl, ((hxw.trans hxr).trans hx2).trans hx3⟩

theorem bytes_of {w : World} {a : Option Addr} {len cap : Nat} {zs : List Int}
    (h : (a = none ∧ len = 0 ∧ cap = 0 ∧ zs = []) ∨ ∃ x, a = some x ∧ len ≤ cap ∧ cap ≤ maxLen ∧ zs.length = cap ∧ (∀ i, i < zs.length → w.cell? (x.add i) = some (.int .u8 (zs.getD i 0))) ∧ ∀ n ∈ zs, (Lit.int .u8 n).wf = true) :
    BytesAt w (.slice a len cap) (zs.take len) := by
  rcases h with ⟨rfl, rfl, rfl, rfl⟩ | ⟨x, rfl, hlc, hcm, hz, hc, hwf⟩
  · exact .inl ⟨rfl, none, 0, rfl⟩
  · by_cases h0 : len = 0
    · subst h0
      exact .inl ⟨by simp, some x, cap, rfl⟩
    · have hl : (zs.take len).length = len := by rw [List.length_take]; omega
      obtain ⟨b, off, path⟩ := x
      have hp : path = none := by
        have := hc 0 (by omega)
        cases path with
        | none => rfl
        | some q => exact absurd this (by unfold Addr.add World.cell?; split <;> simp)
      subst hp
      refine .inr ⟨b, off, cap, by rw [hl], ?_, fun i hi => ?_, fun y hy => ?_, by rw [hl]; unfold maxLen at hcm; omega⟩
      · have := hc 0 (by omega)
        rw [add_off] at this
        rcases Nat.lt_or_ge b w.heap.size with h | h
        · exact h
        · simp [World.cell?, Array.getElem?_eq_none h] at this
      · rw [hl] at hi
        have := hc i (by omega)
        rw [add_off] at this
        rw [this]
        simp only [List.getD_eq_getElem?_getD, List.getElem?_take, hi, if_true]
      · exact bounds_u8 (hwf y (List.mem_of_mem_take hy))
end Go.Proofs.Ytlocohcbfpeddaa
