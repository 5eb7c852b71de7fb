/-
  Chapter 12: the law TwowidthRoundTrip, walked.
  Condition: the text is within the reach.
-/
import Derived.Test.YtlocohcbfpeddaaTwL1
import Derived.Test.YtlocohcbfpeddaaTwM5
import Derived.Deep.RegionWith
namespace Go.Proofs.Ytlocohcbfpeddaa
open Go.RowKit

def jobV (kind : Int) (s : ByteArray) (r : Int) (check : Bool) (addon : ByteArray) : Value := .agg #[.int .i64 kind, .string s, .int .i64 r, .bool check, .string addon]

set_option maxHeartbeats 1000000 in
theorem options_any (kind : Int) (s : ByteArray) (r : Int) (check : Bool) (addon : ByteArray) (w : World) :
    Calls Try.prog 29 #[.agg #[.int .i64 kind, .string s, .int .i64 r, .bool check, .string addon]] w fun e w' => e = .returned (.agg #[.int .i64 r, .bool check, .string addon]) ∧ Ext w w' := by
  go_enter Try.func29, Try.ntmps29
  go_wp2
  refine bodyPost_ret_by (v := .agg #[.int .i64 r, .bool check, .string addon]) (by simp [results, Try.results29, go_sem]) rfl ⟨rfl, (by repeat (first | exact Ext.refl _ | assumption | refine Ext.alloc ?_ _ | refine Ext.drew ?_ | refine Ext.trans ?_ (by assumption)))⟩

/-- The widths of a job, or none. -/
def encd (kind : Int) (l : List UInt8) (r : Int) (check : Bool) : List Int := if 60 < l.length then [] else if (Tw.enc kind l r check).2 ≠ 0 then [] else (Tw.enc kind l r check).1
def EncdR (ws : List Int) (w : World) (e : Ending) (w' : World) : Prop := ∃ v, e = .returned v ∧ Sl w' v (ws.map encI) ∧ Ext w w'

set_option maxRecDepth 100000 in
set_option maxHeartbeats 2000000 in
theorem encoded_any (kind : Int) (s : ByteArray) (r : Int) (check : Bool) (addon : ByteArray) (w : World) (hs : s.size ≤ 9223372036854775807) :
    Calls Try.prog 15 #[.agg #[.int .i64 kind, .string s, .int .i64 r, .bool check, .string addon]] w (EncdR (encd kind s.data.toList r check) w) := by
  have HT := Lib.hid (encd.eq_1 kind s.data.toList r check)
  rw [len_data] at HT
  generalize encd kind s.data.toList r check = res at *
  by_cases hl : 60 < s.size
  · rw [if_pos hl] at HT
    go_enter Try.func15, Try.ntmps15
    go_wp2
    go_ret
    exact ⟨.slice none 0 0, rfl, by rw [HT.out]; exact sl_nil _, (by repeat (first | exact Ext.refl _ | assumption | refine Ext.alloc ?_ _ | refine Ext.drew ?_ | refine Ext.trans ?_ (by assumption)))⟩
  · rw [if_neg hl] at HT
    have hl' : s.size ≤ 60 := by omega
    clear hl
    have HE := Lib.hid (fun w => encode_any kind s r check addon w hs)
    have HO := Lib.hid (fun w => options_any kind s r check addon w)
    by_cases h0 : (Tw.enc kind s.data.toList r check).2 ≠ 0
    · rw [if_pos h0] at HT
      have d0 : ((Tw.enc kind s.data.toList r check).2 != 0) = true := bne_iff_ne.2 h0
      generalize Tw.enc kind s.data.toList r check = en at *
      obtain ⟨e1, e2⟩ := en
      simp only at d0
      clear h0
      go_enter Try.func15, Try.ntmps15
      go_wp2
      go_region_with (first
        | (go_at_call 29; refine (HO.out _).mono ?_; rintro e w1 ⟨rfl, hx1⟩; obtain ⟨hc, hfz⟩ := hx1.cells)
        | (go_at_call 20; refine (HE.out _).mono ?_; rintro e w2 ⟨v, rfl, hsl, hx2⟩))
      all_goals
        go_wp2
        go_ret
        exact ⟨.slice none 0 0, rfl, by rw [HT.out]; exact sl_nil _, Ext.trans (Ext.drew (Ext.alloc (Ext.refl w) _)) (Ext.trans hx1 hx2)⟩
    · rw [if_neg h0] at HT
      have h0' : (Tw.enc kind s.data.toList r check).2 = 0 := Decidable.of_not_not h0
      rw [show Tw.enc kind s.data.toList r check = ((Tw.enc kind s.data.toList r check).1, 0) from Prod.ext rfl h0'] at HE
      generalize (Tw.enc kind s.data.toList r check).1 = ws at *
      clear h0 h0'
      go_enter Try.func15, Try.ntmps15
      go_wp2
      go_region_with (first
        | (go_at_call 29; refine (HO.out _).mono ?_; rintro e w1 ⟨rfl, hx1⟩; obtain ⟨hc, hfz⟩ := hx1.cells)
        | (go_at_call 20; refine (HE.out _).mono ?_; rintro e w2 ⟨v, rfl, hsl, hx2⟩))
      all_goals
        go_wp2
        go_ret
        exact ⟨v, rfl, by rw [HT.out]; exact hsl, Ext.trans (Ext.drew (Ext.alloc (Ext.refl w) _)) (Ext.trans hx1 hx2)⟩

/-- What is known of the widths of a job that has some. -/
theorem encd_sym (kind : Int) (l : List UInt8) (r : Int) (check : Bool) (h : encd kind l r check ≠ []) :
    ∃ k chars, ((kind = 5 ∧ k = 0) ∨ (kind = 6 ∧ k = 1) ∨ (kind = 7 ∧ k = 2)) ∧ Tw.compK k l check = (chars, 0) ∧ encd kind l r check = Tw.widths r (Tw.drawK k chars) ∧ (r = 2 ∨ r = 3) ∧ Sym k l check chars ∧ (Tw.drawK k chars).length ≤ 20000 := by
  unfold encd at h ⊢
  by_cases h1 : 60 < l.length
  · rw [if_pos h1] at h; exact absurd rfl h
  · rw [if_neg h1] at h ⊢
    by_cases h2 : (Tw.enc kind l r check).2 ≠ 0
    · rw [if_pos h2] at h; exact absurd rfl h
    · rw [if_neg h2] at h ⊢
      obtain ⟨k, chars, a1, a2, a3, a4, a5⟩ := enc_sym kind l r check _ (Prod.ext rfl (Decidable.of_not_not h2) : Tw.enc kind l r check = ((Tw.enc kind l r check).1, 0))
      refine ⟨k, chars, a1, a2, a3, a4, a5, ?_⟩
      have b1 := drawK_len k chars
      have b2 := compK_draw k l check (by omega) (by rw [a2])
      rw [a2] at b2
      have b3 := b2.1
      simp only at b3
      have b4 : chars.length ≤ l.length + 4 := by
        have := compK_len k l check
        rw [a2] at this; exact this
      omega
theorem widths_bd (r : Int) (e : List UInt8) (hr : r = 2 ∨ r = 3) : ∀ x ∈ Tw.widths r e, 1 ≤ x ∧ x ≤ 3 := by
  intro x hx
  unfold Tw.widths at hx
  rw [List.mem_map] at hx
  obtain ⟨c, _, rfl⟩ := hx
  split <;> omega

set_option maxRecDepth 100000 in
set_option maxHeartbeats 4000000 in
theorem law_roundtrip (kind : Int) (s : ByteArray) (r : Int) (check : Bool) (addon : ByteArray) (bY : Int) (w : World) (hs : s.size ≤ 9223372036854775807) (hby : 0 ≤ bY ∧ bY ≤ 65535) :
    Calls Try.prog 4 #[.agg #[.int .i64 kind, .string s, .int .i64 r, .bool check, .string addon], .int .u16 bY] w fun e w' => e = .returned (.bool true) ∧ Ext w w' := by
  obtain ⟨hy0, hy1⟩ := hby
  have HE := Lib.hid (fun w => encoded_any kind s r check addon w hs)
  by_cases h0 : encd kind s.data.toList r check = []
  · rw [h0] at HE
    clear h0
    go_enter Try.func4, Try.ntmps4
    go_wp2_with fail
    refine (HE.out _).mono ?_
    rintro e w1 ⟨v, rfl, hsl, hx1⟩
    obtain ⟨a, c, rfl⟩ := hsl.form
    simp only [List.map_nil, List.length_nil]
    clear hsl
    go_wp2_with fail
    refine (example_any _).mono ?_
    rintro e w2 ⟨rfl, hx2⟩
    go_wp2
    go_ret
    exact ⟨rfl, (((Ext.refl w).alloc _).trans hx1).trans hx2⟩
  · obtain ⟨k, chars, hk, hc, hws, hr, hsy, hel⟩ := encd_sym kind s.data.toList r check h0
    obtain ⟨f, hf⟩ : ∃ f, 1 + bY % 1000 = f := ⟨_, rfl⟩
    have hf1 : 1 ≤ f := by omega
    have hf2 : f ≤ 1000 := by omega
    have HDC : Hid (Tw.dec kind ((encd kind s.data.toList r check).map (· * f)) check = (s.data.toList, 0)) := Lib.hid (by
      rw [dec_kind kind k hk, hws]
      exact dec_ok k _ check chars hsy hc _ (wide_scaled _ r f hr ⟨hf1, hf2⟩ (hsy.both 0).1.1 (hsy.both 0).1.2) (by simp [Tw.widths]))
    have hwl : (encd kind s.data.toList r check).length = (Tw.drawK k chars).length := by rw [hws]; simp [Tw.widths]
    have hod := hsy.odd
    have hbd := widths_bd r (Tw.drawK k chars) hr
    rw [← hws] at hbd
    have HBD := Lib.hid hbd
    have HN0 := Lib.hid h0
    have hpos : 0 < (encd kind s.data.toList r check).length := List.length_pos_iff.2 h0
    rw [← hwl] at hel hod
    clear hws hwl hbd hsy hc hk h0
    generalize encd kind s.data.toList r check = ws at *
    go_enter Try.func4, Try.ntmps4
    go_wp2_with fail
    refine (HE.out _).mono ?_
    rintro e w1 ⟨v, rfl, hsl, hx1⟩
    rcases hsl with ⟨h1, _⟩ | ⟨b, off, cap, rfl, hb, hcell⟩
    · exact absurd (by simpa using h1) HN0.out
    rw [List.length_map] at hcell ⊢
    have HC : Hid (∀ w', Ext w1 w' → ∀ j, j < ws.length → w'.cell? ⟨b, off + j, none⟩ = some (.int .i64 (ws.getD j 0))) := Lib.hid (fun w' hx j hj => by
      rw [hx.cell (p := ⟨b, off + j, none⟩) hb, hcell j hj, List.getElem?_map, List.getD_eq_getElem?_getD, List.getElem?_eq_getElem hj]; rfl)
    have FJ : Hid (∀ w', Ext w1 w' → w'.cell? ⟨w.heap.size, 0, none⟩ = some (.int .i64 kind) ∧ w'.cell? ⟨w.heap.size, 1, none⟩ = some (.string s) ∧ w'.cell? ⟨w.heap.size, 3, none⟩ = some (.bool check)) := Lib.hid (fun w' hx => by
      refine ⟨?_, ?_, ?_⟩
      · rw [(hx1.trans hx).cell (p := ⟨w.heap.size, 0, none⟩) (by simp)]; simp [go_sem]
      · rw [(hx1.trans hx).cell (p := ⟨w.heap.size, 1, none⟩) (by simp)]; simp [go_sem]
      · rw [(hx1.trans hx).cell (p := ⟨w.heap.size, 3, none⟩) (by simp)]; simp [go_sem])
    have hxw : Ext w w1 := ((Ext.refl w).alloc _).trans hx1
    have hlb : ((ws.length : Int) == 0) = false := beq_eq_false_iff_ne.2 (by omega)
    have hodd : ((ws.length : Int) % 2 == 1) = true := by rw [beq_iff_eq]; omega
    clear hcell hx1 HE
    go_wp2
    go_loopw [7, 6] (fun i c wr => ∃ j : Nat, j ≤ ws.length ∧ i = .int .i64 (j : Int) ∧ Own 3 wr w1.heap.size c (((ws.take j).map (· * f)).map encI) ∧ Ext w1 wr) (fun i _ _ => ws.length - (intOf i).toNat)
    case atStart => exact ⟨0, Nat.zero_le _, rfl, Own.nil _ _ _, Ext.refl _⟩
    case round =>
      obtain ⟨j, hj, rfl, hown, hxr⟩ := hrel
      by_cases hlt : j < ws.length
      · have hcj := HC.out wr hxr j hlt
        obtain ⟨b1, b2⟩ := HBD.out _ (getD_mem ws j hlt)
        have HTS : Hid ((ws.take (j + 1)).map (· * f) = (ws.take j).map (· * f) ++ [ws.getD j 0 * f]) := Lib.hid (by rw [take_at ws j hlt, List.map_append]; rfl)
        have hgl : ((ws.take j).map (· * f)).length ≤ j := by rw [List.length_map, List.length_take]; omega
        generalize (ws.take j).map (· * f) = got at *
        generalize ws.getD j 0 = x at *
        have hm1 : 0 ≤ x * f := Int.mul_nonneg (by omega) (by omega)
        have hm2 : x * f ≤ 3 * 1000 := Int.mul_le_mul b2 hf2 (by omega) (by omega)
        go_wp2_with (at_builtin; refine append_int rfl _ _ rfl w1.heap.size _ got rfl (hown.alloc _) _ (x * f) rfl ?c1 ?c2 ?c3 ?_)
        case c1 => simp [go_sem, encI]
        case c2 => omega
        case c3 => have := hxr.size; simp; omega
        intro v' w5 hown5 hg5
        have hx5 := (hxr.alloc _).ofGrown hg5 hown.low
        clear hown hg5 hcj
        go_wp2
        go_roundw
        case rel => exact ⟨j + 1, by omega, by go_num, by rw [HTS.out, List.map_append]; exact hown5, hx5⟩
        case measure => simp [intOf]; omega
      · obtain rfl : j = ws.length := by omega
        rw [List.take_length] at hown
        obtain ⟨j0, j1, j3⟩ := FJ.out wr hxr
        have HD := Lib.hid (decode_any kind _ _ check wr hown.sl (by rw [List.length_map]; omega))
        rw [HDC.out] at HD
        replace HD := Lib.hid (decR_at HD.out)
        clear hj hlt hown
        go_wp2_with fail
        refine HD.out.mono ?_
        rintro e w2 ⟨rfl, hx2⟩
        obtain ⟨q0, q1, q3⟩ := FJ.out w2 (hxr.trans hx2)
        go_wp2_with fail
        refine (example_any _).mono ?_
        rintro e w3 ⟨rfl, hx3⟩
        go_wp2
        go_ret
        exact ⟨rfl, ((hxw.trans hxr).trans hx2).trans hx3⟩
end Go.Proofs.Ytlocohcbfpeddaa
