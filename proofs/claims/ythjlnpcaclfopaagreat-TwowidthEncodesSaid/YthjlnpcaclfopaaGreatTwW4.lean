/-
  Chapter 12: drawing separated characters, walked.
  Condition: every character has a pattern of the alphabet's size or none.
-/
import Derived.Test.YthjlnpcaclfopaaGreatTwW3
import Derived.Deep.OwnRows
import Derived.Deep.RegionWith
namespace Go.Proofs.YthjlnpcaclfopaaGreat
open Go.RowKit

/-- A string out of a list of bytes. -/
def strV (l : List UInt8) : Value := .string ⟨l.toArray⟩

theorem Ext.row {a w : World} {b : Nat} {t : TypeId} {n : Nat} {f : Nat → Value} (h : a.rowIs b t n f) (hx : Ext a w) : w.rowIs b t n f := h.of_block (hx.block _ h.lt)

theorem tail_len : ∀ (l : List (List UInt8)), (∀ x ∈ l, x.length ≤ 9) → (Lib.joinTail [110] l).length ≤ 10 * l.length
  | [], _ => by simp [Lib.joinTail]
  | x :: l, h => by
    have h1 := h x (List.mem_cons_self ..)
    have h2 := tail_len l (fun u hu => h u (List.mem_cons_of_mem _ hu))
    simp only [Lib.joinTail, List.map_cons, List.flatten_cons, List.length_append, List.length_cons, List.length_nil] at h2 ⊢
    omega
theorem join_len (l : List (List UInt8)) (h : ∀ x ∈ l, x.length ≤ 9) : (Lib.join l [110]).length ≤ 10 * l.length := by
  cases l with
  | nil => exact Nat.zero_le _
  | cons x l =>
    have h1 := h x (List.mem_cons_self ..)
    have h2 := tail_len l (fun u hu => h u (List.mem_cons_of_mem _ hu))
    rw [Lib.join_cons, List.length_append, List.length_cons]
    omega

set_option maxHeartbeats 1000000 in
theorem draw_any (cs ps : ByteArray) (z bc bp bz ba be bi bl bm : Nat) (edge inner : ByteArray) (least most : Nat) (s : ByteArray) (w : World) (hS : SpacedAt w z bc bp bz ba be bi bl bm edge inner least most) (hA : AlphAt w bc bp bz cs ps z) (hz : z = 5 ∨ z = 7 ∨ z = 9) (hps : ps.size = cs.size * z) (hcs : cs.size ≤ 100) (hs : s.size ≤ 1000000) :
    Calls Tryz.prog 68 #[.string s, .pointer (some ⟨ba, 0, none⟩)] w
      fun e w' => e = .returned (strV (Lib.join (s.data.toList.map fun c => (Tw.pat cs.data.toList ps.data.toList z c).1) [110])) ∧ Ext w w' := by
  have hmk := run_make_row' (P := Tryz.prog) 98 9 (.string ⟨#[]⟩) 16 Tryz.underlying98 (by kernel_rfl) rfl .i64 .i64 s.size (by omega) (by omega)
  have HP : Hid (∀ w', Ext w w' → ∀ c : UInt8, Calls Tryz.prog 71 #[.int .u8 (c.toNat : Int), .pointer (some ⟨bc, 0, none⟩), .pointer (some ⟨bp, 0, none⟩), .pointer (some ⟨bz, 0, none⟩)] w'
      fun e w'' => e = .returned (.tuple #[.string ⟨(Tw.pat cs.data.toList ps.data.toList z c).1.toArray⟩, .bool (Tw.pat cs.data.toList ps.data.toList z c).2]) ∧ w' = w'') :=
    Lib.hid fun w' hx c => pattern_any cs ps z c bc bp bz w' (hA.ext hx) hz hps hcs
  have HS := Lib.hid hS
  clear hS hA
  have HL : Hid (∀ c, (Tw.pat cs.data.toList ps.data.toList z c).1.length ≤ 9) := Lib.hid fun c => by
    unfold Tw.pat Tw.cutAt; split
    · simp
    · simp only [List.length_take]; omega
  clear hz hps
  generalize Tw.pat cs.data.toList ps.data.toList z = pt at *
  go_enter Tryz.func68, Tryz.ntmps68
  go_wp2
  go_loopw [11] (fun i wr => ∃ j : Nat, j ≤ s.size ∧ i = .int .i64 (j : Int) ∧ wr.rowIs w.heap.size 9 s.size (fun k => if k < j then strV (pt (s.data.toList.getD k 0)).1 else .string ⟨#[]⟩) ∧ Ext w wr) (fun i _ => s.size - (intOf i).toNat)
  case atStart =>
    exact ⟨0, Nat.zero_le _, rfl, (World.rowIs_made w _ _ _).congr (fun i _ => by simp), (by repeat (first | exact Ext.refl _ | assumption | refine Ext.alloc ?_ _ | refine Ext.drew ?_ | refine Ext.trans ?_ (by assumption)))⟩
  case round =>
    obtain ⟨j, hj, rfl, hrow, hxr⟩ := hrel
    by_cases hlt : j < s.size
    · have hc1 := (HS.out.ext hxr).a1
      have hcj := hrow.cell hlt
      have hfj := hrow.frozen j
      have HQ := Lib.hid (fun w' hx => HP.out w' hx s[j])
      have HR : Hid ((wr.setCell ⟨w.heap.size, j, none⟩ (.string ⟨(pt s[j]).1.toArray⟩)).rowIs w.heap.size 9 s.size (fun k => if k < j + 1 then strV (pt (s.data.toList.getD k 0)).1 else .string ⟨#[]⟩)) :=
        Lib.hid ((hrow.set j (.string ⟨(pt s[j]).1.toArray⟩)).congr (fun k hk => by
          have hg : s.data.toList.getD j 0 = s[j] := by rw [List.getD_eq_getElem?_getD, List.getElem?_eq_getElem (by rw [len_data]; exact hlt)]; rfl
          by_cases h1 : k = j
          · subst h1; rw [if_pos rfl, if_pos (by omega), hg]; rfl
          · rw [if_neg h1]
            by_cases h2 : k < j
            · rw [if_pos h2, if_pos (by omega)]
            · rw [if_neg h2, if_neg (by omega)]))
      have HX := Lib.hid (hxr.setCell (p := ⟨w.heap.size, j, none⟩) (Nat.le_refl _) (.string ⟨(pt s[j]).1.toArray⟩))
      clear hrow
      go_wp2
      go_region_with (go_at_call 71; refine (HQ.out _ ?_).mono ?_; (first | exact hxr | exact hxr.drew | exact hxr.drew.drew); rintro e w1 ⟨rfl, rfl⟩)
      all_goals
        go_wp2
        go_roundw
        case rel => exact ⟨j + 1, by omega, by go_num, HR.out.drew, HX.out.drew⟩
        case measure => simp [intOf]; omega
    · obtain rfl : j = s.size := by omega
      have HJ := Lib.hid (Tryz.strings_Join w.heap.size 0 s.size (s.data.toList.map fun c => ⟨(pt c).1.toArray⟩) ⟨#[110]⟩ wr (fun k x hx => by
        rw [List.getElem?_map, Option.map_eq_some_iff] at hx
        obtain ⟨c, hc, rfl⟩ := hx
        have hk := (List.getElem?_eq_some_iff.1 hc).1
        rw [len_data] at hk
        rw [Nat.zero_add, hrow.cell hk, if_pos hk, List.getD_eq_getElem?_getD, hc]; rfl) (by have := hrow.lt; exact this) (by rw [List.length_map, len_data]; omega) (by rw [List.length_map, len_data]; omega)
        (by rw [List.map_map]; exact Nat.le_trans (join_len _ (fun x hx => by rw [List.mem_map] at hx; obtain ⟨c, _, rfl⟩ := hx; exact HL.out c)) (by rw [List.length_map, len_data]; omega)))
      rw [List.length_map, len_data, List.map_map] at HJ
      clear hrow hj hlt
      go_wp2_with fail
      refine HJ.out.mono ?_
      rintro e w1 ⟨rfl, hx1⟩
      go_wp2
      go_ret
      exact ⟨rfl, hxr.trans hx1⟩
end Go.Proofs.YthjlnpcaclfopaaGreat
