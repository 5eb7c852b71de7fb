/-
  Chapter 12: the reference's elements and interleaved, walked.
  Conditions: the pattern lies apart from the row that grows.
-/
import Derived.Test.YthjlnpcaclfopaaGreatTwRm
namespace Go.Proofs.YthjlnpcaclfopaaGreat
open Go.RowKit

/-- The widths of a pattern. -/
def Tw.wB (r : Int) (bits : List Bool) : List Int := bits.map fun b => if b then r else 1
theorem wB_snoc (r : Int) (bits : List Bool) (k : Nat) (h : k < bits.length) : Tw.wB r (bits.take (k + 1)) = Tw.wB r (bits.take k) ++ [if bits[k] then r else 1] := by
  unfold Tw.wB
  rw [List.take_succ_eq_append_getElem h, List.map_append]; rfl
theorem wB_len (r : Int) (bits : List Bool) : (Tw.wB r bits).length = bits.length := List.length_map _
theorem wB_bits (r : Int) (l : List UInt8) : Tw.wB r (Tw.bits l) = Tw.widths r l := by
  unfold Tw.wB Tw.bits Tw.widths
  rw [List.map_map]
  refine List.map_congr_left (fun c _ => ?_)
  simp only [Function.comp, beq_iff_eq]

/-- What elements returns. -/
def ElR (B : Nat) (v : Value) (l : List Int) (w : World) (e : Ending) (w' : World) : Prop := ∃ v', e = .returned v' ∧ Own 3 w' B v' (l.map encI) ∧ Below B w w' ∧ Beside w w' v v'

set_option maxRecDepth 100000 in
set_option maxHeartbeats 2000000 in
theorem elements_any (B C : Nat) (v p : Value) (xs : List Int) (bits : List Bool) (r : Int) (w : World) (hv : Own 3 w B v (xs.map encI)) (hp : SlN w C p (bits.map encT)) (ha : Apart v p) (hB : B ≤ w.heap.size) (hx : xs.length ≤ 1000000) (hb : bits.length ≤ 100) :
    Calls Tryz.prog 22 #[v, p, .int .i64 r] w (ElR B v (xs ++ Tw.wB r bits) w) := by
  obtain ⟨a1, c1, rfl⟩ := hp.1.form
  rw [List.length_map] at hp ha ⊢
  go_enter Tryz.func22, Tryz.ntmps22
  go_wp2
  go_loopw [0, 7] (fun c i wr => ∃ k : Nat, k ≤ bits.length ∧ i = .int .i64 (k : Int) ∧ Own 3 wr B c ((xs ++ Tw.wB r (bits.take k)).map encI) ∧ Below B w wr ∧ Beside w wr v c) (fun _ i _ => bits.length - (intOf i).toNat)
  case atStart => exact ⟨0, Nat.zero_le _, rfl, by simpa [Tw.wB] using hv, Below.refl _ _, Beside.refl _ _⟩
  case round =>
    obtain ⟨k, hk, rfl, hown, hbw, hbs⟩ := hrel
    by_cases hlt : k < bits.length
    · have hsl := (hbs C _ _ hp ha).1.1
      obtain ⟨b, off, rfl, hb2, hc⟩ := hsl.at_ (k := k) (by rw [List.length_map]; exact hlt)
      rw [List.getElem_map] at hc
      have HS := Lib.hid (wB_snoc r bits k hlt)
      have hgl : (xs ++ Tw.wB r (bits.take k)).length ≤ 1000100 := by rw [List.length_append, wB_len, List.length_take]; omega
      have hwr := hbw.size
      generalize hbk : bits[k] = bk at *
      generalize Tw.wB r (bits.take k) = got at *
      generalize hgg : xs ++ got = gg at *
      clear hsl hbk
      cases bk
      · simp only [encT] at hc
        go_wp2_with (at_builtin; refine append_int_at rfl _ _ rfl B _ gg rfl (hown.alloc _) _ 1 rfl ?c1 ?c2 ?c3 ?_)
        case c1 => simp [go_sem, encI]
        case c2 => omega
        case c3 => first | omega | (simp; omega)
        intro v' w5 hown5 hg5 hat5
        have hbs5 := (hbs.trans (Beside.ofExt ((Ext.refl wr).alloc _))).trans (Beside.grow hg5 (wr.heap.size + 1) (by simp) hat5)
        have hbw5 := (hbw.alloc (by omega) _).grown hg5 (by simp; omega) hown.low
        clear hown hg5 hat5 hbs hbw
        go_wp2
        go_roundw
        case rel => exact ⟨k + 1, by omega, by go_num, by rw [HS.out, ← List.append_assoc, hgg, List.map_append]; exact hown5, hbw5, hbs5⟩
        case measure => simp [intOf]; omega
      · simp only [encT] at hc
        go_wp2_with (at_builtin; refine append_int_at rfl _ _ rfl B _ gg rfl (hown.alloc _) _ r rfl ?c1 ?c2 ?c3 ?_)
        case c1 => simp [go_sem, encI]
        case c2 => omega
        case c3 => first | omega | (simp; omega)
        intro v' w5 hown5 hg5 hat5
        have hbs5 := (hbs.trans (Beside.ofExt ((Ext.refl wr).alloc _))).trans (Beside.grow hg5 (wr.heap.size + 1) (by simp) hat5)
        have hbw5 := (hbw.alloc (by omega) _).grown hg5 (by simp; omega) hown.low
        clear hown hg5 hat5 hbs hbw
        go_wp2
        go_roundw
        case rel => exact ⟨k + 1, by omega, by go_num, by rw [HS.out, ← List.append_assoc, hgg, List.map_append]; exact hown5, hbw5, hbs5⟩
        case measure => simp [intOf]; omega
    · obtain rfl : k = bits.length := by omega
      rw [List.take_length] at hown
      clear hk hlt
      go_wp2
      go_ret
      exact ⟨_, rfl, hown, hbw, hbs⟩
end Go.Proofs.YthjlnpcaclfopaaGreat
