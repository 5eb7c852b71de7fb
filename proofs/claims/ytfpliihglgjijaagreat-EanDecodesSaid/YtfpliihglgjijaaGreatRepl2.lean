/-
  The byte replacer's Replace, walked.
  Condition: a string of one to a thousand letters A and B.
-/
import Derived.Test.YtfpliihglgjijaaGreatRepl
import Derived.Lib.ConvBytes
namespace Go.Proofs.YtfpliihglgjijaaGreat
open Go.RowKit Go.MuLone

theorem nil_eq (w : World) : (binOp .eql 40 (.slice none 0 0) (.slice none 0 0)).run Tryz.prog w = .ok (.bool true) w := by
  first | kernel_rfl | simp [binOp, go_sem]
theorem nil_ne (b n c : Nat) (w : World) : (binOp .eql 40 (.slice (some ⟨b, 0, none⟩) n c) (.slice none 0 0)).run Tryz.prog w = .ok (.bool false) w := by
  first | kernel_rfl | simp [binOp, go_sem]
/-- A row whose first cells are known and may be written. -/
def BufAt (w : World) (b n : Nat) (f : Nat → Value) : Prop := b < w.heap.size ∧ ∀ j, j < n → w.cell? ⟨b, j, none⟩ = some (f j) ∧ w.frozen? ⟨b, j, none⟩ = false
theorem BufAt.set {w : World} {b n : Nat} {f : Nat → Value} (h : BufAt w b n f) (k : Nat) (u : Value) : BufAt (w.setCell ⟨b, k, none⟩ u) b n (fun j => if j = k then u else f j) := by
  refine ⟨by simpa using h.1, fun j hj => ⟨?_, by simpa using (h.2 j hj).2⟩⟩
  by_cases e : j = k
  · subst e
    show _ = some (if j = j then u else f j)
    rw [if_pos rfl]
    exact World.cell?_setCell_same _ _ _ (h.2 j hj).1
  · show _ = some (if j = k then u else f j)
    rw [if_neg e, World.cell?_setCell_other _ _ _ _ (fun h => e (by injection h with _ h; exact h.symm))]
    exact (h.2 j hj).1
theorem bytes_of (s : ByteArray) (w : World) : ∃ cap W, (convert 9 40 (.string s)).run Tryz.prog w = .ok (.slice (some ⟨w.heap.size, 0, none⟩) s.size cap) W ∧ Ext w W ∧ BufAt W w.heap.size s.size (fun j => encB (s.data.toList.getD j 0)) := by
  refine ⟨_, _, Lib.run_convert_string_bytes w 9 40 5 s Tryz.underlying9 Tryz.underlying40 Tryz.underlying5, ?_, ?_, fun j hj => ⟨?_, ?_⟩⟩
  · refine ⟨rfl, rfl, rfl, by rw [Lib.bytesWorld_size]; omega, fun i hi => Lib.bytesWorld_at_old w _ s i hi⟩
  · rw [Lib.bytesWorld_size]; omega
  · exact Lib.bytesWorld_cell w _ s j hj
  · have h1 := Lib.bytesWorld_at_new w 5 s
    have h2 : j < (Lib.bytesCells w 5 s).size := by
      unfold Lib.bytesCells
      simp
      have : s.data.size = s.size := rfl
      omega
    simp [World.frozen?, h1]
    omega
def swpU (c : UInt8) : UInt8 := if c = 65 then 66 else 65

set_option maxRecDepth 100000 in
set_option maxHeartbeats 4000000 in
theorem byteReplace_any (br : Nat) (s : ByteArray) (w : World) (hrow : w.rowIs br 164 256 (fun i => .int .u8 (swpB i : Int))) (hs : ∀ c ∈ s.data.toList, c = 65 ∨ c = 66) (h0 : 0 < s.size) (hn : s.size ≤ 1000) :
    Calls Tryz.prog 199 #[.pointer (some ⟨br, 0, none⟩), .string s] w fun e w' => e = .returned (.string ⟨(s.data.toList.map swpU).toArray⟩) ∧ Ext w w' := by
  have HROW := Lib.hid hrow
  have HS := Lib.hid hs
  clear hrow hs
  go_enter Tryz.func199, Tryz.ntmps199
  have HC : Hid (∀ w', Ext w w' → w'.cell? ⟨br, 65, none⟩ = some (.int .u8 66) ∧ w'.cell? ⟨br, 66, none⟩ = some (.int .u8 65)) := Lib.hid (fun w' hx =>
    ⟨(hx.cell (p := ⟨br, 65, none⟩) HROW.out.lt).trans (HROW.out.cell (i := 65) (by decide)), (hx.cell (p := ⟨br, 66, none⟩) HROW.out.lt).trans (HROW.out.cell (i := 66) (by decide))⟩)
  have hnil := nil_eq
  have hnn := nil_ne
  go_wp2_with fail
  go_loopw [6, 5] (fun i u wr => (i = .int .i64 0 ∧ u = .slice none 0 0 ∧ w = wr) ∨ ∃ (k cap : Nat), 1 ≤ k ∧ k ≤ s.size ∧ i = .int .i64 (k : Int) ∧ u = .slice (some ⟨w.heap.size, 0, none⟩) s.size cap ∧ BufAt wr w.heap.size s.size (fun j => encB (if j < k then swpU (s.data.toList.getD j 0) else s.data.toList.getD j 0)) ∧ Ext w wr) (fun i _ _ => s.size - (intOf i).toNat)
  case atStart => exact .inl ⟨rfl, rfl, rfl⟩
  case round =>
    rcases hrel with ⟨rfl, rfl, rfl⟩ | ⟨k, cap, hk1, hk, rfl, rfl, hbuf, hxr⟩
    · obtain ⟨k0, k1⟩ := HC.out _ (Ext.refl w)
      obtain ⟨cap, W, hcv, hxW, hbuf⟩ := bytes_of s w
      obtain ⟨k2, k3⟩ := HC.out _ hxW
      have hcl := (hbuf.2 0 h0).1
      have hfz := (hbuf.2 0 h0).2
      have HG : Hid (s.data.toList.getD 0 0 = s[0]) := Lib.hid (by rw [List.getD_eq_getElem?_getD, List.getElem?_eq_getElem (by rw [len_data]; exact h0)]; rfl)
      have HR : Hid (∀ d : UInt8, swpU s[0] = d → BufAt (W.setCell ⟨w.heap.size, 0, none⟩ (.int .u8 (d.toNat : Int))) w.heap.size s.size (fun j => encB (if j < 1 then swpU (s.data.toList.getD j 0) else s.data.toList.getD j 0))) := Lib.hid (fun d hd => by
        have h1 := hbuf.set 0 (.int .u8 (d.toNat : Int))
        refine ⟨h1.1, fun j hj => ⟨(h1.2 j hj).1.trans ?_, (h1.2 j hj).2⟩⟩
        dsimp only
        by_cases e : j = 0
        · subst e; rw [if_pos rfl, if_pos (by omega), HG.out, hd]; rfl
        · rw [if_neg e, if_neg (by omega)])
      have HX := Lib.hid (fun u => hxW.setCell (p := ⟨w.heap.size, 0, none⟩) (Nat.le_refl _) u)
      have hc := HS.out s[0] (mem_at s 0 h0)
      clear hbuf
      rcases hc with hc | hc
      · have HR1 := Lib.hid (HR.out 66 (by rw [hc]; rfl))
        have hcn : s[0].toNat = 65 := by rw [hc]; rfl
        clear hc HR
        go_wp2
        go_roundw
        case rel => exact .inr ⟨1, cap, by omega, by omega, rfl, rfl, HR1.out, HX.out _⟩
        case measure => simp [intOf]; omega
      · have HR1 := Lib.hid (HR.out 65 (by rw [hc]; rfl))
        have hcn : s[0].toNat = 66 := by rw [hc]; rfl
        clear hc HR
        go_wp2
        go_roundw
        case rel => exact .inr ⟨1, cap, by omega, by omega, rfl, rfl, HR1.out, HX.out _⟩
        case measure => simp [intOf]; omega
    · by_cases hlt : k < s.size
      · obtain ⟨k0, k1⟩ := HC.out _ hxr
        have hcl := (hbuf.2 k hlt).1
        have hfz := (hbuf.2 k hlt).2
        have HG : Hid (s.data.toList.getD k 0 = s[k]) := Lib.hid (by rw [List.getD_eq_getElem?_getD, List.getElem?_eq_getElem (by rw [len_data]; exact hlt)]; rfl)
        have HR : Hid (∀ d : UInt8, swpU s[k] = d → BufAt (wr.setCell ⟨w.heap.size, k, none⟩ (.int .u8 (d.toNat : Int))) w.heap.size s.size (fun j => encB (if j < k + 1 then swpU (s.data.toList.getD j 0) else s.data.toList.getD j 0))) := Lib.hid (fun d hd => by
          have h1 := hbuf.set k (.int .u8 (d.toNat : Int))
          refine ⟨h1.1, fun j hj => ⟨(h1.2 j hj).1.trans ?_, (h1.2 j hj).2⟩⟩
          dsimp only
          by_cases e : j = k
          · subst e; rw [if_pos rfl, if_pos (by omega), HG.out, hd]; rfl
          · rw [if_neg e]
            by_cases h2 : j < k
            · rw [if_pos h2, if_pos (by omega)]
            · rw [if_neg h2, if_neg (by omega)])
        have HX := Lib.hid (fun u => hxr.setCell (p := ⟨w.heap.size, k, none⟩) (Nat.le_refl _) u)
        have hc := HS.out s[k] (mem_at s k hlt)
        clear hbuf hxr
        rcases hc with hc | hc
        · have HR1 := Lib.hid (HR.out 66 (by rw [hc]; rfl))
          have hcn : s[k].toNat = 65 := by rw [hc]; rfl
          clear hc HR
          go_wp2
          go_roundw
          case rel => exact .inr ⟨k + 1, cap, by omega, by omega, by go_num, rfl, HR1.out, HX.out _⟩
          case measure => simp [intOf]; omega
        · have HR1 := Lib.hid (HR.out 65 (by rw [hc]; rfl))
          have hcn : s[k].toNat = 66 := by rw [hc]; rfl
          clear hc HR
          go_wp2
          go_roundw
          case rel => exact .inr ⟨k + 1, cap, by omega, by omega, by go_num, rfl, HR1.out, HX.out _⟩
          case measure => simp [intOf]; omega
      · obtain rfl : k = s.size := by omega
        have hsl : Sl wr (.slice (some ⟨w.heap.size, 0, none⟩) s.size cap) ((s.data.toList.map swpU).map encB) := by
          have hlen : ((s.data.toList.map swpU).map encB).length = s.size := by rw [List.length_map, List.length_map, len_data]
          refine .inr ⟨_, 0, cap, by rw [hlen], hbuf.1, fun i hi => ?_⟩
          rw [hlen] at hi
          rw [Nat.zero_add, (hbuf.2 i hi).1]
          dsimp only
          rw [if_pos hi, List.getElem?_map, List.getElem?_map, List.getD_eq_getElem?_getD, List.getElem?_eq_getElem (by rw [len_data]; exact hi)]
          rfl
        have hcv := run_convert_sl hsl
        clear hlt hk hbuf hsl
        go_wp2
        go_ret
        exact ⟨rfl, hxr⟩
end Go.Proofs.YtfpliihglgjijaaGreat
