/-
  The replacer's first use and its further uses, walked.
  Condition: a string of one to a thousand letters A and B.
-/
import Derived.Test.YtfpliihglgjijaaGreatRepl2
import Derived.Defers
import Derived.RegionCalls
import Derived.Laws.LoneSync
namespace Go.Proofs.YtfpliihglgjijaaGreat
open Go.RowKit Go.MuLone

theorem heap_set {w : World} {b i : Nat} {cs : Array Value} {t : TypeId} {fr : Nat × Nat} {u : Value} (h : w.heap[b]? = some (.cells cs t fr)) : (w.setCell ⟨b, i, none⟩ u).heap[b]? = some (.cells (cs.setIfInBounds i u) t fr) := by
  simp [World.setCell, Array.getElem?_modify, h]
theorem grown_set (w : World) (b i : Nat) (u : Value) : w.grownBy (w.setCell ⟨b, i, none⟩ u) (some b) := by
  refine ⟨rfl, rfl, rfl, by simp, fun k hk hne => ?_⟩
  have : k ≠ b := fun e => hne (by rw [e])
  simp [World.setCell, Array.getElem?_modify, Ne.symm this]
theorem cell_at {w : World} {b i : Nat} {cs : Array Value} {t : TypeId} {x : Value} (h : w.heap[b]? = some (.cells cs t (0, 0))) (hx : cs[i]? = some x) : w.cell? ⟨b, i, none⟩ = some x := by
  simp [World.cell?, h, hx]
theorem frz_at {w : World} {b i : Nat} {cs : Array Value} {t : TypeId} (h : w.heap[b]? = some (.cells cs t (0, 0))) : w.frozen? ⟨b, i, none⟩ = false := by
  simp [World.frozen?, h]
/-- The replacer's block. -/
def RepAt (w : World) (b : Nat) (d m : Int) (i v : Value) : Prop := w.heap[b]? = some (.cells #[.int .u32 d, .int .i32 m, .int .u32 0, i, v] 151 (0, 0))
def repI (br : Nat) : Value := .iface 165 (.pointer (some ⟨br, 0, none⟩))

set_option maxRecDepth 100000 in
set_option maxHeartbeats 2000000 in
theorem buildOnce_any (b : Nat) (w : World) (m : Int) (hF : Fresh w b m) :
    Calls Tryz.prog 103 #[.pointer (some ⟨b, 0, none⟩)] w fun e w' => e = .returned (.tuple #[]) ∧ ∃ br, w.heap.size ≤ br ∧ w'.rowIs br 164 256 (fun i => .int .u8 (swpB i : Int)) ∧ RepAt w' b 0 m (repI br) (.slice none 0 0) ∧ w.grownBy w' (some b) := by
  have HB := Lib.hid (build_any b w m hF)
  obtain ⟨v, hbk, _, _⟩ := hF
  have hlt : b < w.heap.size := (Array.getElem?_eq_some_iff.1 hbk).1
  go_enter Tryz.func103, Tryz.ntmps103
  go_wp2_with fail
  refine HB.out.mono ?_
  rintro e w1 ⟨br, rfl, hbr, hrow, hx1⟩
  have hbk1 : w1.heap[b]? = _ := (hx1.block b hlt).trans hbk
  have c3 := cell_at hbk1 (i := 3) rfl
  have c4 := cell_at hbk1 (i := 4) rfl
  have f3 := frz_at hbk1 (i := 3)
  have f4 := frz_at hbk1 (i := 4)
  have h1 := heap_set (i := 3) (u := repI br) hbk1
  have h2 := heap_set (i := 4) (u := .slice none 0 0) h1
  have hg : w.grownBy ((w1.setCell ⟨b, 3, none⟩ (repI br)).setCell ⟨b, 4, none⟩ (.slice none 0 0)) (some b) := by
    have g1 := grown_set w1 b 3 (repI br)
    have g2 := grown_set (w1.setCell ⟨b, 3, none⟩ (repI br)) b 4 (.slice none 0 0)
    refine ⟨hx1.os, hx1.tape, hx1.output, by simpa using hx1.size, fun k hk hne => ?_⟩
    have hk1 : k < w1.heap.size := Nat.lt_of_lt_of_le hk hx1.size
    rw [g2.block k (by simpa using hk1) hne, g1.block k hk1 hne]
    exact hx1.block k hk
  have hrw : ((w1.setCell ⟨b, 3, none⟩ (repI br)).setCell ⟨b, 4, none⟩ (.slice none 0 0)).rowIs br 164 256 (fun i => .int .u8 (swpB i : Int)) := by
    refine hrow.of_block ?_
    have g1 := grown_set w1 b 3 (repI br)
    have g2 := grown_set (w1.setCell ⟨b, 3, none⟩ (repI br)) b 4 (.slice none 0 0)
    have hne : some br ≠ some b := by simp; omega
    rw [g2.block br (by simpa using hrow.lt) hne, g1.block br hrow.lt hne]
  have H := Lib.hid (And.intro h2 (And.intro hg hrw))
  clear hbk hbk1 h1 h2 hg hrw hrow hx1
  unfold repI at H
  go_wp2
  go_end0
  exact ⟨rfl, br, hbr, H.out.2.2, H.out.1, H.out.2.1⟩

theorem store_deferred (a : Addr) (x : Value) (u : FrameMode) (w : World) (hc : w.cell? a = some x) (hz : w.frozen? a = false) :
    CallsD Tryz.prog 111 #[.pointer (some a), .bool true] u w fun e u' w' => u' = u ∧ (e = .returned (.tuple #[]) ∧ w' = w.drew.setCell a (.int .u32 1)) := by
  have hc' : w.drew.cell? a = some x := by go_simp
  have hz' : w.drew.frozen? a = false := by go_simp
  have hst := run_call_store (P := Tryz.prog) Tryz.func116 (by kernel_rfl) (by kernel_rfl) (by kernel_rfl) (by kernel_rfl) (k := .u32) (y := 1) hc' hz'
  go_enter_d Tryz.func111, Tryz.ntmps111
  go_wp2
  go_region_calls
  all_goals (go_end0; exact ⟨rfl, rfl⟩)

theorem load_any (a : Addr) (x : Int) (hx : x = 0 ∨ x = 1) (w : World) (hc : w.cell? a = some (.int .u32 x)) :
    Calls Tryz.prog 105 #[.pointer (some a)] w fun e w' => e = .returned (.bool (x != 0)) ∧ w = w' := by
  have hl := run_call_load (P := Tryz.prog) Tryz.func108 (by kernel_rfl) (by kernel_rfl) (by kernel_rfl) .u32 (by kernel_rfl) (w := w) (a := a) (x := x) hc
  rcases hx with rfl | rfl
  · go_enter Tryz.func105, Tryz.ntmps105
    go_wp2
    go_ret
    exact ⟨rfl, rfl⟩
  · go_enter Tryz.func105, Tryz.ntmps105
    go_wp2
    go_ret
    exact ⟨rfl, rfl⟩

set_option maxRecDepth 100000 in
set_option maxHeartbeats 2000000 in
theorem doSlow_any (b : Nat) (w : World) (hF : Fresh w b 0) :
    Calls Tryz.prog 106 #[.pointer (some ⟨b, 0, none⟩), .func (.func 103) #[.pointer (some ⟨b, 0, none⟩)] #[]] w fun e w' => e = .returned (.tuple #[]) ∧ ∃ br, w.heap.size ≤ br ∧ w'.rowIs br 164 256 (fun i => .int .u8 (swpB i : Int)) ∧ RepAt w' b 1 0 (repI br) (.slice none 0 0) ∧ w.grownBy w' (some b) := by
  obtain ⟨v, hbk, hsl, hne⟩ := hF
  have hlt : b < w.heap.size := (Array.getElem?_eq_some_iff.1 hbk).1
  have c1 := cell_at hbk (i := 1) rfl
  have f1 := frz_at hbk (i := 1)
  have h1 := heap_set (i := 1) (u := .int .i32 1) hbk
  have g1 := grown_set w b 1 (.int .i32 1)
  have hF1 : Fresh (w.setCell ⟨b, 1, none⟩ (.int .i32 1)) b 1 := by
    refine ⟨v, h1, ?_, hne⟩
    exact (Beside.grow (v := .slice (some ⟨b, 0, none⟩) 1 1) (v' := .slice (some ⟨b, 0, none⟩) 1 1) (by simpa [Value.ownBlock] using g1) w.heap.size (Nat.le_refl _) (.inl rfl) 0 v _ hsl (.inr (by simp [Value.ownBlock]; exact fun e => hne e.symm))).1
  have HB := Lib.hid (buildOnce_any b _ 1 hF1)
  have HL := Lib.hid (load_any ⟨b, 0, none⟩ 0 (.inl rfl) _ (cell_at h1 (i := 0) rfl))
  have hnot : ∀ (x : Bool) (w : World), (Op.unary .not (.bool x)).run Tryz.prog w = .ok (.bool (!x)) w := fun _ _ => rfl
  go_enter_defers Tryz.func106, Tryz.ntmps106
  go_wp2_with (go_at_call 109; refine (lock_free muLib ⟨b, 1, none⟩ _ c1 f1).mono ?_; rintro e w' ⟨rfl, rfl⟩)
  refine HL.out.mono ?_
  rintro e w1 ⟨rfl, rfl⟩
  go_wp2_with fail
  refine HB.out.mono ?_
  rintro e w2 ⟨rfl, br, hbr, hrow, hrep, hg⟩
  have q0 := cell_at hrep (i := 0) rfl
  have q1 := cell_at hrep (i := 1) rfl
  have z0 := frz_at hrep (i := 0)
  have z1 := frz_at hrep (i := 1)
  have hrep2 := heap_set (i := 0) (u := .int .u32 1) (show w2.drew.heap[b]? = _ from hrep)
  have q1' := cell_at hrep2 (i := 1) rfl
  have z1' := frz_at hrep2 (i := 1)
  have hrep3 := heap_set (i := 1) (u := .int .i32 0) hrep2
  have hsz : (w.setCell ⟨b, 1, none⟩ (.int .i32 1)).heap.size = w.heap.size := by simp
  rw [hsz] at hbr
  have g2 := grown_set w2.drew b 0 (.int .u32 1)
  have g3 := grown_set (w2.drew.setCell ⟨b, 0, none⟩ (.int .u32 1)) b 1 (.int .i32 0)
  have hrw : ((w2.drew.setCell ⟨b, 0, none⟩ (.int .u32 1)).setCell ⟨b, 1, none⟩ (.int .i32 0)).rowIs br 164 256 (fun i => .int .u8 (swpB i : Int)) := by
    refine hrow.of_block ?_
    have hne : some br ≠ some b := by simp; omega
    rw [g3.block br (by simpa using hrow.lt) hne, g2.block br hrow.lt hne]; rfl
  have hgg : w.grownBy ((w2.drew.setCell ⟨b, 0, none⟩ (.int .u32 1)).setCell ⟨b, 1, none⟩ (.int .i32 0)) (some b) := by
    have hw2 : w.heap.size ≤ w2.heap.size := by have := hg.size; rw [hsz] at this; exact this
    refine ⟨hg.os.trans g1.os, hg.tape.trans g1.tape, hg.output.trans g1.output, by simpa using hw2, fun k hk hne => ?_⟩
    have hk2 : k < w2.heap.size := Nat.lt_of_lt_of_le hk hw2
    rw [g3.block k (by simpa using hk2) hne, g2.block k hk2 hne]
    exact (hg.block k (by rw [hsz]; exact hk) hne).trans (g1.block k hk hne)
  have H := Lib.hid (And.intro hrep3 (And.intro hgg hrw))
  go_wp2
  -- THE DOOR: two deferred calls, the last laid first
  refine leaves_cons (f := 111) (args := #[.pointer (some ⟨b, 0, none⟩), .bool true]) (by simp) (by simp [go_sem]) ?_
  refine (store_deferred ⟨b, 0, none⟩ (.int .u32 0) .returning _ q0 z0).mono ?_
  rintro e u' w'' ⟨rfl, rfl, rfl⟩
  refine leaves_cons (f := 110) (args := #[.pointer (some ⟨b, 1, none⟩)]) (by simp [settle]) (by simp [go_sem]) ?_
  refine (unlock_deferred muLib ⟨b, 1, none⟩ _ _ q1' z1').mono ?_
  rintro e u' w'' ⟨rfl, rfl, rfl⟩
  exact ⟨_, results_none rfl _ _ _, rfl, br, hbr, H.out.2.2, H.out.1, H.out.2.1⟩

theorem do_first (b : Nat) (w : World) (hF : Fresh w b 0) :
    Calls Tryz.prog 102 #[.pointer (some ⟨b, 0, none⟩), .func (.func 103) #[.pointer (some ⟨b, 0, none⟩)] #[]] w fun e w' => e = .returned (.tuple #[]) ∧ ∃ br, w.heap.size ≤ br ∧ w'.rowIs br 164 256 (fun i => .int .u8 (swpB i : Int)) ∧ RepAt w' b 1 0 (repI br) (.slice none 0 0) ∧ w.grownBy w' (some b) := by
  have HS := Lib.hid (doSlow_any b w hF)
  obtain ⟨v, hbk, _, _⟩ := hF
  have HL := Lib.hid (load_any ⟨b, 0, none⟩ 0 (.inl rfl) w (cell_at hbk (i := 0) rfl))
  clear hbk
  go_enter Tryz.func102, Tryz.ntmps102
  go_wp2_with fail
  refine HL.out.mono ?_
  rintro e w1 ⟨rfl, rfl⟩
  go_wp2_with fail
  refine HS.out.mono ?_
  rintro e w2 ⟨rfl, hh⟩
  go_wp2
  go_end0
  exact ⟨rfl, hh⟩

theorem do_again (b br : Nat) (f : Value) (w : World) (hR : RepAt w b 1 0 (repI br) (.slice none 0 0)) :
    Calls Tryz.prog 102 #[.pointer (some ⟨b, 0, none⟩), f] w fun e w' => e = .returned (.tuple #[]) ∧ w = w' := by
  have HL := Lib.hid (load_any ⟨b, 0, none⟩ 1 (.inr rfl) w (cell_at hR (i := 0) rfl))
  clear hR
  go_enter Tryz.func102, Tryz.ntmps102
  go_wp2_with fail
  refine HL.out.mono ?_
  rintro e w1 ⟨rfl, rfl⟩
  go_wp2
  go_end0
  exact ⟨rfl, rfl⟩

theorem meth_rep (v : Value) (w : World) : (method 341 165 v "Replace").run Tryz.prog w = .ok (199, v) w := by kernel_rfl

set_option maxRecDepth 100000 in
set_option maxHeartbeats 2000000 in
/-- The first use. -/
theorem replace_first (b : Nat) (s : ByteArray) (w : World) (hF : Fresh w b 0) (hs : ∀ c ∈ s.data.toList, c = 65 ∨ c = 66) (h0 : 0 < s.size) (hn : s.size ≤ 1000) :
    Calls Tryz.prog 91 #[.pointer (some ⟨b, 0, none⟩), .string s] w fun e w' => e = .returned (.string ⟨(s.data.toList.map swpU).toArray⟩) ∧ ∃ br, w.heap.size ≤ br ∧ w'.rowIs br 164 256 (fun i => .int .u8 (swpB i : Int)) ∧ RepAt w' b 1 0 (repI br) (.slice none 0 0) ∧ w.grownBy w' (some b) := by
  have HD := Lib.hid (do_first b w hF)
  have HB := Lib.hid (fun br w' hrow => byteReplace_any br s w' hrow hs h0 hn)
  clear hs hF
  go_enter Tryz.func91, Tryz.ntmps91
  go_wp2_with fail
  refine HD.out.mono ?_
  rintro e w1 ⟨rfl, br, hbr, hrow, hrep, hg⟩
  have c3 := cell_at hrep (i := 3) rfl
  unfold repI at c3
  have hm := meth_rep
  go_wp2_with fail
  refine (HB.out br w1 hrow).mono ?_
  rintro e w2 ⟨rfl, hx2⟩
  have hrow2 := Ext.rowX hrow hx2
  have hrep2 : RepAt w2 b 1 0 (repI br) (.slice none 0 0) := (hx2.block b (Array.getElem?_eq_some_iff.1 hrep).1).trans hrep
  have hg2 : w.grownBy w2 (some b) := ⟨hx2.os.trans hg.os, hx2.tape.trans hg.tape, hx2.output.trans hg.output, Nat.le_trans hg.size hx2.size, fun k hk hne => (hx2.block k (Nat.lt_of_lt_of_le hk hg.size)).trans (hg.block k hk hne)⟩
  clear hrow hrep hg
  go_wp2
  go_ret
  exact ⟨rfl, br, hbr, hrow2, hrep2, hg2⟩

set_option maxRecDepth 100000 in
set_option maxHeartbeats 2000000 in
/-- A further use. -/
theorem replace_again (b br : Nat) (s : ByteArray) (w : World) (hrow : w.rowIs br 164 256 (fun i => .int .u8 (swpB i : Int))) (hrep : RepAt w b 1 0 (repI br) (.slice none 0 0)) (hs : ∀ c ∈ s.data.toList, c = 65 ∨ c = 66) (h0 : 0 < s.size) (hn : s.size ≤ 1000) :
    Calls Tryz.prog 91 #[.pointer (some ⟨b, 0, none⟩), .string s] w fun e w' => e = .returned (.string ⟨(s.data.toList.map swpU).toArray⟩) ∧ Ext w w' := by
  have HD := Lib.hid (fun f => do_again b br f w hrep)
  have HB := Lib.hid (byteReplace_any br s w hrow hs h0 hn)
  have c3 := cell_at hrep (i := 3) rfl
  unfold repI at c3
  have hm := meth_rep
  clear hs hrow hrep
  go_enter Tryz.func91, Tryz.ntmps91
  go_wp2_with fail
  refine (HD.out _).mono ?_
  rintro e w1 ⟨rfl, rfl⟩
  go_wp2_with fail
  refine HB.out.mono ?_
  rintro e w2 ⟨rfl, hx2⟩
  go_wp2
  go_ret
  exact ⟨rfl, hx2⟩
end Go.Proofs.YtfpliihglgjijaaGreat
