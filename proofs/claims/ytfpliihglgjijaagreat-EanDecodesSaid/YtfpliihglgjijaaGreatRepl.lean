/-
  strings.NewReplacer("A", "B", "B", "A") and its Replace, walked.
  No condition.
-/
import Derived.Test.YtfpliihglgjijaaGreatSl3
import Derived.Test.YtfpliihglgjijaaGreatArr
import Derived.Conc.RwLib
import Derived.Conc.MuData
import Derived.Conc.MuLone
import Derived.KernelRfl
import Derived.Handy
namespace Go.Proofs.YtfpliihglgjijaaGreat
open Go.RowKit Go.MuLone

abbrev muLink : Go.Conc.Locks.MuLink := { lock := 109, unlock := 110, ilock := 114, iunlock := 115, lockSlow := 124, unlockSlow := 127, disable := 120, enable := 122, acquire := 123, relMerge := 125, cas32 := 121, add32 := 126, tMutex := 145, tIMutex := 143, tPMutex := 170, tPIMutex := 184, tPI32 := 186, tUP := 135, tNoCopy := 138, tU32 := 106 }
theorem muLib : Go.Conc.Locks.MuLib Tryz.prog muLink :=
  ⟨Tryz.func109, Tryz.func110, Tryz.func114, Tryz.func115, Tryz.func120, Tryz.func122, Tryz.func123, Tryz.func125, Tryz.func121, Tryz.func126, Tryz.underlying143, Tryz.runUnderlying143, Tryz.sizeOf143, Tryz.isAgg143, Tryz.zeroValue143, Tryz.underlying145, Tryz.runUnderlying145, Tryz.sizeOf145, Tryz.isAgg145, Tryz.zeroValue145, Tryz.underlying170, Tryz.runUnderlying170, Tryz.sizeOf170, Tryz.isAgg170, Tryz.zeroValue170, Tryz.underlying184, Tryz.runUnderlying184, Tryz.sizeOf184, Tryz.isAgg184, Tryz.zeroValue184, Tryz.underlying186, Tryz.runUnderlying186, Tryz.sizeOf186, Tryz.isAgg186, Tryz.zeroValue186, Tryz.underlying135, Tryz.runUnderlying135, Tryz.sizeOf135, Tryz.isAgg135, Tryz.zeroValue135, Tryz.underlying138, Tryz.runUnderlying138, Tryz.sizeOf138, Tryz.isAgg138, Tryz.zeroValue138, Tryz.underlying21, Tryz.runUnderlying21, Tryz.sizeOf21, Tryz.isAgg21, Tryz.zeroValue21, (by kernel_rfl)⟩

def ABBA : List (List UInt8) := [[65], [66], [66], [65]]
/-- The replacer before its first use; m: its lock's state. -/
def Fresh (w : World) (b : Nat) (m : Int) : Prop := ∃ v, w.heap[b]? = some (.cells #[.int .u32 0, .int .i32 m, .int .u32 0, .nilIface, v] 151 (0, 0)) ∧ SlN w 0 v (ABBA.map encS) ∧ v.ownBlock ≠ some b

set_option maxRecDepth 100000 in
set_option maxHeartbeats 2000000 in
theorem newReplacer_any (bx : Nat) (w : World) (h0 : w.cell? ⟨bx, 0, none⟩ = some (.string ⟨#[65]⟩)) (h1 : w.cell? ⟨bx, 1, none⟩ = some (.string ⟨#[66]⟩)) (h2 : w.cell? ⟨bx, 2, none⟩ = some (.string ⟨#[66]⟩)) (h3 : w.cell? ⟨bx, 3, none⟩ = some (.string ⟨#[65]⟩)) :
    Calls Tryz.prog 90 #[.slice (some ⟨bx, 0, none⟩) 4 4] w fun e w' => ∃ b, e = .returned (.pointer (some ⟨b, 0, none⟩)) ∧ w.heap.size ≤ b ∧ Fresh w' b 0 ∧ Ext w w' := by
  go_enter Tryz.func90, Tryz.ntmps90
  go_wp2_with (at_builtin; go_loud (refine wpList_append_at rfl _ _ 89 9 (.string ⟨#[]⟩) 16 rfl Tryz.underlying89 info_strs rfl (by decide) w.heap.size _ [] rfl (Own.nil _ _ _) bx 0 4 4 (ABBA.map encS) rfl rfl ?_ ?_ (by decide) (Nat.le_refl _) ?_))
  · intro j u hj
    match j with
    | 0 => simp [ABBA] at hj; subst hj; exact h0
    | 1 => simp [ABBA] at hj; subst hj; exact h1
    | 2 => simp [ABBA] at hj; subst hj; exact h2
    | 3 => simp [ABBA] at hj; subst hj; exact h3
    | j + 4 => simp [ABBA] at hj
  · intro u hu
    simp only [ABBA, List.map_cons, List.map_nil, List.mem_cons, List.not_mem_nil, or_false] at hu
    rcases hu with h | h | h | h <;> rw [h] <;> rfl
  intro v5 w5 hown hg hat
  obtain ⟨a5, c5, rfl⟩ := hown.sl.form
  rw [show (ABBA.map encS).length = 4 from rfl] at *
  have hx5 : Ext w w5 := (Ext.refl w).ofGrown hg (by intro k hk; simp [Value.ownBlock] at hk)
  have hlow := World.ownsRow.lt hown
  have hsl := SlN.ofOwn hown
  clear hg hat hown
  go_wp2
  go_ret
  refine ⟨w5.heap.size, rfl, hx5.size, ⟨_, heap_alloc_last w5 _, (hsl.mono (Nat.zero_le _)).ext ((Ext.refl w5).alloc _), fun h => ?_⟩, hx5.alloc _⟩
  have := (hlow _ h).2
  omega

/-- What the byte replacer's row holds. -/
def swpB (i : Nat) : Nat := if i = 65 then 66 else if i = 66 then 65 else i

set_option maxRecDepth 100000 in
set_option maxHeartbeats 4000000 in
theorem build_any (b : Nat) (w : World) (m : Int) (hF : Fresh w b m) :
    Calls Tryz.prog 107 #[.pointer (some ⟨b, 0, none⟩)] w fun e w' => ∃ br, e = .returned (.iface 165 (.pointer (some ⟨br, 0, none⟩))) ∧ w.heap.size ≤ br ∧ w'.rowIs br 164 256 (fun i => .int .u8 (swpB i : Int)) ∧ Ext w w' := by
  obtain ⟨v, hbk, hsl, hne⟩ := hF
  have c4 : w.cell? ⟨b, 4, none⟩ = some v := by simp [World.cell?, hbk]
  obtain ⟨a0, c0, rfl⟩ := hsl.1.form
  rw [show (ABBA.map encS).length = 4 from rfl] at *
  have k0 := hsl.1.at_ (k := 0) (by decide)
  have k1 := hsl.1.at_ (k := 1) (by decide)
  have k2 := hsl.1.at_ (k := 2) (by decide)
  have k3 := hsl.1.at_ (k := 3) (by decide)
  obtain ⟨bx, off, rfl, hlt, k0⟩ := k0
  obtain ⟨_, _, e1, _, k1⟩ := k1
  obtain ⟨_, _, e2, _, k2⟩ := k2
  obtain ⟨_, _, e3, _, k3⟩ := k3
  cases e1; cases e2; cases e3
  simp only [ABBA, List.map_cons, List.map_nil, List.getElem_cons_zero, List.getElem_cons_succ, encS, Nat.add_zero] at k0 k1 k2 k3
  obtain ⟨SA, hSA⟩ : ∃ SA, (⟨#[65]⟩ : ByteArray) = SA := ⟨_, rfl⟩
  obtain ⟨SB, hSB⟩ : ∃ SB, (⟨#[66]⟩ : ByteArray) = SB := ⟨_, rfl⟩
  have hA1 : SA.size = 1 := by rw [← hSA]; rfl
  have hB1 : SB.size = 1 := by rw [← hSB]; rfl
  have hA0 : SA[0] = 65 := by subst hSA; rfl
  have hB0 : SB[0] = 66 := by subst hSB; rfl
  have k0 : w.cell? ⟨bx, off, none⟩ = some (.string SA) := by rw [← hSA]; exact k0
  have k1 : w.cell? ⟨bx, off + 1, none⟩ = some (.string SB) := by rw [← hSB]; exact k1
  have k2 : w.cell? ⟨bx, off + 2, none⟩ = some (.string SB) := by rw [← hSB]; exact k2
  have k3 : w.cell? ⟨bx, off + 3, none⟩ = some (.string SA) := by rw [← hSA]; exact k3
  clear hsl hne hbk hSA hSB
  go_enter Tryz.func107, Tryz.ntmps107
  go_wp2_with fail
  go_loop [5, 4] (fun i a => a = .bool true ∧ (i = .int .i64 0 ∨ i = .int .i64 2 ∨ i = .int .i64 4)) (fun i _ => 4 - (intOf i).toNat)
  case atStart => exact ⟨rfl, .inl rfl⟩
  case round =>
    obtain ⟨rfl, hrel⟩ := hrel
    rcases hrel with rfl | rfl | rfl
    · go_wp2
      go_round
      case rel => exact ⟨rfl, .inr (.inl rfl)⟩
      case measure => simp [intOf]
    · go_wp2
      go_round
      case rel => exact ⟨rfl, .inr (.inr rfl)⟩
      case measure => simp [intOf]
    · have hzs : Tryz.zeroCells164.size = 256 := by kernel_rfl
      have hz1 : Tryz.zeroCells164.all (·.oneCell') = true := by kernel_rfl
      have hst := run_storeCells_new (P := Tryz.prog) w 164 Tryz.zeroCells164 Tryz.zeroCells164 (by rw [hzs]; kernel_rfl) rfl hz1
      have hrow0 : (w.alloc (.cells Tryz.zeroCells164 164)).rowIs w.heap.size 164 256 (fun _ => .int .u8 0) := by
        have := World.rowIs_alloc w Tryz.zeroCells164 164 (fun _ => .int .u8 0) (fun i hi => by
          have h : Tryz.zeroCells164 = Array.replicate 256 (.int .u8 0) := by kernel_rfl
          rw [hzs] at hi
          rw [h]; simp [hi])
        rw [hzs] at this; exact this
      have HROW0 := Lib.hid hrow0
      have HK := Lib.hid (fun (w' : World) (hx : Ext w w') => And.intro ((hx.cell (p := ⟨bx, off, none⟩) hlt).trans k0) (And.intro ((hx.cell (p := ⟨bx, off + 1, none⟩) hlt).trans k1) (And.intro ((hx.cell (p := ⟨bx, off + 2, none⟩) hlt).trans k2) ((hx.cell (p := ⟨bx, off + 3, none⟩) hlt).trans k3))))
      clear hz1 hzs hrow0 c4 k0 k1 k2 k3
      go_wp2_with fail
      go_loopw [61] (fun i wr => ∃ k : Nat, k ≤ 256 ∧ i = .int .i64 (k : Int) ∧ wr.rowIs w.heap.size 164 256 (fun j => if j < k then .int .u8 (j : Int) else .int .u8 0) ∧ Ext w wr) (fun i _ => 256 - (intOf i).toNat)
      case atStart => exact ⟨0, by omega, rfl, HROW0.out.congr (fun i _ => by simp), (by repeat (first | exact Ext.refl _ | assumption | refine Ext.alloc ?_ _ | refine Ext.drew ?_ | refine Ext.trans ?_ (by assumption)))⟩
      case round =>
        obtain ⟨k, hk, rfl, hrow, hxr⟩ := hrel
        by_cases hlk : k < 256
        · have hcl := hrow.cell hlk
          have hfz := hrow.frozen k
          have HR := Lib.hid ((hrow.set k (.int .u8 (k : Int))).congr (g := fun j => if j < k + 1 then .int .u8 (j : Int) else .int .u8 0) (fun j hj => by
            by_cases h1 : j = k
            · subst h1; rw [if_pos rfl, if_pos (by omega)]
            · rw [if_neg h1]
              by_cases h2 : j < k
              · rw [if_pos h2, if_pos (by omega)]
              · rw [if_neg h2, if_neg (by omega)]))
          have HX := Lib.hid (hxr.setCell (p := ⟨w.heap.size, k, none⟩) (Nat.le_refl _) (.int .u8 (k : Int)))
          clear hrow hxr
          go_wp2
          go_roundw
          case rel => exact ⟨k + 1, by omega, by go_num, HR.out, HX.out⟩
          case measure => simp [intOf]; omega
        · obtain rfl : k = 256 := by omega
          have HID : Hid (wr.rowIs w.heap.size 164 256 (fun j => .int .u8 (j : Int))) := Lib.hid (hrow.congr (fun i hi => by rw [if_pos hi]))
          clear hrow hk hlk
          go_wp2_with fail
          go_loopw [8] (fun i wr => ((i = .int .i64 2 ∧ wr.rowIs w.heap.size 164 256 (fun j => .int .u8 (j : Int))) ∨ (i = .int .i64 0 ∧ wr.rowIs w.heap.size 164 256 (fun j => .int .u8 ((if j = 66 then 65 else j : Nat) : Int))) ∨ (i = .int .i64 (-2) ∧ wr.rowIs w.heap.size 164 256 (fun j => .int .u8 (swpB j : Int)))) ∧ Ext w wr) (fun i _ => (match i with | .int _ m => (m + 2).toNat | _ => 0))
          case atStart => exact ⟨.inl ⟨rfl, HID.out⟩, hxr⟩
          case round =>
            clear hxr
            obtain ⟨hrel, hxr⟩ := hrel
            obtain ⟨k0, k1, k2, k3⟩ := HK.out _ hxr
            rcases hrel with ⟨rfl, hrow⟩ | ⟨rfl, hrow⟩ | ⟨rfl, hrow⟩
            · have hfz := hrow.frozen 66
              have hcl := hrow.cell (i := 66) (by decide)
              have HR := Lib.hid ((hrow.set 66 (.int .u8 65)).congr (g := fun j => .int .u8 ((if j = 66 then 65 else j : Nat) : Int)) (fun j hj => by
                by_cases h : j = 66
                · subst h; rfl
                · rw [if_neg h, if_neg h]))
              have HX := Lib.hid (hxr.setCell (p := ⟨w.heap.size, 66, none⟩) (Nat.le_refl _) (.int .u8 65))
              clear hrow hxr
              go_wp2
              go_roundw
              case rel => exact ⟨.inr (.inl ⟨rfl, HR.out⟩), HX.out⟩
              case measure => simp
            · have hfz := hrow.frozen 65
              have hcl := hrow.cell (i := 65) (by decide)
              have HR := Lib.hid ((hrow.set 65 (.int .u8 66)).congr (g := fun j => .int .u8 (swpB j : Int)) (fun j hj => by
                by_cases h : j = 65
                · subst h; rfl
                · rw [if_neg h]; unfold swpB; rw [if_neg h]))
              have HX := Lib.hid (hxr.setCell (p := ⟨w.heap.size, 65, none⟩) (Nat.le_refl _) (.int .u8 66))
              clear hrow hxr
              go_wp2
              go_roundw
              case rel => exact ⟨.inr (.inr ⟨rfl, HR.out⟩), HX.out⟩
              case measure => simp
            · clear k0 k1 k2 k3
              go_wp2
              go_ret
              exact ⟨w.heap.size, rfl, Nat.le_refl _, hrow, hxr⟩
end Go.Proofs.YtfpliihglgjijaaGreat
