/-
  Chapter 14: identifiers, walked.
  Condition: the table of white space reads as it is laid.
-/
import Derived.Test.YteojfkffmbcedaaGreatDoorGs
import Derived.Test.YteojfkffmbcedaaGreatDoorShelf
import Derived.Test.YteojfkffmbcedaaGreatDoorSl
namespace Go.Proofs.YteojfkffmbcedaaGreatDoor
open Go.RowKit Go.WideMaps Go.Maps

/-- The table of white space, as it is laid. -/
abbrev Spaces (w : World) : Prop := Lib.TabIs Tryz.prog w "strings.asciiSpace" .u8 Lib.asciiSpaceTab
theorem keyStr (s : ByteArray) (h : s.size ≤ 1000000) : keyOf Tryz.prog 9 (.string s) = some (.string s.data.toList) := keyOf_string_mk Tryz.underlying9 (by unfold maxLen; omega)

theorem grown_trans {a b c : World} {r : Option Nat} (h : a.grownBy b r) (k : b.grownBy c r) : a.grownBy c r :=
  ⟨k.os.trans h.os, k.tape.trans h.tape, k.output.trans h.output, Nat.le_trans h.size k.size, fun i hi hne => (k.block i (Nat.lt_of_lt_of_le hi h.size) hne).trans (h.block i hi hne)⟩
/-- The cells of the lists' literal. -/
def lit78 : Array Value := (Gs.lists.flatMap fun p => [.string ⟨p.1.toArray⟩, .int .i64 p.2.1, .int .i64 p.2.2.1, .int .i64 p.2.2.2.1, .int .u8 (p.2.2.2.2.toNat : Int)]).toArray

theorem lit_at : ∀ n, n < 11 → ∃ p, Gs.lists[n]? = some p ∧ lit78[n * 5]? = some (.string ⟨p.1.toArray⟩) ∧ lit78[n * 5 + 1]? = some (.int .i64 p.2.1) ∧ lit78[n * 5 + 2]? = some (.int .i64 p.2.2.1) ∧ lit78[n * 5 + 3]? = some (.int .i64 p.2.2.2.1) ∧ lit78[n * 5 + 4]? = some (.int .u8 (p.2.2.2.2.toNat : Int)) := by
  intro n hn
  match n, hn with
  | 0, _ => exact ⟨_, rfl, rfl, rfl, rfl, rfl, rfl⟩
  | 1, _ => exact ⟨_, rfl, rfl, rfl, rfl, rfl, rfl⟩
  | 2, _ => exact ⟨_, rfl, rfl, rfl, rfl, rfl, rfl⟩
  | 3, _ => exact ⟨_, rfl, rfl, rfl, rfl, rfl, rfl⟩
  | 4, _ => exact ⟨_, rfl, rfl, rfl, rfl, rfl, rfl⟩
  | 5, _ => exact ⟨_, rfl, rfl, rfl, rfl, rfl, rfl⟩
  | 6, _ => exact ⟨_, rfl, rfl, rfl, rfl, rfl, rfl⟩
  | 7, _ => exact ⟨_, rfl, rfl, rfl, rfl, rfl, rfl⟩
  | 8, _ => exact ⟨_, rfl, rfl, rfl, rfl, rfl, rfl⟩
  | 9, _ => exact ⟨_, rfl, rfl, rfl, rfl, rfl, rfl⟩
  | 10, _ => exact ⟨_, rfl, rfl, rfl, rfl, rfl, rfl⟩

set_option maxRecDepth 100000 in
set_option maxHeartbeats 3000000 in
theorem identifiers_any (w : World) (ht : Spaces w) :
    Calls Tryz.prog 8 #[] w fun e w' => ∃ b, e = .returned (.map (some b)) ∧ w'.ownsMap Tryz.prog 9 ruleR b 200 (Gs.tabOf Gs.dir) ∧ w.heap.size ≤ b ∧ Ext w w' := by
  have HT := Lib.hid ht
  have hmm := @run_makeMap Tryz.prog
  have K := string_keyed (P := Tryz.prog) Tryz.underlying9
  obtain ⟨w1, r1, o1, g1⟩ := (World.ownsMap_made w Tryz.prog 9 ruleR).update K Tryz.underlying31 (by decide) (keyStr ⟨#[48, 48]⟩ (by decide)) (ruleR_mk (1, 18, 18, 0))
  obtain ⟨w2, r2, o2, g2⟩ := o1.update K Tryz.underlying31 (by decide) (keyStr ⟨#[50, 48]⟩ (by decide)) (ruleR_mk (0, 2, 2, 0))
  obtain ⟨w3, r3, o3, g3⟩ := o2.update K Tryz.underlying31 (by decide) (keyStr ⟨#[56, 48, 50, 48]⟩ (by decide)) (ruleR_mk (3, 1, 25, 0))
  replace r1 : (Instr.mapUpdate 31 (.map (some w.heap.size)) (.string ⟨#[48, 48]⟩) (.agg #[.int .i64 1, .int .i64 18, .int .i64 18, .int .u8 0])).run Tryz.prog (w.alloc (.map #[] 0)) = .ok () w1 := r1
  replace r2 : (Instr.mapUpdate 31 (.map (some w.heap.size)) (.string ⟨#[50, 48]⟩) (.agg #[.int .i64 0, .int .i64 2, .int .i64 2, .int .u8 0])).run Tryz.prog w1 = .ok () w2 := r2
  replace r3 : (Instr.mapUpdate 31 (.map (some w.heap.size)) (.string ⟨#[56, 48, 50, 48]⟩) (.agg #[.int .i64 3, .int .i64 1, .int .i64 25, .int .u8 0])).run Tryz.prog w2 = .ok () w3 := r3
  clear ht
  go_enter Tryz.func8, Tryz.ntmps8
  go_wp2
  have hW : ∃ W : World, W = w3.alloc (.cells lit78 50) := ⟨_, rfl⟩
  obtain ⟨W, hW⟩ := hW
  have hsz3 : w.heap.size < w3.heap.size := o3.lt
  have hWs : W.heap.size = w3.heap.size + 1 := by rw [hW]; simp
  have HC : Hid (∀ wr, W.grownBy wr (some w.heap.size) → ∀ k, wr.cell? ⟨w3.heap.size, k, none⟩ = lit78[k]?) := Lib.hid (fun wr hg k => by
    have hb : wr.heap[w3.heap.size]? = W.heap[w3.heap.size]? := hg.block w3.heap.size (by omega) (by intro e; injection e with e; omega)
    rw [World.cell?_of_block (w := W) (a := ⟨w3.heap.size, k, none⟩) hb, hW]
    unfold World.cell?
    rw [heap_alloc_new]
    rfl)
  have oW : W.ownsMap Tryz.prog 9 ruleR w.heap.size 3 (Gs.tabOf (Gs.ents 0)) := by rw [hW]; exact o3.alloc _
  have hxW : Ext w W := by
    rw [hW]
    exact ((((Ext.refl w).alloc _).ofGrown g1 (fun k hk => by cases hk; exact Nat.le_refl _)).ofGrown g2 (fun k hk => by cases hk; exact Nat.le_refl _)).ofGrown g3 (fun k hk => by cases hk; exact Nat.le_refl _) |>.alloc _
  have HWE := Lib.hid hW
  clear r1 r2 r3 o1 o2 o3 g1 g2 g3 hmm hW
  go_loopw [37] (fun i wr => ∃ n : Nat, n ≤ 11 ∧ i = .int .i64 (n : Int) ∧ wr.ownsMap Tryz.prog 9 ruleR w.heap.size (3 + 10 * n) (Gs.tabOf (Gs.ents n)) ∧ W.grownBy wr (some w.heap.size) ∧ Ext w wr) (fun i _ => 11 - (intOf i).toNat)
  case atStart =>
    have hW := HWE.out
    subst hW
    exact ⟨0, Nat.zero_le _, rfl, oW, World.grownBy.refl _ _, hxW⟩
  case round =>
    clear oW hxW
    obtain ⟨n, hn, rfl, hown, hgr, hxr⟩ := hrel
    by_cases hlt : n < 11
    · obtain ⟨p, hp, q0, q1, q2, q3, q4⟩ := lit_at n hlt
      have HES := Lib.hid (ents_succ n p hp)
      have HSM := Lib.hid (lists_small p (List.mem_of_getElem? hp))
      obtain ⟨pw, pk, pl, pm, ps⟩ := p
      dsimp only at q0 q1 q2 q3 q4 HSM
      have c0 := (HC.out wr hgr (n * 5)).trans q0
      have c1 := (HC.out wr hgr (n * 5 + 1)).trans q1
      have c2 := (HC.out wr hgr (n * 5 + 2)).trans q2
      have c3 := (HC.out wr hgr (n * 5 + 3)).trans q3
      have c4 := (HC.out wr hgr (n * 5 + 4)).trans q4
      obtain ⟨P, hP⟩ : ∃ P : ByteArray, P = ⟨pw.toArray⟩ := ⟨_, rfl⟩
      rw [← hP] at c0
      have HP : Hid (P.data.toList = pw) := Lib.hid (by rw [hP])
      clear q0 q1 q2 q3 q4 hp hP
      obtain ⟨wo, rfl⟩ : ∃ wo : World, wo = wr := ⟨_, rfl⟩
      obtain ⟨V, hV⟩ : ∃ V : World, V = wo.alloc (.cells #[.string P, .int .i64 pk, .int .i64 pl, .int .i64 pm, .int .u8 (ps.toNat : Int)] 50) := ⟨_, rfl⟩
      have hxV : Ext w V := by rw [hV]; exact hxr.alloc _
      obtain ⟨s1, s2, s3, s4⟩ := HSM.out
      have HFD := Lib.hid (Tryz.strings_Fields P V (by rw [← len_data, HP.out]; omega) (fun j b hj => s2 b (by rw [← HP.out]; exact List.mem_of_getElem? hj)) (tabIs_ext HT.out hxV))
      rw [HP.out] at HFD
      have HFK : Hid (∀ (m : Nat) (k : List UInt8), (Lib.fields pw)[m]? = some k → k.length ≤ 10) := Lib.hid (fun m k h => s4 k (List.mem_of_getElem? h))
      have HWD : Hid (∀ (m : Nat) (k : List UInt8), (Lib.fields pw)[m]? = some k → (Gs.words (pw, pk, pl, pm, ps)).take (m + 1) = (Gs.words (pw, pk, pl, pm, ps)).take m ++ [(k, pk, pl, pm, ps)]) := Lib.hid (fun m k h => by
        unfold Gs.words
        rw [List.take_add_one, List.getElem?_map, h]; rfl)
      have HWL : Hid ((Gs.words (pw, pk, pl, pm, ps)).take (Lib.fields pw).length = Gs.words (pw, pk, pl, pm, ps)) := Lib.hid (List.take_of_length_le (by simp [Gs.words]))
      generalize Gs.words (pw, pk, pl, pm, ps) = WD at *
      have hFl : (Lib.fields pw).length ≤ 10 := s3
      generalize Lib.fields pw = F at *
      have hVs : V.heap.size = wo.heap.size + 1 := by rw [hV]; simp
      have hws3 : w3.heap.size + 1 ≤ wo.heap.size := by have := hgr.size; omega
      obtain ⟨X, hX⟩ : ∃ X : World, X = V.alloc (.cells (F.map fun l => Value.string ⟨l.toArray⟩).toArray 9) := ⟨_, rfl⟩
      have hXs : X.heap.size = wo.heap.size + 2 := by rw [hX]; simp; omega
      have hXk : X.heap[V.heap.size]? = some (.cells (F.map fun l => Value.string ⟨l.toArray⟩).toArray 9) := by rw [hX]; exact heap_alloc_new _ _
      have hXv : X.heap[wo.heap.size]? = some (.cells #[.string P, .int .i64 pk, .int .i64 pl, .int .i64 pm, .int .u8 (ps.toNat : Int)] 50) := by
        have h1 : V.heap[wo.heap.size]? = some (.cells #[.string P, .int .i64 pk, .int .i64 pl, .int .i64 pm, .int .u8 (ps.toNat : Int)] 50) := by rw [hV]; exact heap_alloc_new _ _
        rw [← h1, hX]
        exact (World.grownBy_alloc V _ none).block wo.heap.size (by omega) (by simp)
      have HCX : Hid (∀ wq, X.grownBy wq (some w.heap.size) → (∀ (m : Nat) (k : List UInt8), F[m]? = some k → wq.cell? ⟨wo.heap.size + 1, m, none⟩ = some (.string ⟨k.toArray⟩)) ∧ wq.cell? ⟨wo.heap.size, 1, none⟩ = some (.int .i64 pk) ∧ wq.cell? ⟨wo.heap.size, 2, none⟩ = some (.int .i64 pl) ∧ wq.cell? ⟨wo.heap.size, 3, none⟩ = some (.int .i64 pm) ∧ wq.cell? ⟨wo.heap.size, 4, none⟩ = some (.int .u8 (ps.toNat : Int))) := Lib.hid (fun wq hg => by
        have e1 := (hg.block V.heap.size (by omega) (by intro e; injection e with e; omega)).trans hXk
        have e2 := (hg.block wo.heap.size (by omega) (by intro e; injection e with e; omega)).trans hXv
        refine ⟨fun m k hk => ?_, ?_, ?_, ?_, ?_⟩
        · unfold World.cell?; rw [hVs] at e1; rw [e1]; simp [hk]
        all_goals unfold World.cell?; rw [e2]; rfl)
      have oX : X.ownsMap Tryz.prog 9 ruleR w.heap.size (3 + 10 * n) (Gs.tabOf (Gs.ents n)) := by rw [hX, hV]; exact (hown.alloc _).alloc _
      have gX : W.grownBy X (some w.heap.size) := by
        rw [hX, hV]
        exact grown_trans (grown_trans hgr (World.grownBy_alloc _ _ _)) (World.grownBy_alloc _ _ _)
      have hxX : Ext w X := by rw [hX]; exact hxV.alloc _
      rw [← hX] at HFD
      have HVE := Lib.hid hV
      clear hV hX hXk hXv hown hgr hxr hxV s1 s2 s3 s4
      go_wp2_with fail
      rw [← HVE.out]
      refine HFD.out.mono ?_
      rintro e w5 ⟨rfl, rfl⟩
      clear c0 c1 c2 c3 c4
      go_wp2
      go_loopw [45] (fun i wq => ∃ m : Nat, m ≤ F.length ∧ i = .int .i64 (m : Int) ∧ wq.ownsMap Tryz.prog 9 ruleR w.heap.size (3 + 10 * n + m) (Gs.tabOf (Gs.ents n ++ WD.take m)) ∧ w5.grownBy wq (some w.heap.size) ∧ Ext w wq) (fun i _ => F.length - (intOf i).toNat)
      case atStart => exact ⟨0, Nat.zero_le _, rfl, by simpa using oX, World.grownBy.refl _ _, hxX⟩
      case round =>
        clear oX hxX
        obtain ⟨m, hm, rfl, hown, hgq, hxq⟩ := hrel
        by_cases hml : m < F.length
        · obtain ⟨k, hk⟩ : ∃ k, F[m]? = some k := ⟨_, List.getElem?_eq_getElem hml⟩
          obtain ⟨f1, d1, d2, d3, d4⟩ := HCX.out wr hgq
          have f0 := f1 m k hk
          have hkl := HFK.out m k hk
          have HT1 := Lib.hid (HWD.out m k hk)
          obtain ⟨KB, hKB⟩ : ∃ KB : ByteArray, KB = ⟨k.toArray⟩ := ⟨_, rfl⟩
          rw [← hKB] at f0
          have hkey : keyOf Tryz.prog 9 (.string KB) = some (.string k) := by
            rw [keyStr KB (by rw [hKB]; simp [ByteArray.size]; omega), hKB]
          clear f1 hk hKB
          go_wp2_with (at_mapUpdate; go_loud (refine wpList_mapUpdate_own _ rfl _ _ _ 31 rfl 9 38 K Tryz.underlying31 ruleR w.heap.size _ _ rfl hown (by unfold maxLen; omega) _ _ _ rfl rfl hkey (ruleD (pk, pl, pm, ps)) [] rfl ?_))
          intro w6 hown6 hg6
          have hx6 := hxq.ofGrown hg6 (fun j hj => by cases hj; exact Nat.le_refl _)
          have hg56 := grown_trans hgq hg6
          clear hown hgq hxq hg6 hkey f0 d1 d2 d3 d4
          go_wp2
          go_roundw
          case rel => exact ⟨m + 1, by omega, by go_num, by rw [HT1.out, ← List.append_assoc, tabOf_snoc]; exact hown6, hg56, hx6⟩
          case measure => simp [intOf]; omega
        · obtain rfl : m = F.length := by omega
          rw [HWL.out, ← HES.out] at hown
          have hg7 := grown_trans gX hgq
          clear hm hml hgq
          go_wp2
          go_roundw
          case rel => exact ⟨n + 1, by omega, by go_num, hown.mono (by omega), hg7, hxq⟩
          case measure => simp [intOf]; omega
    · obtain rfl : n = 11 := by omega
      clear hn hlt
      go_wp2
      go_ret
      exact ⟨w.heap.size, rfl, hown.mono (by omega), Nat.le_refl _, hxr⟩
end Go.Proofs.YteojfkffmbcedaaGreatDoor
