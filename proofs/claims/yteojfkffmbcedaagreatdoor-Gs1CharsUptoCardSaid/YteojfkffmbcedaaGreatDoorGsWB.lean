/-
  Chapter 14: Chars, walked.
  Condition: the table of white space reads as it is laid; at most two million elements.
-/
import Derived.Test.YteojfkffmbcedaaGreatDoorGsWA
import Derived.Test.YteojfkffmbcedaaGreatDoorGsQ2
import Derived.Test.YteojfkffmbcedaaGreatDoorSl3
namespace Go.Proofs.YteojfkffmbcedaaGreatDoor
set_option linter.unusedVariables false
open Go.RowKit Go.WideMaps Go.Maps

/-- A slice of integers and a code. -/
def SlK (w : World) (v : Value) (xs : List Value) : Prop := Sl w v xs ∧ ∃ a c, v = .slice a xs.length c ∧ xs.length ≤ c
theorem SlK.ext {w w' : World} {v : Value} {xs : List Value} (h : SlK w v xs) (hx : Ext w w') : SlK w' v xs := ⟨h.1.ext hx, h.2⟩
theorem Own.slk {t : TypeId} {w : World} {B : Nat} {v : Value} {xs : List Value} (h : Own t w B v xs) : SlK w v xs := by
  refine ⟨h.sl, ?_⟩
  rcases h.2 with ⟨hnil, h0⟩ | ⟨g, cap, cur, hv, _, _, h1, _⟩
  · exact ⟨none, 0, by rw [hnil, h0], by rw [h0]; exact Nat.le_refl _⟩
  · exact ⟨_, cap, hv, h1⟩
def IntsR (r : List Int × Int) (w : World) (e : Ending) (w' : World) : Prop := ∃ v, e = .returned (.tuple #[v, .int .i64 r.2]) ∧ SlK w' v (r.1.map encI) ∧ Ext w w'
theorem IntsR.err (c : Int) {w w' : World} (h : Ext w w') : IntsR ([], c) w (.returned (.tuple #[.slice none 0 0, .int .i64 c])) w' := ⟨_, rfl, ⟨.inl ⟨rfl, _, _, rfl⟩, none, 0, rfl, Nat.le_refl _⟩, h⟩
theorem chG_len (xs : List Gs.El) (h : ∀ x ∈ xs, Gs.ver x.1 x.2 = 0) : (Gs.chG xs).length ≤ 95 * xs.length := by
  induction xs with
  | nil => simp [Gs.chG]
  | cons x xs ih =>
    have h1 := ver_sizes (h x (List.mem_cons_self ..))
    have h2 := ih (fun y hy => h y (List.mem_cons_of_mem _ hy))
    simp only [Gs.chG, List.length_append, ints_len, List.length_cons]
    split <;> simp <;> omega
/-- '[]byte(s)': a new block that holds the bytes. -/
theorem conv_bytes (s : ByteArray) (w : World) : ∃ cap w', (convert 9 36 (.string s)).run Tryz.prog w = .ok (.slice (some ⟨w.heap.size, 0, none⟩) s.size cap) w' ∧ Ext w w' ∧ w'.heap.size = w.heap.size + 1 ∧ ∀ j, (h : j < s.size) → w'.cell? ⟨w.heap.size, j, none⟩ = some (encB s[j]) := by
  refine ⟨_, _, run_bytes_of_string (P := Tryz.prog) w 9 36 5 s Tryz.underlying9 Tryz.underlying36 Tryz.underlying5, ((Ext.refl w).drew).alloc _, by simp, fun j h => ?_⟩
  exact (World.cell?_alloc_mark w.drew _ _ _ j).trans (bytesRow_at s _ j h)
/-- Blocks that a row's growth leaves alone. -/
def Off (w : World) (v : Value) (b : Nat) (o : Option Obj) : Prop := b < w.heap.size ∧ v.ownBlock ≠ some b ∧ w.heap[b]? = o
theorem Off.grow {w w' : World} {v v' : Value} {b : Nat} {o : Option Obj} (h : Off w v b o) (hg : w.grownBy w' v.ownBlock) (n : Nat) (hn : w.heap.size ≤ n) (hat : v'.ownBlock = v.ownBlock ∨ v'.ownBlock = some n) : Off w' v' b o := by
  obtain ⟨h1, h2, h3⟩ := h
  refine ⟨Nat.lt_of_lt_of_le h1 hg.size, ?_, ?_⟩
  · rcases hat with e | e
    · rw [e]; exact h2
    · rw [e]; intro e2; injection e2 with e2; omega
  · rw [hg.block b h1 (fun e => h2 e.symm)]; exact h3
theorem Off.ext {w w' : World} {v : Value} {b : Nat} {o : Option Obj} (h : Off w v b o) (hx : Ext w w') : Off w' v b o := ⟨Nat.lt_of_lt_of_le h.1 hx.size, h.2.1, by rw [hx.block b h.1]; exact h.2.2⟩
theorem Off.cell {w w' : World} {v v' : Value} {b : Nat} {o : Option Obj} (h : Off w v b o) (h' : Off w' v' b o) (k : Nat) : w'.cell? ⟨b, k, none⟩ = w.cell? ⟨b, k, none⟩ :=
  World.cell?_of_block (w := w) (a := ⟨b, k, none⟩) (by rw [h'.2.2, h.2.2])
theorem Own.one (t : TypeId) (w : World) (v : Value) (B : Nat) (hB : B ≤ w.heap.size) : Own t (w.alloc (.cells #[v] t)) B (.slice (some ⟨w.heap.size, 0, none⟩) 1 1) [v] :=
  ⟨rfl, .inr ⟨w.heap.size, 1, #[v], rfl, hB, heap_alloc_new _ _, Nat.le_refl _, by decide, rfl, rfl⟩⟩

set_option maxRecDepth 100000 in
set_option maxHeartbeats 8000000 in
theorem chars_any (v : Value) (xs : List Gs.El) (w : World) (hl : ESl w v xs) (hn : xs.length ≤ 2000000) (hs : ∀ x ∈ xs, x.1.length ≤ maxLen ∧ x.2.length ≤ maxLen) (ht : Spaces w) :
    Calls Tryz.prog 4 #[v] w (IntsR (Gs.chars xs) w) := by
  obtain ⟨a, c, rfl⟩ := hl.form
  have HI := Lib.hid (identifiers_any w ht)
  have HL := Lib.hid hl
  have HVA := Lib.hid (fun (w' : World) (b : Nat) (hd : Dir w' b) (hx : Ext w w') => verifyAll_any _ xs b w' hd (hl.ext hx) (by omega) hs)
  have HR := Lib.hid (Gs.chars.eq_1 xs)
  have HVM : Hid (Gs.verAll xs = 0 → ∀ x ∈ xs, Gs.ver x.1 x.2 = 0) := Lib.hid (fun h => verL_mem (verAll_zero h))
  generalize Gs.chars xs = res at *
  obtain ⟨N, hN⟩ : ∃ N, xs.length = N := ⟨_, rfl⟩
  have HN := Lib.hid hN
  rw [hN] at hn HL HVA ⊢
  clear hl hs ht hN
  by_cases hz : Gs.verAll xs = 0
  · have HVM := Lib.hid (HVM.out hz)
    rw [hz] at HVA
    rw [hz, if_neg (by simp)] at HR
    clear hz
    go_enter Tryz.func4, Tryz.ntmps4
    go_wp2_with fail
    refine HI.out.mono ?_
    rintro e W ⟨b, rfl, hd, hb, hxW⟩
    have H1 := Lib.hid (HVA.out W b hd hxW)
    have HD := Lib.hid hd
    clear hd HVA HI
    go_wp2_with fail
    refine H1.out.mono ?_
    rintro e V ⟨rfl, hxV⟩
    have HFI := Lib.hid (fun (w' : World) (hx : Ext V w') (s : ByteArray) (h : s.size ≤ maxLen) => find_any s b w' (Dir.ext HD.out (hxV.trans hx)) h)
    have hxw := hxW.trans hxV
    clear hxW hxV H1 HD
    go_wp2
    go_loopw [23, 6] (fun t v wr => ∃ (k : Nat) (acc : List Int), k ≤ N ∧ t = .int .i64 (k : Int) ∧ acc.length ≤ 1 + 95 * k ∧ Own 3 wr V.heap.size v (acc.map encI) ∧ Hid (256 :: Gs.chG xs = acc ++ Gs.chG (xs.drop k)) ∧ Ext V wr) (fun t _ _ => N - (intOf t).toNat)
    case atStart => exact ⟨0, [256], Nat.zero_le _, rfl, by simp, Own.one _ V _ _ (Nat.le_refl _), Lib.hid rfl, (by repeat (first | exact Ext.refl _ | assumption | refine Ext.alloc ?_ _ | refine Ext.drew ?_ | refine Ext.trans ?_ (by assumption)))⟩
    case round =>
      obtain ⟨k, acc, hk, rfl, hal, hown, hch, hx⟩ := hrel
      obtain ⟨ao, co, rfl⟩ := hown.sl.form
      rw [List.length_map] at hown ⊢
      by_cases hlt : k < N
      · obtain ⟨x, hxk⟩ : ∃ x, xs[k]? = some x := ⟨_, List.getElem?_eq_getElem (by rw [HN.out]; exact hlt)⟩
        obtain ⟨bb, off, ha, hb', q0, q1⟩ := HL.out.at_ hxk
        subst ha
        have hxx := hxw.trans hx
        have d0 := (hxx.cell (p := ⟨bb, off + k * 2, none⟩) hb').trans q0
        have d1 := (hxx.cell (p := ⟨bb, off + k * 2 + 1, none⟩) hb').trans q1
        have hv0 := HVM.out x (List.mem_of_getElem? hxk)
        have hvs := ver_sizes hv0
        have hdr : xs.drop k = x :: xs.drop (k + 1) := by
          obtain ⟨h1, h2⟩ := List.getElem?_eq_some_iff.1 hxk
          rw [List.drop_eq_getElem_cons h1, h2]
        have HDE : Hid ((xs.drop (k + 1)).isEmpty = decide (k + 1 = N)) := Lib.hid (by
          rw [Bool.eq_iff_iff, List.isEmpty_iff, List.drop_eq_nil_iff, HN.out, decide_eq_true_eq]; omega)
        obtain ⟨xa, xd⟩ := x
        have HCH := hch.out
        rw [hdr, Gs.chG] at HCH
        unfold encS at d0 d1
        dsimp only at d0 d1 hvs hv0 HCH
        obtain ⟨r, hr1, _⟩ := ver_find hv0
        have hfx : Gs.fixed xa = Gs.isFix r := by unfold Gs.fixed; rw [hr1]
        rw [hfx, HDE.out, ← List.append_assoc, ← List.append_assoc] at HCH
        have HC2 := Lib.hid HCH
        have HB : Hid ((⟨xa.toArray⟩ : ByteArray).data.toList = xa ∧ (⟨xd.toArray⟩ : ByteArray).data.toList = xd) := Lib.hid ⟨rfl, rfl⟩
        generalize (⟨xa.toArray⟩ : ByteArray) = A at *
        generalize (⟨xd.toArray⟩ : ByteArray) = D at *
        have hAs : A.size ≤ 4 := by rw [← len_data, HB.out.1]; exact hvs.1
        have hDs : D.size ≤ 90 := by rw [← len_data, HB.out.2]; exact hvs.2
        obtain ⟨U, hU⟩ : ∃ U : World, U = wr.alloc (.cells #[.string A, .string D] 35) := ⟨_, rfl⟩
        have hUs : U.heap.size = wr.heap.size + 1 := by rw [hU]; simp
        obtain ⟨P, hP⟩ : ∃ P : ByteArray, P = A ++ D := ⟨_, rfl⟩
        have HPL : Hid (P.data.toList = xa ++ xd) := Lib.hid (by rw [hP, ← HB.out.1, ← HB.out.2]; simp [ByteArray.data_append])
        have hPs : P.size ≤ 94 := by rw [hP, ByteArray.size_append]; omega
        obtain ⟨cap, w2, hcv, hx2, hs2, hby⟩ := conv_bytes P U
        have hxU : Ext wr U := by rw [hU]; exact (Ext.refl wr).alloc _
        have hown2 := (hown.ext hxU).ext hx2
        have O1 : Off w2 (.slice ao acc.length co) wr.heap.size (some (.cells #[.string A, .string D] 35 (0, 0))) := by
          refine ⟨by omega, ?_, ?_⟩
          · intro e; have := (World.ownsRow.lt hown _ e).2; omega
          · rw [hx2.block _ (by omega), hU]; exact heap_alloc_new _ _
        have O2 : Off w2 (.slice ao acc.length co) U.heap.size (w2.heap[U.heap.size]?) := by
          refine ⟨by omega, ?_, rfl⟩
          intro e; have := (World.ownsRow.lt hown _ e).2; omega
        have HBY := Lib.hid hby
        have HO2 := Lib.hid O2
        have hxVw : Ext V w2 := (hx.trans hxU).trans hx2
        have HRS := Lib.hid hr1
        have HU := Lib.hid (And.intro hU (And.intro hUs hs2))
        rw [hP] at hcv
        have HP := Lib.hid hP
        rw [hU] at hcv
        clear hU hP hxk q0 q1 hdr hvs hv0 HCH hfx hr1 hch hown hby HDE
        go_wp2
        have hUb : (wr.alloc (.cells #[.string A, .string D] 35)).heap.size = U.heap.size := by rw [HU.out.1]
        obtain ⟨wo, rfl⟩ : ∃ wo : World, wo = wr := ⟨_, rfl⟩
        obtain ⟨M, hM⟩ : ∃ M, M = A.size + D.size := ⟨_, rfl⟩
        have HM : Hid (M = P.size) := Lib.hid (by rw [hM, HP.out, ByteArray.size_append])
        have hMi : (A.size : Int) + (D.size : Int) = (M : Int) := by omega
        rw [hMi, ← hM]
        have hMs : M ≤ 94 := by omega
        have HHU : Hid (U.heap.size = wo.heap.size + 1) := Lib.hid hUs
        clear hM hMi hcv hUs hs2 d0 d1 hxx hx2 hxU hPs hk hUb
        go_loopw [35, 6] (fun t v wq => ∃ (j : Nat), j ≤ M ∧ t = .int .i64 (j : Int) ∧ Own 3 wq V.heap.size v ((acc ++ Gs.ints ((xa ++ xd).take j)).map encI) ∧ Off wq v wo.heap.size (some (.cells #[.string A, .string D] 35 (0, 0))) ∧ Off wq v U.heap.size (w2.heap[U.heap.size]?) ∧ Ext V wq) (fun t _ _ => M - (intOf t).toNat)
        case atStart => exact ⟨0, Nat.zero_le _, rfl, by simpa [Gs.ints] using hown2, O1, HO2.out, hxVw⟩
        case round =>
          clear hown2 O1 hxVw
          obtain ⟨j, hj, rfl, hown, o1, o2, hxq⟩ := hrel
          obtain ⟨aq, cq, rfl⟩ := hown.sl.form
          rw [List.length_map] at hown o1 o2 ⊢
          have hal2 : (acc ++ Gs.ints ((xa ++ xd).take j)).length ≤ 1 + 95 * k + M := by
            rw [List.length_append, ints_len]
            have := List.length_take_le j (xa ++ xd)
            omega
          by_cases hjl : j < M
          · have hjP : j < P.size := by rw [← HM.out]; exact hjl
            have cB : wr.cell? ⟨wo.heap.size + 1, j, none⟩ = some (encB P[j]) := by rw [← HHU.out, Off.cell HO2.out o2 j]; exact HBY.out j hjP
            have HTK : Hid ((acc ++ Gs.ints ((xa ++ xd).take (j + 1))) = (acc ++ Gs.ints ((xa ++ xd).take j)) ++ [(P[j].toNat : Int)]) := Lib.hid (by
              rw [← HPL.out, take_snoc P j hjP, ints_app, List.append_assoc]; rfl)
            generalize acc ++ Gs.ints ((xa ++ xd).take j) = got at *
            obtain ⟨pj, hpj⟩ : ∃ pj, P[j] = pj := ⟨_, rfl⟩
            rw [hpj] at cB HTK
            unfold encB at cB
            have hp1 : (pj.toNat : Int) ≤ 255 := by have := UInt8.toNat_lt pj; omega
            clear hpj hjP
            go_wp2_with (at_builtin; go_loud (refine append_int_at rfl _ _ rfl V.heap.size _ got rfl (hown.ext ((Ext.refl wr).alloc _)) _ (pj.toNat : Int) rfl ?_ (by omega) ?_ ?_))
            · simp [go_sem, encI]
            · have := hxq.size; simp; omega
            intro v5 w5 hown5 hg5 hat5
            have hx5 : Ext V w5 := (hxq.alloc _).ofGrown hg5 hown.low
            have o1' := (o1.ext ((Ext.refl wr).alloc _)).grow hg5 (wr.heap.size + 1) (by simp) hat5
            have o2' := (o2.ext ((Ext.refl wr).alloc _)).grow hg5 (wr.heap.size + 1) (by simp) hat5
            clear hown hg5 hat5 o1 o2 cB hxq
            go_wp2
            go_roundw
            case rel => exact ⟨j + 1, by omega, by go_num, by rw [HTK.out, List.map_append]; exact hown5, o1', o2', hx5⟩
            case measure => simp [intOf]; omega
          · obtain rfl : j = M := by omega
            have HTK : Hid (acc ++ Gs.ints ((xa ++ xd).take j) = acc ++ Gs.ints (xa ++ xd)) := Lib.hid (by
              rw [List.take_of_length_le (by rw [← HPL.out, len_data, ← HM.out]; exact Nat.le_refl _)])
            rw [HTK.out] at hown hal2 ⊢
            obtain ⟨got, hgot⟩ : ∃ got, acc ++ Gs.ints (xa ++ xd) = got := ⟨_, rfl⟩
            have HGL : Hid (got.length = acc.length + (xa ++ xd).length) := Lib.hid (by rw [← hgot, List.length_append, ints_len])
            have HXL : Hid ((xa ++ xd).length ≤ 94) := Lib.hid (by rw [← HPL.out, len_data, ← HM.out]; exact hMs)
            rw [hgot] at hown hal2 HC2 ⊢
            have cA : wr.cell? ⟨wo.heap.size, 0, none⟩ = some (.string A) := by unfold World.cell?; rw [o1.2.2]; rfl
            have HF1 := Lib.hid (HFI.out wr hxq A (by unfold maxLen; omega))
            rw [HB.out.1, HRS.out] at HF1
            obtain ⟨ra, rb, rc, rd⟩ := r
            clear hgot o1 o2 HO2 HBY hj hjl HTK
            by_cases hf : Gs.isFix (ra, rb, rc, rd) = true
            · have HX := Lib.hid (fun w => fixed_any (ra, rb, rc, rd) w)
              have e0 : ((ra, rb, rc, rd).2.1 == (ra, rb, rc, rd).2.2.1) = true := hf
              rw [e0] at HX
              rw [hf] at HC2
              clear hf e0
              go_wp2_with fail
              refine HF1.out.mono ?_
              rintro e w3 ⟨rfl, hx3⟩
              dsimp only [ruleO, ruleV, Option.isSome]
              go_wp2_with fail
              refine (HX.out _).mono ?_
              rintro e w4 ⟨rfl, hx4⟩
              have hown4 := ((hown.ext hx3).ext ((Ext.refl w3).alloc _)).ext hx4
              have hx34 := ((hxq.trans hx3).alloc (.cells #[.int .i64 ra, .int .i64 rb, .int .i64 rc, .int .u8 (rd.toNat : Int)] 38)).trans hx4
              clear hown hx3 hx4 cA
              go_wp2
              go_roundw
              case rel => exact ⟨k + 1, got, by omega, by go_num, by have := HGL.out; have := HXL.out; omega, hown4, Lib.hid (by rw [HC2.out]; simp), hx34⟩
              case measure => simp [intOf]; omega
            · replace hf : Gs.isFix (ra, rb, rc, rd) = false := by simpa using hf
              have HX := Lib.hid (fun w => fixed_any (ra, rb, rc, rd) w)
              have e0 : ((ra, rb, rc, rd).2.1 == (ra, rb, rc, rd).2.2.1) = false := hf
              rw [e0] at HX
              rw [hf] at HC2
              clear hf e0
              by_cases hlast : k + 1 = N
              · have hkn : ¬ ((k : Int) < (N : Int) - 1) := by omega
                have hkn2 : (N : Int) - 1 ≤ (k : Int) := by omega
                go_wp2_with fail
                refine HF1.out.mono ?_
                rintro e w3 ⟨rfl, hx3⟩
                dsimp only [ruleO, ruleV, Option.isSome]
                go_wp2_with fail
                refine (HX.out _).mono ?_
                rintro e w4 ⟨rfl, hx4⟩
                have hown4 := ((hown.ext hx3).ext ((Ext.refl w3).alloc _)).ext hx4
                have hx34 := ((hxq.trans hx3).alloc (.cells #[.int .i64 ra, .int .i64 rb, .int .i64 rc, .int .u8 (rd.toNat : Int)] 38)).trans hx4
                clear hown hx3 hx4 cA
                go_wp2
                go_roundw
                case rel => exact ⟨k + 1, got, by omega, by go_num, by have := HGL.out; have := HXL.out; omega, hown4, Lib.hid (by rw [HC2.out]; simp [hlast]), hx34⟩
                case measure => simp [intOf]; omega
              · have hkn : (k : Int) < (N : Int) - 1 := by omega
                go_wp2_with fail
                refine HF1.out.mono ?_
                rintro e w3 ⟨rfl, hx3⟩
                dsimp only [ruleO, ruleV, Option.isSome]
                go_wp2_with fail
                refine (HX.out _).mono ?_
                rintro e w4 ⟨rfl, hx4⟩
                have hown4 := ((hown.ext hx3).ext ((Ext.refl w3).alloc _)).ext hx4
                have hx34 := ((hxq.trans hx3).alloc (.cells #[.int .i64 ra, .int .i64 rb, .int .i64 rc, .int .u8 (rd.toNat : Int)] 38)).trans hx4
                clear hown hx3 hx4 cA
                go_wp2_with (at_builtin; go_loud (refine append_int_at rfl _ _ rfl V.heap.size _ got rfl (hown4.ext ((Ext.refl w4).alloc _)) _ 256 rfl ?_ (by omega) ?_ ?_))
                · simp [go_sem, encI]
                · have := hx34.size; simp; omega
                intro v5 w5 hown5 hg5 _
                have hx5 : Ext V w5 := (hx34.alloc _).ofGrown hg5 hown4.low
                clear hown4 hg5
                go_wp2
                go_roundw
                case rel => exact ⟨k + 1, got ++ [256], by omega, by go_num, by have := HGL.out; have := HXL.out; rw [List.length_append]; simp; omega, by rw [List.map_append]; exact hown5, Lib.hid (by rw [HC2.out]; simp [hlast]), hx5⟩
                case measure => simp [intOf]; omega
      · obtain rfl : k = N := by omega
        have HCH : Hid (256 :: Gs.chG xs = acc) := Lib.hid (by rw [hch.out, List.drop_of_length_le (by rw [HN.out]; exact Nat.le_refl _)]; simp [Gs.chG])
        rw [HCH.out] at HR
        clear hk hlt hch
        by_cases hlg : 4096 < acc.length
        · rw [if_pos hlg] at HR
          go_wp2
          go_ret2
          rw [HR.out]
          exact IntsR.err _ (hxw.trans hx)
        · rw [if_neg hlg] at HR
          have hl2 : acc.length ≤ 4096 := by omega
          clear hlg
          go_wp2
          go_ret2
          rw [HR.out]
          exact ⟨_, rfl, hown.slk, hxw.trans hx⟩
  · rw [if_pos hz] at HR
    obtain ⟨z, hzz⟩ : ∃ z, Gs.verAll xs = z := ⟨_, rfl⟩
    rw [hzz] at HVA HR hz
    have hz1 : (z == 0) = false := by simpa using hz
    clear hzz HVM
    go_enter Tryz.func4, Tryz.ntmps4
    go_wp2_with fail
    refine HI.out.mono ?_
    rintro e W ⟨b, rfl, hd, hb, hxW⟩
    have H1 := Lib.hid (HVA.out W b hd hxW)
    clear hd HVA HI
    go_wp2_with fail
    refine H1.out.mono ?_
    rintro e V ⟨rfl, hxV⟩
    go_wp2
    go_ret2
    rw [HR.out]
    exact IntsR.err _ (hxW.trans hxV)
end Go.Proofs.YteojfkffmbcedaaGreatDoor
