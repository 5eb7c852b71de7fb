/-
  The law FormsLimits, walked: the forms.
  Condition: the listed variables are there; the examples hold.
-/
import Derived.Test.YtkpfehfcgpapiaaGreatDoorFmL8
namespace Go.Proofs.YtkpfehfcgpapiaaGreatDoor
set_option linter.unusedVariables false
open Go.RowKit

def limF (i : Nat) : Fm.Fld := ⟨[UInt8.ofNat (65 + i / 20), UInt8.ofNat (65 + i % 20)], 3, 0, 9, 0, [], false⟩
def limL (n : Nat) : List Fm.Fld := (List.range n).map limF
theorem limL_succ (n : Nat) : limL (n + 1) = limL n ++ [limF n] := by unfold limL; rw [List.range_succ, List.map_append]; rfl
theorem limL_len (n : Nat) : (limL n).length = n := by unfold limL; simp
theorem limF_B (i : Nat) : FldB (limF i) := by
  refine ⟨by show 2 ≤ Go.maxLen; decide, fun s hs => ?_, Nat.zero_le _⟩
  cases hs
theorem byte_nat (n : Nat) (h : n ≤ 255) : (UInt8.ofNat n).toNat = n := by rw [UInt8.toNat_ofNat']; omega
theorem lim_iff (n : Nat) (h : 0 < n) : (Fm.check ⟨[70], limL n, []⟩ = 4) ↔ 256 < n := by
  have := Fm.lim_check (F := ⟨[70], limL n, []⟩) (show Fm.isName [70] = true by decide) (by show 0 < (limL n).length; rw [limL_len]; exact h) rfl (fun f hf => by
    unfold limL at hf
    obtain ⟨i, -, rfl⟩ := List.mem_map.1 hf
    rfl)
  rw [this]
  show 256 < (limL n).length ↔ _
  rw [limL_len]
/-- The form under construction, behind i fields. -/
def LimR (V : World) (h N : Nat) (t : Value) (wr : World) : Prop := ∃ (i : Nat) (vf vs : Value) (gs : List (Fm.Fld × Lie)), i ≤ N ∧ t = .int .i64 (i : Int) ∧ Hid (FrmO wr (h + 1) h [70] (limL i) [] vf vs gs []) ∧ Hid (Kp V wr (h + 1) h)
set_option maxRecDepth 100000 in
set_option maxHeartbeats 2000000 in
theorem lim_forms (mr : Int) (h0 : 0 ≤ mr) (h1 : mr ≤ 255) (w : World) (hE : Errs w) (hP : Pow w) (hX : ExH) :
    Calls Tryz.prog 4 #[.int .u8 mr, .bool true] w fun e w' => e = .returned (.bool true) ∧ Ext w w' := by
  obtain ⟨k, hk, hk5⟩ : ∃ k : Nat, mr % 5 = (k : Int) ∧ k < 5 := ⟨(mr % 5).toNat, by omega, by omega⟩
  have HE := Lib.hid hE
  have HP := Lib.hid hP
  have HEX := Lib.hid hX
  clear hE hP hX
  obtain ⟨V, hV⟩ : ∃ V, V = w.alloc (.cells #[.string ⟨#[70]⟩, .slice none 0 0, .slice none 0 0] 25) := ⟨_, rfl⟩
  have hxV : Ext w V := by rw [hV]; exact (Ext.refl w).alloc _
  have hzV : V.heap.size = w.heap.size + 1 := by rw [hV]; simp
  have HF0 : Hid (FrmO V (w.heap.size + 1) w.heap.size [70] [] [] (.slice none 0 0) (.slice none 0 0) [] []) := Lib.hid (FrmO.none (by rw [hV]; exact heap_alloc_new w _))
  have HVE := Lib.hid hV
  have HXV := Lib.hid hxV
  clear hV hxV
  obtain ⟨N, hN⟩ : ∃ N : Nat, N = 254 + k := ⟨_, rfl⟩
  have hNI : (254 : Int) + (k : Int) = (N : Int) := by omega
  have hNb : N ≤ 258 := by omega
  have HN := Lib.hid hN
  clear hN
  go_enter Tryz.func4, Tryz.ntmps4
  go_wp2_with fail
  rw [← HVE.out]
  try rw [hk]
  clear hk
  go_loopw [10] (fun t wr => LimR V w.heap.size N t wr) (fun t _ => N - (intOf t).toNat)
  case atStart => exact ⟨0, _, _, [], Nat.zero_le _, rfl, HF0, Lib.hid (Kp.refl _ _ _)⟩
  case round =>
    obtain ⟨i, vf, vs, gs, hi, rfl, HF, HK⟩ := hrel
    clear HF0
    have r0 := HF.out.row
    by_cases hlt : i < N
    · obtain ⟨A, hA⟩ : ∃ A, A = UInt8.ofNat (65 + i / 20) := ⟨_, rfl⟩
      obtain ⟨B, hB⟩ : ∃ B, B = UInt8.ofNat (65 + i % 20) := ⟨_, rfl⟩
      obtain ⟨Z, hZ⟩ : ∃ Z : ByteArray, Z = ⟨#[A, B]⟩ := ⟨_, rfl⟩
      have hcv := conv_2 wr A B (65 + (i : Int) / 20) (65 + (i : Int) % 20) (by rw [hA, byte_nat _ (by omega)]; omega) (by rw [hB, byte_nat _ (by omega)]; omega)
      rw [← hZ] at hcv
      obtain ⟨U, hU⟩ : ∃ U, U = (wr.alloc (.cells #[.int .u8 (65 + (i : Int) / 20), .int .u8 (65 + (i : Int) % 20)] 5)).alloc (.cells #[.string Z, .int .i64 3, .int .i64 0, .int .i64 9, .int .i64 0, .slice none 0 0, .bool false] 39) := ⟨_, rfl⟩
      have hxU : Ext wr U := by rw [hU]; exact ((Ext.refl wr).alloc _).alloc _
      have hzU : U.heap.size = wr.heap.size + 2 := by rw [hU]; simp
      have RZ : U.heap[wr.heap.size + 1]? = some (.cells #[.string Z, .int .i64 3, .int .i64 0, .int .i64 9, .int .i64 0, .slice none 0 0, .bool false] 39 (0, 0)) := by
        rw [hU]
        have h := heap_alloc_new (wr.alloc (.cells #[.int .u8 (65 + (i : Int) / 20), .int .u8 (65 + (i : Int) % 20)] 5)) (.cells #[.string Z, .int .i64 3, .int .i64 0, .int .i64 9, .int .i64 0, .slice none 0 0, .bool false] 39)
        rw [World.size_alloc] at h
        exact h
      have hFU := HF.out.ext hxU
      have henc : encF (limF i, ((none, 0, 0) : Lie)) = [.string Z, .int .i64 3, .int .i64 0, .int .i64 9, .int .i64 0, .slice none 0 0, .bool false] := by rw [hZ, hA, hB]; rfl
      have hKS : KSl 7 encF U (.slice (some ⟨wr.heap.size + 1, 0, none⟩) [(limF i, ((none, 0, 0) : Lie))].length 1) [(limF i, ((none, 0, 0) : Lie))] := by
        refine .inr ⟨wr.heap.size + 1, 0, 1, rfl, by omega, ?_⟩
        intro j x hj c hc
        cases j with
        | succ j => simp at hj
        | zero =>
          simp only [List.getElem?_cons_zero, Option.some.injEq] at hj
          subst hj
          rw [henc, Nat.zero_mul, Nat.zero_add]
          match c, hc with
          | 0, _ => exact cell_at RZ rfl
          | 1, _ => exact cell_at RZ rfl
          | 2, _ => exact cell_at RZ rfl
          | 3, _ => exact cell_at RZ rfl
          | 4, _ => exact cell_at RZ rfl
          | 5, _ => exact cell_at RZ rfl
          | 6, _ => exact cell_at RZ rfl
      have hgl : gs.length = i := by have h := congrArg List.length HF.out.ef; rw [List.length_map, limL_len] at h; exact h
      have hwz : w.heap.size + 1 ≤ wr.heap.size := by have := HK.out.size; omega
      obtain ⟨v5, w5, hrun, ho5, hg5⟩ := run_append_ks (enc := encF) (k := 7) (w := U) 22 39 22 _ 80 Tryz.underlying22 info_fld rfl (by decide) (by decide) encF_len encF_one (w.heap.size + 1) vf gs [(limF i, ((none, 0, 0) : Lie))] hFU.flds (wr.heap.size + 1) 0 1 hKS (by simp; omega) (by omega)
      obtain ⟨q5, n5, c5, rfl⟩ : ∃ q n c, v5 = .slice q n c := by
        obtain ⟨q, c, e⟩ := (ho5.sl encF_len).form
        exact ⟨_, _, _, e⟩
      have hAD := Lib.hid (hFU.addF (f := limF i) (y := (none, 0, 0)) (KOwn.nil _ _ _ _ _) ho5 hg5)
      have r5 : w5.heap[w.heap.size]? = some (.cells #[strV [70], vf, vs] 25 (0, 0)) := by
        have hgo := hFU.flds.off hFU.row (by decide)
        rw [hg5.block w.heap.size (lt_at hFU.row) (fun e => hgo.elim (fun h1 => by rw [h1] at e; cases e) (fun h1 => h1 e.symm))]
        exact hFU.row
      have p1 : wr.cell? ⟨w.heap.size, 1, none⟩ = some vf := cell_at r0 rfl
      have l1 := lt_at r0
      have d5 : w5.cell? ⟨w.heap.size, 1, none⟩ = some vf := cell_at r5 rfl
      have ff5 : w5.frozen? ⟨w.heap.size, 1, none⟩ = false := frz_at r5
      have hKP := Lib.hid (HK.out.trans (Kp.ofExt hxU (w.heap.size + 1) w.heap.size))
      rw [hU] at hrun
      obtain ⟨qf, nf, cf, rfl⟩ : ∃ q n c, vf = .slice q n c := by
        obtain ⟨q, c, e⟩ := (HF.out.flds.sl encF_len).form
        exact ⟨_, _, _, e⟩
      clear RZ hFU hKS ho5 hg5 r0 r5 henc hzU hxU hA hB hZ hU hgl
      go_wp2_with (at_builtin; refine wpList_append_run rfl _ _ 22 rfl rfl _ _ rfl rfl _ _ hrun ?_)
      have HF2 := Lib.hid (show FrmO _ (w.heap.size + 1) w.heap.size [70] (limL (i + 1)) [] _ _ _ [] by rw [limL_succ]; exact hAD.out.1)
      have HK2 := Lib.hid (hKP.out.trans hAD.out.2)
      clear hAD hKP
      go_roundw
      case rel => exact ⟨i + 1, _, _, _, by omega, by go_num, HF2, HK2⟩
      case measure => (simp [intOf]; try omega)
    · obtain rfl : i = N := by omega
      have hxw : Ext w wr := HK.out.over HXV.out (by omega) (Nat.le_refl _)
      obtain ⟨qf, qc, rfl⟩ := (HF.out.flds.sl encF_len).form
      obtain ⟨sf, sc, rfl⟩ := (HF.out.sums.sl encM_len).form
      have hgl : gs.length = i := by have h := congrArg List.length HF.out.ef; rw [List.length_map, limL_len] at h; exact h
      have hfl := HF.out.fldsR
      have hsm := HF.out.sumsR
      rw [hgl] at hfl r0
      obtain ⟨y, hy⟩ : ∃ y, y = Fm.check ⟨[70], limL i, []⟩ := ⟨_, rfl⟩
      have hiff := lim_iff i (by have := HN.out; omega)
      rw [← hy] at hiff
      have HCK := Lib.hid (fun x : Ahead wr => check_any ⟨#[70]⟩ qf i qc sf 0 sc (limL i) [] x.at' (hfl.ext x.ext) (hsm.ext x.ext) (fun f hf => by unfold limL at hf; obtain ⟨j, -, rfl⟩ := List.mem_map.1 hf; exact limF_B j) (fun r hr => by cases hr))
      have HXC := Lib.hid (fun x : Ahead wr => xcheck_any ⟨#[70]⟩ qf i qc sf 0 sc (limL i) [] x.at' (hfl.ext x.ext) (hsm.ext x.ext) (fun f hf => by unfold limL at hf; obtain ⟨j, -, rfl⟩ := List.mem_map.1 hf; exact limF_B j) (fun r hr => by cases hr) (by omega))
      rw [show (⟨(⟨#[70]⟩ : ByteArray).data.toList, limL i, []⟩ : Fm.Frm) = ⟨[70], limL i, []⟩ from rfl, ← hy] at HCK HXC
      have HEXA := Lib.hid (fun x : Ahead wr => HEX.out x.at' (HE.out.ext (hxw.trans x.ext)) (HP.out.ext (hxw.trans x.ext)))
      have g0 : ∀ x : Ahead wr, x.at'.cell? ⟨w.heap.size, 0, none⟩ = some (.string ⟨#[70]⟩) := fun x => cell_at (row_on r0 x.ext) rfl
      have g1 : ∀ x : Ahead wr, x.at'.cell? ⟨w.heap.size, 1, none⟩ = some (.slice qf i qc) := fun x => cell_at (row_on r0 x.ext) rfl
      have g2 : ∀ x : Ahead wr, x.at'.cell? ⟨w.heap.size, 2, none⟩ = some (.slice sf 0 sc) := fun x => cell_at (row_on r0 x.ext) rfl
      have hyy : (y == y) = true := beq_self_eq_true _
      have HXW := Lib.hid hxw
      by_cases hk2 : 2 < k
      · have hy4 : y = 4 := hiff.2 (by have := HN.out; omega)
        subst hy4
        have zk : decide (2 < k) = true := decide_eq_true hk2
        have zk2 : decide ((2 : Int) < (k : Int)) = true := decide_eq_true (by omega)
        clear hfl hsm hy hiff r0 hxw hgl hk2
        go_upto_region 14 with fail
        refine wp_region_quiet (C := fun w' => ∃ x : Ahead wr, w' = x.at') (by kernel_rfl) (by kernel_rfl) (Ahead.drawn _) ?_
        try dsimp only
        repeat (first | go_big_quiet_step ((first | (go_at_call 18; exact ahead_of (HCK.out _)) | (go_at_call 19; exact ahead_of (HXC.out _)) | (go_at_call 15; exact ahead_of (HEXA.out _)))) | quiet_step ((first | (go_at_call 18; exact ahead_of (HCK.out _)) | (go_at_call 19; exact ahead_of (HXC.out _)) | (go_at_call 15; exact ahead_of (HEXA.out _)))))
        refine wpQuiet_nil ?_
        intro _ hx0
        obtain ⟨x0, hx0⟩ := hx0
        subst hx0
        obtain ⟨w8, hx8⟩ := x0
        try dsimp only
        go_wp2_with fail
        go_ret
        exact ⟨rfl, HXW.out.trans hx8⟩
      · have hy4 : y ≠ 4 := fun e => by have := hiff.1 e; have := HN.out; omega
        have hy4b : (y == 4) = false := beq_eq_false_iff_ne.2 hy4
        have zk : decide (2 < k) = false := decide_eq_false hk2
        have zk2 : decide ((2 : Int) < (k : Int)) = false := decide_eq_false (by omega)
        clear hfl hsm hy hiff r0 hxw hgl hk2 hy4
        go_upto_region 14 with fail
        refine wp_region_quiet (C := fun w' => ∃ x : Ahead wr, w' = x.at') (by kernel_rfl) (by kernel_rfl) (Ahead.drawn _) ?_
        try dsimp only
        repeat (first | go_big_quiet_step ((first | (go_at_call 18; exact ahead_of (HCK.out _)) | (go_at_call 19; exact ahead_of (HXC.out _)) | (go_at_call 15; exact ahead_of (HEXA.out _)))) | quiet_step ((first | (go_at_call 18; exact ahead_of (HCK.out _)) | (go_at_call 19; exact ahead_of (HXC.out _)) | (go_at_call 15; exact ahead_of (HEXA.out _)))))
        refine wpQuiet_nil ?_
        intro _ hx0
        obtain ⟨x0, hx0⟩ := hx0
        subst hx0
        obtain ⟨w8, hx8⟩ := x0
        try dsimp only
        go_wp2_with fail
        go_ret
        exact ⟨rfl, HXW.out.trans hx8⟩
theorem law_limits (mr : Int) (h0 : 0 ≤ mr) (h1 : mr ≤ 255) (b : Bool) (w : World) (hE : Errs w) (hP : Pow w) (hX : ExH) :
    Calls Tryz.prog 4 #[.int .u8 mr, .bool b] w fun e w' => e = .returned (.bool true) ∧ Ext w w' := by
  cases b with
  | true => exact lim_forms mr h0 h1 w hE hP hX
  | false => exact lim_text mr h0 h1 w hE hP hX
end Go.Proofs.YtkpfehfcgpapiaaGreatDoor
