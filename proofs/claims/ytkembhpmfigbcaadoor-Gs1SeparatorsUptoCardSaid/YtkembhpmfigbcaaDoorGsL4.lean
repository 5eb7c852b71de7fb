/-
  Chapter 14: the law Gs1Separators, walked.
  Condition: the table of white space reads as it is laid; at most two million elements.
-/
import Derived.Test.YtkembhpmfigbcaaDoorGsL1
namespace Go.Proofs.YtkembhpmfigbcaaDoor
set_option linter.unusedVariables false
open Go.RowKit

def Gs.seps : List Gs.El → Nat
  | [] => 0
  | x :: xs => (if Gs.fixed x.1 || xs.isEmpty then 0 else 1) + Gs.seps xs
def Gs.flat : List Gs.El → List UInt8
  | [] => []
  | x :: xs => (x.1 ++ x.2) ++ Gs.flat xs
def Gs.cnt : List Int → Nat
  | [] => 0
  | c :: l => (if c = 256 then 1 else 0) + Gs.cnt l
def Gs.oth : List Int → List UInt8
  | [] => []
  | c :: l => if c = 256 then Gs.oth l else Gs.byte c :: Gs.oth l
theorem cnt_app (a b : List Int) : Gs.cnt (a ++ b) = Gs.cnt a + Gs.cnt b := by
  induction a with
  | nil => simp [Gs.cnt]
  | cons c l ih => simp only [List.cons_append, Gs.cnt, ih]; omega
theorem oth_app (a b : List Int) : Gs.oth (a ++ b) = Gs.oth a ++ Gs.oth b := by
  induction a with
  | nil => rfl
  | cons c l ih =>
    simp only [List.cons_append, Gs.oth, ih]
    split <;> rfl
theorem cnt_ints (l : List UInt8) : Gs.cnt (Gs.ints l) = 0 := by
  induction l with
  | nil => rfl
  | cons c l ih =>
    have := UInt8.toNat_lt c
    show (if (c.toNat : Int) = 256 then 1 else 0) + Gs.cnt (Gs.ints l) = 0
    rw [if_neg (by omega), ih]
theorem oth_ints (l : List UInt8) : Gs.oth (Gs.ints l) = l := by
  induction l with
  | nil => rfl
  | cons c l ih =>
    have := UInt8.toNat_lt c
    show (if (c.toNat : Int) = 256 then Gs.oth (Gs.ints l) else Gs.byte (c.toNat : Int) :: Gs.oth (Gs.ints l)) = c :: l
    rw [if_neg (by omega), ih, byte_int]
theorem cnt_chG (xs : List Gs.El) : Gs.cnt (Gs.chG xs) = Gs.seps xs := by
  induction xs with
  | nil => rfl
  | cons x xs ih =>
    simp only [Gs.chG, Gs.seps, cnt_app, cnt_ints, ih]
    split <;> simp [Gs.cnt]
theorem oth_chG (xs : List Gs.El) : Gs.oth (Gs.chG xs) = Gs.flat xs := by
  induction xs with
  | nil => rfl
  | cons x xs ih =>
    simp only [Gs.chG, Gs.flat, oth_app, oth_ints, ih]
    split <;> simp [Gs.oth]
theorem flat_oth_len (xs : List Gs.El) : (Gs.flat xs).length ≤ (Gs.chG xs).length := by
  induction xs with
  | nil => simp [Gs.flat]
  | cons x xs ih => simp only [Gs.chG, Gs.flat, List.length_append, ints_len]; omega
theorem flat_app (a b : List Gs.El) : Gs.flat (a ++ b) = Gs.flat a ++ Gs.flat b := by
  induction a with
  | nil => rfl
  | cons x a ih => simp only [List.cons_append, Gs.flat, ih, List.append_assoc]
theorem oth_len (c : List Int) : (Gs.oth c).length ≤ c.length := by
  induction c with
  | nil => simp [Gs.oth]
  | cons c l ih => simp only [Gs.oth]; split <;> simp <;> omega
theorem cnt_len (c : List Int) : Gs.cnt c ≤ c.length := by
  induction c with
  | nil => simp [Gs.cnt]
  | cons c l ih => simp only [Gs.cnt, List.length_cons]; split <;> omega
theorem seps_len (xs : List Gs.El) : Gs.seps xs ≤ xs.length := by
  induction xs with
  | nil => simp [Gs.seps]
  | cons x xs ih => simp only [Gs.seps, List.length_cons]; split <;> omega
theorem chars_err {xs : List Gs.El} {c : List Int} {e : Int} (h : Gs.chars xs = (c, e)) (he : e ≠ 0) : c = [] := by
  unfold Gs.chars at h
  repeat' split at h
  all_goals
    simp only [Prod.mk.injEq] at h
    obtain ⟨h1, h2⟩ := h
    first | exact h1.symm | exact absurd h2.symm he
theorem chars_val {xs : List Gs.El} {c : List Int} (h : Gs.chars xs = (c, 0)) : c = 256 :: Gs.chG xs := by
  unfold Gs.chars at h
  split at h
  · rename_i h1; simp only [Prod.mk.injEq] at h; exact absurd h.2 h1
  · split at h
    · simp at h
    · simp only [Prod.mk.injEq, and_true] at h; exact h.symm
theorem fixF_of {l : List UInt8} {r : Gs.Rule} (h : Gs.find l = some r) : Gs.fixF l = (if Gs.isFix r then r.2.2.1 else 0, r.2.2.1, 0) := by
  unfold Gs.fixF; rw [h]

set_option maxRecDepth 100000 in
set_option maxHeartbeats 8000000 in
theorem law_separators (v : Value) (xs : List Gs.El) (w : World) (hl : ESl w v xs) (hn : xs.length ≤ 2000000) (hs : ∀ x ∈ xs, x.1.length ≤ maxLen ∧ x.2.length ≤ maxLen) (ht : Spaces w) :
    Calls Tryd.prog 8 #[v] w fun e w' => e = .returned (.bool true) ∧ Ext w w' := by
  have HT := Lib.hid ht
  have HL := Lib.hid hl
  obtain ⟨av, cv, rfl⟩ := hl.form
  have HC := Lib.hid (chars_any _ xs w hl hn hs ht)
  have HEX := Lib.hid (fun w' hx => examples_any w' (tabIs_ext HT.out hx))
  have HFX := Lib.hid (fun (s : ByteArray) (h : s.size ≤ maxLen) w' hx => Fixed_any s h w' (tabIs_ext HT.out hx))
  have HCE : Hid (∀ c e, Gs.chars xs = (c, e) → e ≠ 0 → c = []) := Lib.hid (fun c e h he => chars_err h he)
  have HCV : Hid (∀ c, Gs.chars xs = (c, 0) → c = 256 :: Gs.chG xs ∧ Gs.verL xs = 0 ∧ xs.length ≤ 4096 ∧ c.length ≤ 4096) := Lib.hid (fun c h => ⟨chars_val h, chars_parts h⟩)
  generalize Gs.chars xs = P at *
  obtain ⟨cs, ec⟩ := P
  obtain ⟨N, hN⟩ : ∃ N, xs.length = N := ⟨_, rfl⟩
  have HN := Lib.hid hN
  rw [hN] at hn HL HC ⊢
  clear ht hs hN hl
  by_cases he : ec = 0
  · subst he
    obtain ⟨e1, e2, e3, e4⟩ := HCV.out cs rfl
    have HVM := Lib.hid (verL_mem e2)
    have HCO : Hid (cs.all Gs.okCh = true) := Lib.hid (by rw [e1]; exact chars_ok e2)
    have HCN : Hid (Gs.cnt cs = 1 + Gs.seps xs) := Lib.hid (by rw [e1]; simp only [Gs.cnt, if_true]; rw [cnt_chG])
    have HOT : Hid (Gs.oth cs = Gs.flat xs) := Lib.hid (by rw [e1]; simp only [Gs.oth, if_true]; exact oth_chG xs)
    have hfl : (Gs.flat xs).length ≤ 4096 := by have h1 := flat_oth_len xs; rw [e1, List.length_cons] at e4; omega
    have hN4 : N ≤ 4096 := by have := HN.out; omega
    obtain ⟨M, hM⟩ : ∃ M, cs.length = M := ⟨_, rfl⟩
    have HM := Lib.hid hM
    have hM4 : M ≤ 4096 := by omega
    have hsl := seps_len xs
    rw [HN.out] at hsl
    obtain ⟨SP, hSP⟩ : ∃ SP, Gs.seps xs = SP := ⟨_, rfl⟩
    rw [hSP] at HCN hsl
    have HSP := Lib.hid hSP
    clear e1 e2 e3 e4 hM HCE HCV hSP
    go_enter Tryd.func8, Tryd.ntmps8
    go_wp2_with fail
    refine HC.out.mono ?_
    rintro e w1 ⟨v1, rfl, hl1, hx1⟩
    have HL1 := Lib.hid hl1
    obtain ⟨_, a1, c1, rfl, _⟩ := hl1
    rw [List.length_map, HM.out] at HL1 ⊢
    dsimp only
    clear HC
    go_wp2
    go_loopw [30, 5, 6] (fun t wt s wr => ∃ (k q : Nat) (S : ByteArray), k ≤ N ∧ t = .int .i64 (k : Int) ∧ wt = .int .i64 (q : Int) ∧ s = .string S ∧ q ≤ 5000 ∧ S.size ≤ 4096 ∧ Hid (q + Gs.seps (xs.drop k) = 1 + SP ∧ S.data.toList ++ Gs.flat (xs.drop k) = Gs.flat xs) ∧ Ext w1 wr) (fun t _ _ _ => N - (intOf t).toNat)
    case atStart => exact ⟨0, 1, ⟨#[]⟩, Nat.zero_le _, rfl, rfl, rfl, by omega, by decide, Lib.hid ⟨by rw [List.drop_zero, HSP.out], rfl⟩, Ext.refl w1⟩
    case round =>
      obtain ⟨k, q, S, hk, rfl, rfl, rfl, hq5, hS4, hst, hx'⟩ := hrel
      have hx := hx1.trans hx'
      by_cases hlt : k < N
      · obtain ⟨x, hxk⟩ : ∃ x, xs[k]? = some x := ⟨_, List.getElem?_eq_getElem (by rw [HN.out]; exact hlt)⟩
        obtain ⟨bb, off, ha, hb', q0, q1⟩ := HL.out.at_ hxk
        subst ha
        have d0 := (hx.cell (p := ⟨bb, off + k * 2, none⟩) hb').trans q0
        have d1 := (hx.cell (p := ⟨bb, off + k * 2 + 1, none⟩) hb').trans q1
        have hv0 := HVM.out x (List.mem_of_getElem? hxk)
        have hvs := ver_sizes hv0
        have hdr : xs.drop k = x :: xs.drop (k + 1) := by
          obtain ⟨h1, h2⟩ := List.getElem?_eq_some_iff.1 hxk
          rw [List.drop_eq_getElem_cons h1, h2]
        have HDE : Hid ((xs.drop (k + 1)).isEmpty = decide (k + 1 = N)) := Lib.hid (by
          rw [Bool.eq_iff_iff, List.isEmpty_iff, List.drop_eq_nil_iff, HN.out, decide_eq_true_eq]; omega)
        obtain ⟨xa, xd⟩ := x
        have hst2 := hst.out
        rw [hdr, Gs.seps, Gs.flat, HDE.out] at hst2
        unfold encS at d0 d1
        dsimp only at d0 d1 hvs hv0 hst2
        obtain ⟨r, hr1, _⟩ := ver_find hv0
        have hfx : Gs.fixed xa = Gs.isFix r := by unfold Gs.fixed; rw [hr1]
        obtain ⟨_, _, l1, lh, l9, _⟩ := find_ok hr1
        rw [hfx] at hst2
        have HST := Lib.hid hst2
        have HB : Hid ((⟨xa.toArray⟩ : ByteArray).data.toList = xa ∧ (⟨xd.toArray⟩ : ByteArray).data.toList = xd) := Lib.hid ⟨rfl, rfl⟩
        generalize (⟨xa.toArray⟩ : ByteArray) = A at *
        generalize (⟨xd.toArray⟩ : ByteArray) = D at *
        have hAs : A.size ≤ 4 := by rw [← len_data, HB.out.1]; exact hvs.1
        have hDs : D.size ≤ 90 := by rw [← len_data, HB.out.2]; exact hvs.2
        have HF1 := Lib.hid (HFX.out A (by unfold maxLen; omega) _ (hx.alloc (.cells #[.string A, .string D] 23)))
        rw [HB.out.1, fixF_of hr1] at HF1
        obtain ⟨ra, rb, rc, rd⟩ := r
        dsimp only at l1 lh l9 HF1
        have HNS : Hid ((S ++ (A ++ D)).data.toList ++ Gs.flat (xs.drop (k + 1)) = Gs.flat xs) := Lib.hid (by
          rw [← HST.out.2]
          have e1 : (S ++ (A ++ D)).data.toList = S.data.toList ++ (xa ++ xd) := by rw [← HB.out.1, ← HB.out.2]; simp [ByteArray.data_append]
          rw [e1, List.append_assoc])
        have HNL : Hid ((S ++ (A ++ D)).size ≤ 4096) := Lib.hid (by
          have := congrArg List.length HNS.out
          rw [List.length_append, len_data] at this
          omega)
        have HXA := Lib.hid (And.intro hb' hx)
        clear hxk q0 q1 hdr hvs hv0 hst2 hfx hr1 hst HDE
        by_cases hf : Gs.isFix (ra, rb, rc, rd) = true
        · rw [if_pos hf] at HF1
          have hrc : (rc == 0) = false := by rw [beq_eq_false_iff_ne]; omega
          have HQ : Hid (q + Gs.seps (xs.drop (k + 1)) = 1 + SP) := Lib.hid (by have := HST.out.1; rw [hf] at this; simpa using this)
          clear hf HST
          go_wp2_with fail
          refine HF1.out.mono ?_
          rintro e w3 ⟨rfl, hx3⟩
          have cA : w3.cell? ⟨wr.heap.size, 0, none⟩ = some (.string A) := by rw [hx3.cell (p := ⟨wr.heap.size, 0, none⟩) (by simp)]; unfold World.cell?; rw [heap_alloc_new]; rfl
          have cD : w3.cell? ⟨wr.heap.size, 1, none⟩ = some (.string D) := by rw [hx3.cell (p := ⟨wr.heap.size, 1, none⟩) (by simp)]; unfold World.cell?; rw [heap_alloc_new]; rfl
          have hxa := (hx'.alloc (.cells #[.string A, .string D] 23)).trans hx3
          clear d0 d1 hx3
          go_wp2
          go_roundw
          case rel => exact ⟨k + 1, q, S ++ (A ++ D), by omega, by go_num, rfl, rfl, hq5, HNL.out, Lib.hid ⟨HQ.out, HNS.out⟩, hxa⟩
          case measure => simp [intOf]; omega
        · replace hf : Gs.isFix (ra, rb, rc, rd) = false := by simpa using hf
          rw [if_neg (by rw [hf]; simp)] at HF1
          by_cases hlast : k + 1 = N
          · have hkn : ¬ ((k : Int) < (N : Int) - 1) := by omega
            have hkn2 : (N : Int) - 1 ≤ (k : Int) := by omega
            have HQ : Hid (q + Gs.seps (xs.drop (k + 1)) = 1 + SP) := Lib.hid (by have := HST.out.1; rw [hf, decide_eq_true hlast] at this; simpa using this)
            clear hf HST
            go_wp2_with fail
            refine HF1.out.mono ?_
            rintro e w3 ⟨rfl, hx3⟩
            have cA : w3.cell? ⟨wr.heap.size, 0, none⟩ = some (.string A) := by rw [hx3.cell (p := ⟨wr.heap.size, 0, none⟩) (by simp)]; unfold World.cell?; rw [heap_alloc_new]; rfl
            have cD : w3.cell? ⟨wr.heap.size, 1, none⟩ = some (.string D) := by rw [hx3.cell (p := ⟨wr.heap.size, 1, none⟩) (by simp)]; unfold World.cell?; rw [heap_alloc_new]; rfl
            have hxa := (hx'.alloc (.cells #[.string A, .string D] 23)).trans hx3
            clear d0 d1 hx3
            go_wp2
            go_roundw
            case rel => exact ⟨k + 1, q, S ++ (A ++ D), by omega, by go_num, rfl, rfl, hq5, HNL.out, Lib.hid ⟨HQ.out, HNS.out⟩, hxa⟩
            case measure => simp [intOf]; omega
          · have hkn : (k : Int) < (N : Int) - 1 := by omega
            have HQ : Hid (q + 1 + Gs.seps (xs.drop (k + 1)) = 1 + SP) := Lib.hid (by have := HST.out.1; rw [hf, decide_eq_false hlast] at this; simp at this; omega)
            have hq6 : q + 1 ≤ 5000 := by have := HQ.out; omega
            clear hf HST
            go_wp2_with fail
            refine HF1.out.mono ?_
            rintro e w3 ⟨rfl, hx3⟩
            have cA : w3.cell? ⟨wr.heap.size, 0, none⟩ = some (.string A) := by rw [hx3.cell (p := ⟨wr.heap.size, 0, none⟩) (by simp)]; unfold World.cell?; rw [heap_alloc_new]; rfl
            have cD : w3.cell? ⟨wr.heap.size, 1, none⟩ = some (.string D) := by rw [hx3.cell (p := ⟨wr.heap.size, 1, none⟩) (by simp)]; unfold World.cell?; rw [heap_alloc_new]; rfl
            have hxa := (hx'.alloc (.cells #[.string A, .string D] 23)).trans hx3
            clear d0 d1 hx3
            go_wp2
            go_roundw
            case rel => exact ⟨k + 1, q + 1, S ++ (A ++ D), by omega, by go_num, by go_num, rfl, hq6, HNL.out, Lib.hid ⟨HQ.out, HNS.out⟩, hxa⟩
            case measure => simp [intOf]; omega
      · obtain rfl : k = N := by omega
        have HST : Hid (q = 1 + SP ∧ S.data.toList = Gs.flat xs) := Lib.hid (by
          have := hst.out
          rw [List.drop_of_length_le (by rw [HN.out]; exact Nat.le_refl _)] at this
          exact ⟨by simpa [Gs.seps] using this.1, by simpa [Gs.flat] using this.2⟩)
        clear hk hlt hst
        obtain ⟨wo, rfl⟩ : ∃ wo : World, wo = wr := ⟨_, rfl⟩
        go_wp2
        go_loopw [65, 5, 12] (fun t wt s wr => ∃ (j p : Nat) (T : ByteArray), j ≤ M ∧ t = .int .i64 (j : Int) ∧ wt = .int .i64 (p : Int) ∧ s = .string T ∧ p ≤ 5000 ∧ T.size ≤ 4096 ∧ Hid (p = Gs.cnt (cs.drop j) ∧ T.data.toList ++ Gs.oth (cs.drop j) = Gs.oth cs) ∧ Ext w1 wr) (fun t _ _ _ => M - (intOf t).toNat)
        case atStart => exact ⟨0, q, ⟨#[]⟩, Nat.zero_le _, rfl, rfl, rfl, hq5, by decide, Lib.hid ⟨by rw [HST.out.1, List.drop_zero, HCN.out], rfl⟩, hx'⟩
        case round =>
          obtain ⟨j, p, T, hj, rfl, rfl, rfl, hp5, hT4, htt, hxr'⟩ := hrel
          have hxr := hx1.trans hxr'
          by_cases hjl : j < M
          · obtain ⟨c, hck⟩ : ∃ c, cs[j]? = some c := ⟨_, List.getElem?_eq_getElem (by rw [HM.out]; exact hjl)⟩
            obtain ⟨bb, off, ha, hb, hcell⟩ := (HL1.out.1).at_ (k := j) (by rw [List.length_map, HM.out]; exact hjl)
            subst ha
            have e1 : (cs.map encI)[j]'(by rw [List.length_map, HM.out]; exact hjl) = .int .i64 c := by
              rw [List.getElem_map]
              obtain ⟨h2, h3⟩ := List.getElem?_eq_some_iff.1 hck
              rw [h3]; rfl
            rw [e1] at hcell
            have hcc := (hxr'.cell (p := ⟨bb, off + j, none⟩) hb).trans hcell
            have hdr : cs.drop j = c :: cs.drop (j + 1) := by
              obtain ⟨h1, h2⟩ := List.getElem?_eq_some_iff.1 hck
              rw [List.drop_eq_getElem_cons h1, h2]
            have hok := List.all_eq_true.1 HCO.out c (List.mem_of_getElem? hck)
            have htt2 := htt.out
            rw [hdr, Gs.cnt, Gs.oth] at htt2
            have HTT := Lib.hid htt2
            clear hck e1 hcell hdr htt2 htt
            by_cases h256 : c = 256
            · subst h256
              obtain ⟨p', rfl⟩ : ∃ p', p = p' + 1 := ⟨p - 1, by have := HTT.out.1; simp at this; omega⟩
              have HT2 : Hid (p' = Gs.cnt (cs.drop (j + 1)) ∧ T.data.toList ++ Gs.oth (cs.drop (j + 1)) = Gs.oth cs) := Lib.hid (by
                have := HTT.out
                simp only [if_true] at this
                exact ⟨by omega, this.2⟩)
              clear HTT hok
              go_wp2
              go_roundw
              case rel => exact ⟨j + 1, p', T, by omega, by go_num, by go_num, rfl, by omega, hT4, HT2, hxr'⟩
              case measure => simp [intOf]; omega
            · have hcb : 0 ≤ c ∧ c ≤ 127 := by
                unfold Gs.okCh at hok
                simp at hok
                omega
              obtain ⟨hc0, hc1⟩ := hcb
              have hc2 : (c == 256) = false := by simpa using h256
              have HTT2 : Hid (p = Gs.cnt (cs.drop (j + 1)) ∧ (T ++ ⟨#[Gs.byte c]⟩).data.toList ++ Gs.oth (cs.drop (j + 1)) = Gs.oth cs) := Lib.hid (by
                have := HTT.out
                rw [if_neg h256, if_neg h256] at this
                refine ⟨by omega, ?_⟩
                rw [← this.2]
                simp [ByteArray.data_append])
              have HTL : Hid ((T ++ ⟨#[Gs.byte c]⟩ : ByteArray).size ≤ 4096) := Lib.hid (by
                have h1 := congrArg List.length HTT2.out.2
                rw [List.length_append, len_data] at h1
                have h2 := oth_len cs
                have := HM.out
                omega)
              have hcv : (convert 45 9 (.slice (some ⟨wr.heap.size, 0, none⟩) 1 1)).run Tryd.prog (wr.alloc (.cells #[.int .u8 c] 5)) = .ok (.string ⟨#[Gs.byte c]⟩) (wr.alloc (.cells #[.int .u8 c] 5)) := by
                refine run_convert_sl (l := [Gs.byte c]) (.inr ⟨wr.heap.size, 0, 1, rfl, by simp, fun i hi => ?_⟩)
                simp only [List.map_cons, List.map_nil, List.length_cons, List.length_nil] at hi
                obtain rfl : i = 0 := by omega
                unfold World.cell?
                rw [heap_alloc_new]
                simp [encB, byte_nat hc0 hc1]
              have hb1 : (⟨#[Gs.byte c]⟩ : ByteArray).size = 1 := rfl
              clear HTT hok h256
              go_wp2
              go_roundw
              case rel => exact ⟨j + 1, p, T ++ ⟨#[Gs.byte c]⟩, by omega, by go_num, rfl, rfl, hp5, HTL.out, HTT2, hxr'.alloc _⟩
              case measure => simp [intOf]; omega
          · obtain rfl : j = M := by omega
            have HTT : Hid (p = 0 ∧ T.data.toList = Gs.oth cs) := Lib.hid (by
              have := htt.out
              rw [List.drop_of_length_le (by rw [HM.out]; exact Nat.le_refl _)] at this
              exact ⟨by simpa [Gs.cnt] using this.1, by simpa [Gs.oth] using this.2⟩)
            obtain ⟨rfl, hTl⟩ := HTT.out
            obtain rfl : T = S := bytes_ext (by rw [hTl, HOT.out, HST.out.2])
            clear HTT hTl htt hj hjl HST
            go_wp2_with fail
            refine (HEX.out wr hxr).mono ?_
            rintro e w6 ⟨rfl, hx6⟩
            go_wp2
            go_ret
            exact ⟨rfl, hxr.trans hx6⟩
  · obtain rfl := HCE.out cs ec rfl he
    have he1 : (ec != 0) = true := by simpa using he
    clear HCE HCV
    go_enter Tryd.func8, Tryd.ntmps8
    go_wp2_with fail
    refine HC.out.mono ?_
    rintro e w1 ⟨v1, rfl, hl1, hx1⟩
    obtain ⟨_, a1, c1, rfl, _⟩ := hl1
    dsimp only [List.map_nil, List.length_nil]
    go_wp2_with fail
    refine (HEX.out w1 hx1).mono ?_
    rintro e w6 ⟨rfl, hx6⟩
    go_wp2
    go_ret
    exact ⟨rfl, hx1.trans hx6⟩
end Go.Proofs.YtkembhpmfigbcaaDoor
