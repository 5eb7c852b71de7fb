/-
  Chapter 48, the program: Confusable; the law's has.
  No condition.
-/
import Derived.Test.YtamkgbodifjlaaaGreatDoorGlW7
import Derived.Test.YtamkgbodifjlaaaGreatDoorArr
import Derived.BigRegion
import Derived.Test.YtamkgbodifjlaaaGreatDoorGlPb

/-
  Chapter 48, the program: Confusable; the law's has.
  No condition.
-/
namespace Go.Proofs.YtamkgbodifjlaaaGreatDoor
set_option linter.unusedVariables false
open Go.RowKit

def Gl.nearP (c : UInt8) (d : Int) (o : UInt8) : Bool := o != c && decide ((Gl.dist c o : Int) ≤ d)
theorem Gl.near_succ (c : UInt8) (d : Int) (i : Nat) (o : UInt8) (h : Gl.chars[i]? = some o) : (Gl.chars.take (i + 1)).filter (Gl.nearP c d) = (Gl.chars.take i).filter (Gl.nearP c d) ++ if Gl.nearP c d o then [o] else [] := by
  have hi : i < Gl.chars.length := (List.getElem?_eq_some_iff.1 h).1
  have he := (List.getElem?_eq_some_iff.1 h).2
  rw [List.take_succ_eq_append_getElem hi, he, List.filter_append]
  congr 1
  cases hb : Gl.nearP c d o
  · rw [List.filter_cons_of_neg (by rw [hb]; simp)]; simp
  · rw [List.filter_cons_of_pos hb]; simp
set_option maxRecDepth 100000 in
set_option maxHeartbeats 4000000 in
theorem confus_any (c : UInt8) (hk : Gl.known c = true) (d : Int) (hd : 0 ≤ d) (w : World) :
    Calls Tryz.prog 18 #[.int .u8 (c.toNat : Int), .int .i64 d] w fun e w' => ∃ v, e = .returned (.tuple #[v, .int .i64 0]) ∧ Own 5 w' w.heap.size v ((Gl.near c d).map encB) ∧ Ext w w' := by
  have HCH := Lib.hid fchars_any
  have HG := Lib.hid (fglyph_any c hk)
  have HD := Lib.hid (fun o (ho : Gl.known o = true) => fdist_any c o hk ho)
  have HKN : Hid (∀ c ∈ Gl.chars, Gl.known c = true) := Lib.hid (fun c hc => by rw [Gl.known_mem]; exact decide_eq_true hc)
  have HN := Lib.hid (Gl.near_succ c d)
  have HALL : Hid ((Gl.chars.take 62).filter (Gl.nearP c d) = Gl.near c d) := Lib.hid (by rw [List.take_of_length_le (by rw [Gl.chars_len]; exact Nat.le_refl _)]; rfl)
  have dd : decide (d < 0) = false := decide_eq_false (by omega)
  clear hd
  go_enter Tryz.func18, Tryz.ntmps18
  go_wp2_with fail
  refine (HG.out _).mono ?_
  rintro e w1 ⟨vg, rfl, howng, hx1⟩
  obtain ⟨gg, cg, rfl, _, _, _⟩ := howng.pix
  have HX1 := Lib.hid (hx1.alloc (.cells #[.int .i64 5, .int .i64 7, .slice (some ⟨gg, 0, none⟩) 35 cg] 24))
  clear howng hx1
  go_wp2_with fail
  refine (HCH.out _).mono ?_
  rintro e w2 ⟨vc, rfl, hownc, hx2⟩
  obtain ⟨gc, cc, rfl, hgc1, hgc2, hcc⟩ := hownc.bytesAt (by decide)
  rw [Gl.chars_len]
  have HCC := Lib.hid hcc
  have HX2 := Lib.hid (HX1.out.trans hx2)
  have hsz2 := HX2.out.size
  clear hx2 hcc hownc
  go_wp2
  go_loopw [8, 24] (fun v8 v24 wr => ∃ i : Nat, i ≤ 62 ∧ v24 = .int .i64 (i : Int) ∧ Own 5 wr w2.heap.size v8 (((Gl.chars.take i).filter (Gl.nearP c d)).map encB) ∧ Ext w2 wr) (fun _ v24 _ => 62 - (intOf v24).toNat)
  case atStart => exact ⟨0, Nat.zero_le _, rfl, Own.nil _ _ _, Ext.refl _⟩
  case round =>
    obtain ⟨i, hi, rfl, hown, hxr⟩ := hrel
    by_cases hlt : i < 62
    · obtain ⟨o, ho⟩ : ∃ o, Gl.chars[i]? = some o := ⟨_, List.getElem?_eq_getElem (by rw [Gl.chars_len]; exact hlt)⟩
      have hcell := HCC.out wr hxr i o ho
      have HDo := Lib.hid (HD.out o (HKN.out o (List.mem_of_getElem? ho)))
      have hN := HN.out i o ho
      have hgl : ((Gl.chars.take i).filter (Gl.nearP c d)).length ≤ 62 := Nat.le_trans (List.length_filter_le _ _) (by rw [List.length_take]; omega)
      generalize (Gl.chars.take i).filter (Gl.nearP c d) = got at *
      clear ho
      by_cases hoc : o = c
      · have hb : Gl.nearP c d o = false := by unfold Gl.nearP; simp [hoc]
        rw [hb, if_neg (by simp), List.append_nil] at hN
        have HN' := Lib.hid hN
        have be : (((o.toNat : Nat) : Int) == ((c.toNat : Nat) : Int)) = true := by rw [hoc]; simp
        clear hN hb hoc
        go_wp2
        go_roundw
        case rel => exact ⟨i + 1, by omega, by go_num, by rw [HN'.out]; exact hown, hxr⟩
        case measure => simp [intOf]; omega
      · have be : (((o.toNat : Nat) : Int) == ((c.toNat : Nat) : Int)) = false := beq_eq_false_iff_ne.2 (fun h => hoc (UInt8.toNat_inj.1 (by omega)))
        by_cases hle : (Gl.dist c o : Int) ≤ d
        · have hb : Gl.nearP c d o = true := by unfold Gl.nearP; simp [hoc, hle]
          rw [hb, if_pos rfl] at hN
          have HN' := Lib.hid hN
          have dl : decide ((Gl.dist c o : Int) ≤ d) = true := decide_eq_true hle
          clear hN hb hoc hle
          go_wp2_with fail
          refine (HDo.out _).mono ?_
          rintro e w3 ⟨rfl, hx3⟩
          have hown3 := hown.ext hx3
          have hx23 := hxr.trans hx3
          have hsz3 := hx23.size
          generalize (Gl.dist c o : Int) = dn at *
          go_wp2_with (at_builtin; refine append_byte rfl _ _ rfl w2.heap.size _ got rfl (hown3.alloc _) _ o rfl ?c1 ?c2 ?c3 ?_)
          case c1 => simp [go_sem, encB]
          case c2 => omega
          case c3 => (try simp); omega
          intro v' w5 hown5 hg5
          have hx5 := (hx23.alloc _).ofGrown hg5 hown3.low
          clear hown hown3 hg5 hx3 hx23 hxr hcell
          go_wp2
          go_roundw
          case rel => exact ⟨i + 1, by omega, by go_num, by rw [HN'.out, List.map_append]; exact hown5, hx5⟩
          case measure => simp [intOf]; omega
        · have hb : Gl.nearP c d o = false := by unfold Gl.nearP; simp [hle]
          rw [hb, if_neg (by simp), List.append_nil] at hN
          have HN' := Lib.hid hN
          have dl : decide ((Gl.dist c o : Int) ≤ d) = false := decide_eq_false hle
          clear hN hb hoc hle
          go_wp2_with fail
          refine (HDo.out _).mono ?_
          rintro e w3 ⟨rfl, hx3⟩
          have hown3 := hown.ext hx3
          have hx23 := hxr.trans hx3
          generalize (Gl.dist c o : Int) = dn at *
          clear hown hx3 hxr hcell
          go_wp2
          go_roundw
          case rel => exact ⟨i + 1, by omega, by go_num, by rw [HN'.out]; exact hown3, hx23⟩
          case measure => simp [intOf]; omega
    · obtain rfl : i = 62 := by omega
      rw [HALL.out] at hown
      have HX := Lib.hid (HX2.out.trans hxr)
      clear hi hlt hxr
      go_wp2
      go_ret2
      exact ⟨_, rfl, hown.mono hsz2, HX.out⟩

theorem has_any (v : Value) (l : List UInt8) (x : UInt8) (w : World) (hv : Sl w v (l.map encB)) (hl : l.length ≤ 1000000) : Calls Tryz.prog 30 #[v, .int .u8 (x.toNat : Int)] w fun e w' => e = .returned (.bool (l.contains x)) ∧ w = w' := by
  obtain ⟨res, hres⟩ : ∃ res, l.contains x = res := ⟨_, rfl⟩
  rw [hres]
  have HRES := Lib.hid hres
  have HV := Lib.hid hv
  obtain ⟨a, c, rfl⟩ := hv.form
  rw [List.length_map]
  clear hv hres
  go_enter Tryz.func30, Tryz.ntmps30
  go_wp2
  go_loop [5] (fun v5 => ∃ k : Nat, k ≤ l.length ∧ v5 = .int .i64 (k : Int) ∧ Hid ((l.take k).contains x = false)) (fun v5 => l.length - (intOf v5).toNat)
  case atStart => exact ⟨0, Nat.zero_le _, rfl, Lib.hid (by simp)⟩
  case round =>
    obtain ⟨k, hk, rfl, hno⟩ := hrel
    by_cases hlt : k < l.length
    · obtain ⟨b, off, rfl, hb, hcell⟩ := HV.out.at_ (k := k) (by rw [List.length_map]; exact hlt)
      rw [List.getElem_map] at hcell
      have HT : Hid (l.take (k + 1) = l.take k ++ [l[k]]) := Lib.hid (List.take_succ_eq_append_getElem hlt)
      have HM : Hid (l[k] ∈ l) := Lib.hid (List.getElem_mem hlt)
      generalize l[k] = y at *
      unfold encB at hcell
      by_cases he : y = x
      · have be : (((y.toNat : Nat) : Int) == ((x.toNat : Nat) : Int)) = true := by rw [he]; simp
        have HR : Hid (res = true) := Lib.hid (by rw [← HRES.out, List.contains_iff_mem, ← he]; exact HM.out)
        clear he
        go_wp2
        go_ret
        exact ⟨ret_bool HR.out.symm, rfl⟩
      · have be : (((y.toNat : Nat) : Int) == ((x.toNat : Nat) : Int)) = false := beq_eq_false_iff_ne.2 (fun h => he (UInt8.toNat_inj.1 (by omega)))
        have HN : Hid ((l.take (k + 1)).contains x = false) := Lib.hid (by
          rw [HT.out, List.contains_eq_any_beq, List.any_append, ← List.contains_eq_any_beq, hno.out]
          simp
          exact fun h => he h.symm)
        clear he
        go_wp2
        go_round
        case rel => exact ⟨k + 1, by omega, by go_num, HN⟩
        case measure => simp [intOf]; omega
    · obtain rfl : k = l.length := by omega
      have HR : Hid (res = false) := Lib.hid (by rw [← HRES.out, ← hno.out, List.take_length])
      clear hk hlt hno
      go_wp2
      go_ret
      exact ⟨ret_bool HR.out.symm, rfl⟩
end Go.Proofs.YtamkgbodifjlaaaGreatDoor

/-
  Chapter 48, the program: the cells of a character.
  Condition: a line inside of a bitmap, and small numbers.
-/
namespace Go.Proofs.YtamkgbodifjlaaaGreatDoor
open Go.RowKit

theorem results_one {fn : Func} {p : Tmp} {T : TypeId} (h : fn.results = #[.cell p T]) {tmps : Array Value} {w : World} {g : Nat} {cs : Array Value}
    (hp : tmps.getD p undef = .pointer (some ⟨g, 0, none⟩)) (hl : (loadVar T ⟨g, 0, none⟩).run Tryz.prog w = .ok (.agg cs) w) : (results fn tmps).run Tryz.prog w = .ok (.agg cs) w := by
  have hp' : tmps[p]?.getD undef = .pointer (some ⟨g, 0, none⟩) := by rw [← Array.getD_eq_getD_getElem?]; exact hp
  simp only [results, h]
  simp [hp', asAddr, hl]
/-- The blocks of a walk over cells: the bitmap, the line, the result, the row, the new bitmap. -/
def CellR (w : World) (mb lb : Array Value) (f : Nat → Value) (wr : World) : Prop :=
  wr.heap[w.heap.size]? = some (.cells mb 24 (0, 0)) ∧ wr.heap[w.heap.size + 1]? = some (.cells lb 26 (0, 0)) ∧
  wr.heap[w.heap.size + 1 + 1]? = some (.cells #[.int .i64 0, .int .i64 0, .slice none 0 0] 24 (0, 0)) ∧ wr.rowIs (w.heap.size + 1 + 1 + 1) 4 35 f ∧
  wr.heap[w.heap.size + 1 + 1 + 1 + 1]? = some (.cells #[.int .i64 5, .int .i64 7, .slice (some ⟨w.heap.size + 1 + 1 + 1, 0, none⟩) 35 35] 24 (0, 0)) ∧ Ext w wr
set_option maxRecDepth 100000 in
set_option maxHeartbeats 4000000 in
theorem cells_any (v : Value) (m : List Bool) (W H lx ly lw lh x y k : Nat) (w : World) (hv : SlK w v (m.map encT)) (hm : m.length = W * H) (hW : 1 ≤ W) (hW2 : W ≤ 4096) (hH : 1 ≤ H) (hH2 : H ≤ 4096) (hl : lx + lw ≤ W) (hh : ly + lh ≤ H) (hx : x ≤ 100000) (hy : y ≤ 100000) (hk : 1 ≤ k) (hk2 : k ≤ 64) :
    Calls Tryz.prog 48 #[.agg #[.int .i64 (W : Int), .int .i64 (H : Int), v], .agg #[.int .i64 (lx : Int), .int .i64 (ly : Int), .int .i64 (lw : Int), .int .i64 (lh : Int)], .int .i64 (x : Int), .int .i64 (y : Int), .int .i64 (k : Int)] w
      fun e w' => ∃ r, e = .returned (.agg #[.int .i64 5, .int .i64 7, r]) ∧ SlK w' r ((Gl.cells m W (lx + lw) (ly + lh) x y k).map encT) ∧ Ext w w' := by
  have hWH : 1 ≤ W * H := Nat.mul_pos hW hH
  obtain ⟨b, off, c, rfl, hc, hb, hpx⟩ := hv.px (by omega)
  have HPX := Lib.hid hpx
  have hmk : ∀ w, (Instr.makeSlice 22 (.int .i64 35) (.int .i64 35)).run Tryz.prog w = .ok (.slice (some ⟨w.heap.size, 0, none⟩) 35 35) (w.alloc (.cells (madeCells #[.bool false] 35) 4)) := fun w => run_make_row' (P := Tryz.prog) 22 4 (.bool false) 1 Tryz.underlying22 (by kernel_rfl) rfl .i64 .i64 35 (by omega) (by omega) w
  rw [hm] at hc HPX ⊢
  have hWH2 : W * H ≤ 16777216 := Nat.mul_le_mul hW2 hH2
  obtain ⟨M, hM⟩ : ∃ M, W * H = M := ⟨_, rfl⟩
  rw [hM] at hc HPX hWH hWH2 ⊢
  have HMM := Lib.hid hM
  clear hM hm
  clear hpx hv
  go_enter Tryz.func48, Tryz.ntmps48
  go_wp2
  go_loopw [25] (fun v25 wr => ∃ i : Nat, i ≤ 35 ∧ v25 = .int .i64 (i : Int) ∧ CellR w #[.int .i64 (W : Int), .int .i64 (H : Int),   .slice (some ⟨b, off, none⟩) M c] #[.int .i64 (lx : Int), .int .i64 (ly : Int), .int .i64 (lw : Int), .int .i64 (lh : Int)] (fun j => .bool (if j < i then Gl.cell m W (lx + lw) (ly + lh) (x + j % 5 * k) (y + j / 5 * k) k else false)) wr) (fun v25 _ => 35 - (intOf v25).toNat)
  case atStart =>
    have e3 : (((w.alloc (.cells #[.int .i64 (W : Int), .int .i64 (H : Int), .slice (some ⟨b, off, none⟩) M c] 24)).alloc (.cells #[.int .i64 (lx : Int), .int .i64 (ly : Int), .int .i64 (lw : Int), .int .i64 (lh : Int)] 26)).alloc (.cells #[.int .i64 0, .int .i64 0, .slice none 0 0] 24)).heap.size = w.heap.size + 1 + 1 + 1 := by simp
    have hrow := World.rowIs_made (((w.alloc (.cells #[.int .i64 (W : Int), .int .i64 (H : Int), .slice (some ⟨b, off, none⟩) M c] 24)).alloc (.cells #[.int .i64 (lx : Int), .int .i64 (ly : Int), .int .i64 (lw : Int), .int .i64 (lh : Int)] 26)).alloc (.cells #[.int .i64 0, .int .i64 0, .slice none 0 0] 24)) (.bool false) 35 4
    rw [e3] at hrow
    refine ⟨0, Nat.zero_le _, rfl, ?_, ?_, ?_, ?_, ?_, ?_⟩
    · exact row_on (heap_alloc_new w _) (((((Ext.refl _).alloc _).alloc _).alloc _).alloc _)
    · have := heap_alloc_new (w.alloc (.cells #[.int .i64 (W : Int), .int .i64 (H : Int), .slice (some ⟨b, off, none⟩) M c] 24)) (.cells #[.int .i64 (lx : Int), .int .i64 (ly : Int), .int .i64 (lw : Int), .int .i64 (lh : Int)] 26)
      rw [World.size_alloc] at this
      exact row_on this ((((Ext.refl _).alloc _).alloc _).alloc _)
    · have := heap_alloc_new ((w.alloc (.cells #[.int .i64 (W : Int), .int .i64 (H : Int), .slice (some ⟨b, off, none⟩) M c] 24)).alloc (.cells #[.int .i64 (lx : Int), .int .i64 (ly : Int), .int .i64 (lw : Int), .int .i64 (lh : Int)] 26)) (.cells #[.int .i64 0, .int .i64 0, .slice none 0 0] 24)
      rw [World.size_alloc, World.size_alloc] at this
      exact row_on this (((Ext.refl _).alloc _).alloc _)
    · exact (Ext.rowX hrow ((Ext.refl _).alloc _)).congr (fun j hj => by rw [if_neg (by omega)])
    · have := heap_alloc_new ((((w.alloc (.cells #[.int .i64 (W : Int), .int .i64 (H : Int), .slice (some ⟨b, off, none⟩) M c] 24)).alloc (.cells #[.int .i64 (lx : Int), .int .i64 (ly : Int), .int .i64 (lw : Int), .int .i64 (lh : Int)] 26)).alloc (.cells #[.int .i64 0, .int .i64 0, .slice none 0 0] 24)).alloc (.cells (madeCells #[.bool false] 35) 4)) (.cells #[.int .i64 5, .int .i64 7, .slice (some ⟨w.heap.size + 1 + 1 + 1, 0, none⟩) 35 35] 24)
      rw [World.size_alloc, e3] at this
      exact this
    · exact (((((Ext.refl w).alloc _).alloc _).alloc _).alloc _).alloc _
  case round =>
    obtain ⟨i, hi, rfl, h0, h1, h2, h3, h4, hxr⟩ := hrel
    have HR := Lib.hid (show CellR w _ _ _ wr from ⟨h0, h1, h2, h3, h4, hxr⟩)
    have m0 := cell_at h0 (i := 0) rfl
    have m2 := cell_at h0 (i := 2) rfl
    have l0 := cell_at h1 (i := 0) rfl
    have l1 := cell_at h1 (i := 1) rfl
    have l2 := cell_at h1 (i := 2) rfl
    have l3 := cell_at h1 (i := 3) rfl
    have o2 := cell_at h4 (i := 2) rfl
    have HX := Lib.hid hxr
    have HPW := Lib.hid (HPX.out wr hxr)
    by_cases hlt : i < 35
    · have rc := h3.cell hlt
      have rf := h3.frozen i
      have H0 := Lib.hid h0
      have H1 := Lib.hid h1
      have H2 := Lib.hid h2
      have H3 := Lib.hid h3
      have H4 := Lib.hid h4
      clear h0 h1 h2 h3 h4 hxr
      obtain ⟨q, hq⟩ : ∃ q, i % 5 = q := ⟨_, rfl⟩
      obtain ⟨r, hr⟩ : ∃ r, i / 5 = r := ⟨_, rfl⟩
      have e5 : (i : Int) % 5 = (q : Int) := by omega
      have e6 : (i : Int) / 5 = (r : Int) := by omega
      obtain ⟨P, hP⟩ : ∃ P, q * k = P := ⟨_, rfl⟩
      obtain ⟨S, hS⟩ : ∃ S, r * k = S := ⟨_, rfl⟩
      have hP1 : P ≤ 256 := by rw [← hP]; exact Nat.le_trans (Nat.mul_le_mul (show q ≤ 4 by omega) hk2) (by decide)
      have hS1 : S ≤ 384 := by rw [← hS]; exact Nat.le_trans (Nat.mul_le_mul (show r ≤ 6 by omega) hk2) (by decide)
      have e7 : (q : Int) * (k : Int) = (P : Int) := by rw [← hP]; simp
      have e8 : (r : Int) * (k : Int) = (S : Int) := by rw [← hS]; simp
      obtain ⟨L, hL⟩ : ∃ L, x + P = L := ⟨_, rfl⟩
      obtain ⟨T, hT⟩ : ∃ T, y + S = T := ⟨_, rfl⟩
      have e9 : (x : Int) + (P : Int) = (L : Int) := by omega
      have e10 : (y : Int) + (S : Int) = (T : Int) := by omega
      have e11 : (L : Int) + (k : Int) = ((L + k : Nat) : Int) := by omega
      have e12 : (T : Int) + (k : Int) = ((T + k : Nat) : Int) := by omega
      have e13 : (lx : Int) + (lw : Int) = ((lx + lw : Nat) : Int) := by omega
      have e14 : (ly : Int) + (lh : Int) = ((ly + lh : Nat) : Int) := by omega
      have HF := Lib.hid (And.intro hq (And.intro hr (And.intro hP (And.intro hS (And.intro hL hT)))))
      have hLb : L ≤ 100256 := by omega
      have hTb : T ≤ 100384 := by omega
      obtain ⟨A, hA⟩ : ∃ A, L + k = A := ⟨_, rfl⟩
      obtain ⟨B, hB⟩ : ∃ B, T + k = B := ⟨_, rfl⟩
      obtain ⟨X, hX⟩ : ∃ X, lx + lw = X := ⟨_, rfl⟩
      obtain ⟨Y, hY⟩ : ∃ Y, ly + lh = Y := ⟨_, rfl⟩
      rw [hA] at e11
      rw [hB] at e12
      rw [hX] at e13
      rw [hY] at e14
      have hAb : A ≤ 200000 := by omega
      have hBb : B ≤ 200000 := by omega
      have hXb : X ≤ 4096 := by omega
      have hYb : Y ≤ 4096 := by omega
      have HF2 := Lib.hid (And.intro hA (And.intro hB (And.intro hX hY)))
      clear hq hr hP hS hL hT hA hB hX hY
      go_wp2
      obtain ⟨Rr, hRr⟩ : ∃ R : Nat, min A X = R := ⟨_, rfl⟩
      obtain ⟨Bt, hBt⟩ : ∃ R : Nat, min B Y = R := ⟨_, rfl⟩
      have eR : min (A : Int) (X : Int) = (Rr : Int) := by omega
      have eB : min (B : Int) (Y : Int) = (Bt : Int) := by omega
      have HF3 := Lib.hid (And.intro hRr hBt)
      clear hRr hBt
      go_region
      go_wp2
      clear e5 e6 e7 e8 e9 e10 e11 e12 e13 e14 eR eB hP1 hS1
      go_loop [17, 18] (fun v17 v18 => ∃ j : Nat, j ≤ k ∧ (j = 0 ∨ T + j ≤ Bt) ∧ v18 = .int .i64 ((T + j : Nat) : Int) ∧ v17 = .int .i64 (Gl.cellN m W X Y L T k j : Int)) (fun _ v18 => Bt - (intOf v18).toNat)
      case atStart => exact ⟨0, Nat.zero_le _, .inl rfl, rfl, rfl⟩
      case round =>
        obtain ⟨j, hj, hj2, rfl, rfl⟩ := hrel
        have hf2 := HF2.out
        have hf3 := HF3.out
        by_cases hlv : T + j < Bt
        · have hjk : j < k := by omega
          have hTY : T + j < Y := by omega
          obtain ⟨V, hV⟩ : ∃ V, T + j = V := ⟨_, rfl⟩
          have HN1 := Lib.hid (show Gl.cellN m W X Y L T k (j + 1) = Gl.cellN m W X Y L T k j + Gl.cellRow m W X Y L V k by rw [← hV]; rfl)
          have hNb := Gl.cellN_le m W X Y L T k j
          have hNb2 : j * k ≤ 64 * 64 := Nat.mul_le_mul (by omega) (by omega)
          obtain ⟨N, hN⟩ : ∃ N, Gl.cellN m W X Y L T k j = N := ⟨_, rfl⟩
          rw [hN] at HN1 hNb ⊢
          rw [hV] at hlv hTY ⊢
          have HVV := Lib.hid hV
          clear hN hf2 hf3 hj2
          have hYH : V + 1 ≤ H := by have := HF2.out; omega
          have hXW : X ≤ W := by have := HF2.out; omega
          have hVW : V * W + W ≤ M := by
            have : (V + 1) * W ≤ H * W := Nat.mul_le_mul_right W hYH
            rw [Nat.add_mul, Nat.one_mul, Nat.mul_comm H W, HMM.out] at this
            exact this
          obtain ⟨Z, hZ⟩ : ∃ Z, V * W = Z := ⟨_, rfl⟩
          have eZ : (V : Int) * (W : Int) = (Z : Int) := by rw [← hZ]; simp
          have HZ := Lib.hid hZ
          rw [hZ] at hVW
          have hZb : Z ≤ 16777216 := by omega
          clear hZ hV
          go_wp2
          go_loop [17, 19] (fun v17 v19 => ∃ t : Nat, t ≤ k ∧ (t = 0 ∨ L + t ≤ Rr) ∧ v19 = .int .i64 ((L + t : Nat) : Int) ∧ v17 = .int .i64 ((N + Gl.rowN m W X Y L V t : Nat) : Int)) (fun _ v19 => Rr - (intOf v19).toNat)
          case atStart => exact ⟨0, Nat.zero_le _, .inl rfl, rfl, rfl⟩
          case round =>
            obtain ⟨t, ht, ht2, rfl, rfl⟩ := hrel
            have hf2 := HF2.out
            have hf3 := HF3.out
            by_cases hlu : L + t < Rr
            · have htk : t < k := by omega
              have htX : L + t < X := by omega
              have hS := Gl.rowN_succ m W X Y L V t
              have hRb := Gl.rowN_le m W X Y L V t
              have hix : Z + (L + t) < M := by omega
              have hpx := HPW.out (Z + (L + t)) hix
              rw [HZ.out, decide_eq_true htX, decide_eq_true hTY, Bool.true_and, Bool.true_and] at hS
              obtain ⟨U, hU⟩ : ∃ U, L + t = U := ⟨_, rfl⟩
              rw [hU] at hS hix hpx hlu ⊢
              have HU := Lib.hid hU
              obtain ⟨D, hD⟩ : ∃ D, N + Gl.rowN m W X Y L V t = D := ⟨_, rfl⟩
              have hDb : D ≤ 5000 := by omega
              have hS2 : N + Gl.rowN m W X Y L V (t + 1) = D + if m.getD (Z + U) false then 1 else 0 := by rw [hS, ← hD, Nat.add_assoc]
              rw [hD]
              have HS2 := Lib.hid hS2
              obtain ⟨I, hI⟩ : ∃ I, Z + U = I := ⟨_, rfl⟩
              have eI : (Z : Int) + (U : Int) = (I : Int) := by omega
              rw [hI] at hix hpx HS2
              clear hS hS2 hI hU hD hf2 hf3 ht2
              generalize m.getD I false = px at *
              cases px
              · go_wp2
                go_round
                case rel => exact ⟨t + 1, by omega, .inr (by have := HU.out; omega), by rw [← HU.out]; go_num, by rw [HS2.out]; simp⟩
                case measure => simp [intOf]; omega
              · go_wp2
                go_round
                case rel => exact ⟨t + 1, by omega, .inr (by have := HU.out; omega), by rw [← HU.out]; go_num, by rw [HS2.out]; simp⟩
                case measure => simp [intOf]; omega
            · have hend := Gl.rowN_stop m W X Y L V t k ht (by omega)
              have HE := Lib.hid (show Gl.cellN m W X Y L T k (j + 1) = N + Gl.rowN m W X Y L V t by rw [HN1.out, hend])
              have hRb := Gl.rowN_le m W X Y L V t
              obtain ⟨D, hD⟩ : ∃ D, N + Gl.rowN m W X Y L V t = D := ⟨_, rfl⟩
              obtain ⟨U, hU⟩ : ∃ U, L + t = U := ⟨_, rfl⟩
              rw [hU] at hlu ⊢
              rw [hD] at HE ⊢
              clear hD hU hf2 hf3 ht2 hend
              go_wp2
              go_round
              case rel => exact ⟨j + 1, by omega, .inr (by have := HVV.out; omega), by rw [← HVV.out]; go_num, by rw [HE.out]⟩
              case measure => simp [intOf]; omega
        · have hend := Gl.cellN_stop m W X Y L T k j hj (by omega)
          have hNb := Gl.cellN_le m W X Y L T k k
          have hkk : k * k ≤ 4096 := Nat.mul_le_mul hk2 hk2
          rw [hend]
          obtain ⟨K, hK⟩ : ∃ K, k * k = K := ⟨_, rfl⟩
          have eK : (k : Int) * (k : Int) = (K : Int) := by rw [← hK]; simp
          have HC : Hid (Gl.cell m W X Y L T k = decide (K < 2 * Gl.cellN m W X Y L T k k)) := Lib.hid (by unfold Gl.cell; rw [hK])
          rw [hK] at hNb hkk
          generalize Gl.cellN m W X Y L T k k = N at *
          have e2 : (2 : Int) * (N : Int) = ((2 * N : Nat) : Int) := by omega
          have HD : Hid (decide ((K : Int) < ((2 * N : Nat) : Int)) = Gl.cell m W X Y L T k) := Lib.hid (by
            rw [HC.out]
            by_cases h : K < 2 * N
            · rw [decide_eq_true h, decide_eq_true (by omega)]
            · rw [decide_eq_false h, decide_eq_false (by omega)])
          obtain ⟨N2, hN2⟩ : ∃ N2, 2 * N = N2 := ⟨_, rfl⟩
          rw [hN2] at e2 HD
          have hd := HD.out
          obtain ⟨V, hV⟩ : ∃ V, T + j = V := ⟨_, rfl⟩
          rw [hV] at hlv ⊢
          have HCC : Hid (Gl.cell m W (lx + lw) (ly + lh) (x + i % 5 * k) (y + i / 5 * k) k = decide (K < N2)) := Lib.hid (by
            obtain ⟨a1, a2, a3, a4, a5, a6⟩ := HF.out
            obtain ⟨b1, b2, b3, b4⟩ := HF2.out
            rw [a1, a2, a3, a4, a5, a6, b3, b4, HC.out, hN2])
          clear hend hV hN2 hf2 hf3 hj2 HC
          generalize Gl.cell m W X Y L T k = bt at *
          go_wp2
          go_roundw
          case rel =>
            have hne : w.heap.size + 1 + 1 + 1 ≠ w.heap.size ∧ w.heap.size + 1 + 1 + 1 ≠ w.heap.size + 1 ∧ w.heap.size + 1 + 1 + 1 ≠ w.heap.size + 1 + 1 ∧ w.heap.size + 1 + 1 + 1 ≠ w.heap.size + 1 + 1 + 1 + 1 := by omega
            refine ⟨i + 1, by omega, by go_num, far1 hne.1 H0.out, far1 hne.2.1 H1.out, far1 hne.2.2.1 H2.out, ?_, far1 hne.2.2.2 H4.out, (HX.out.setCell (p := ⟨w.heap.size + 1 + 1 + 1, i, none⟩) (by show w.heap.size ≤ w.heap.size + 1 + 1 + 1; omega) _).drew⟩
            refine (H3.out.set i (.bool (decide (K < N2)))).congr (fun j hj => ?_)
            by_cases h1 : j = i
            · subst h1
              rw [if_pos rfl, if_pos (by omega), HCC.out]
            · rw [if_neg h1]
              by_cases h2 : j < i
              · rw [if_pos h2, if_pos (by omega)]
              · rw [if_neg h2, if_neg (by omega)]
          case measure => simp [intOf]; omega
    · obtain rfl : i = 35 := by omega
      have o0 := cell_at h4 (i := 0) rfl
      have o1 := cell_at h4 (i := 1) rfl
      have r0 := cell_at h2 (i := 0) rfl
      have r1 := cell_at h2 (i := 1) rfl
      have r2 := cell_at h2 (i := 2) rfl
      have z0 := frz_at h2 (i := 0)
      have z1 := frz_at h2 (i := 1)
      have z2 := frz_at h2 (i := 2)
      have H2 := Lib.hid h2
      have H3 := Lib.hid h3
      clear m0 m2 l0 l1 l2 l3 h0 h1 h2 h3 h4 hxr HPW
      go_wp2
      refine bodyPost_ret (results_one Tryz.results48 rfl (load_mat (row3_set H2))) rfl ?_
      refine ⟨_, rfl, ?_, ((HX.out.setCell (p := ⟨w.heap.size + 1 + 1, 0, none⟩) (by show w.heap.size ≤ w.heap.size + 1 + 1; omega) _).setCell (p := ⟨w.heap.size + 1 + 1, 1, none⟩) (by show w.heap.size ≤ w.heap.size + 1 + 1; omega) _).setCell (p := ⟨w.heap.size + 1 + 1, 2, none⟩) (by show w.heap.size ≤ w.heap.size + 1 + 1; omega) _⟩
      have hne : w.heap.size + 1 + 1 ≠ w.heap.size + 1 + 1 + 1 := by omega
      refine (SlK.row (H3.out.of_block (far1 hne (far1 hne (far1 hne rfl))))).congr ?_
      unfold Gl.cells
      rw [List.map_map]
      refine List.map_congr_left fun j hj => ?_
      rw [if_pos (List.mem_range.1 hj)]
      rfl
end Go.Proofs.YtamkgbodifjlaaaGreatDoor
