/-
  Chapter 48, the program: Match.
  No condition.
-/
import Derived.Test.YtamkgbodifjlaaaGreatDoorGlWy
import Derived.Test.YtamkgbodifjlaaaGreatDoorSlK
namespace Go.Proofs.YtamkgbodifjlaaaGreatDoor
set_option linter.unusedVariables false
open Go.RowKit Go.Sort

theorem info_choice : (Tryz.prog.info? 67).map (fun i => (i.zero, i.size, i.bytes)) = some (some (.agg #[.int .u8 0, .int .i64 0]), 2, 16) := by kernel_rfl
/-- The pixels of a slice, wherever a later world is. -/
theorem SlK.px {w : World} {v : Value} {m : List Bool} (h : SlK w v (m.map encT)) (h0 : 0 < m.length) :
    ∃ b off c, v = .slice (some ⟨b, off, none⟩) m.length c ∧ m.length ≤ c ∧ b < w.heap.size ∧ ∀ w', Ext w w' → ∀ i, i < m.length → w'.cell? ⟨b, off + i, none⟩ = some (.bool (m.getD i false)) := by
  obtain ⟨h1, a, c, hv, hc⟩ := h
  rw [List.length_map] at hv hc
  rcases h1 with ⟨h2, _⟩ | ⟨b, off, cap, hv2, hb, hcell⟩
  · rw [List.map_eq_nil_iff] at h2; subst h2; simp at h0
  · rw [hv] at hv2
    rw [List.length_map] at hv2 hcell
    injection hv2 with e1 e2 e3
    subst e1 e3
    refine ⟨b, off, c, hv, hc, hb, fun w' hx i hi => ?_⟩
    rw [hx.cell (p := ⟨b, off + i, none⟩) hb, hcell i hi, List.getElem?_map, List.getElem?_eq_getElem hi, List.getD_eq_getElem?_getD, List.getElem?_eq_getElem hi]
    rfl
/-- The cost of the first n pixels. -/
def Gl.costN (m : List Bool) (c : UInt8) (n : Nat) : Nat := (List.range n).countP fun i => m.getD i false != Gl.bitAt (Gl.code c) i
theorem Gl.costN_succ (m : List Bool) (c : UInt8) (n : Nat) : Gl.costN m c (n + 1) = Gl.costN m c n + if m.getD n false != Gl.bitAt (Gl.code c) n then 1 else 0 := by
  unfold Gl.costN
  rw [List.range_succ, List.countP_append]
  simp [List.countP_cons]
theorem Gl.costN_all (m : List Bool) (c : UInt8) : Gl.costN m c 35 = Gl.cost m c := rfl
theorem Gl.costN_le (m : List Bool) (c : UInt8) (n : Nat) : Gl.costN m c n ≤ n := Nat.le_trans List.countP_le_length (by simp)
theorem Gl.priced_succ (m : List Bool) (i : Nat) (c : UInt8) (h : Gl.chars[i]? = some c) : (Gl.priced m).take (i + 1) = (Gl.priced m).take i ++ [(c, (Gl.cost m c : Int))] := by
  unfold Gl.priced
  have hi : i < Gl.chars.length := (List.getElem?_eq_some_iff.1 h).1
  have he := (List.getElem?_eq_some_iff.1 h).2
  rw [List.take_succ_eq_append_getElem (by simpa using hi)]
  congr 2
  rw [List.getElem_map, he]
theorem Own.bytesAt {w : World} {B : Nat} {v : Value} {l : List UInt8} (h : Own 5 w B v (l.map encB)) (h0 : 0 < l.length) :
    ∃ g c, v = .slice (some ⟨g, 0, none⟩) l.length c ∧ B ≤ g ∧ g < w.heap.size ∧ ∀ w', Ext w w' → ∀ i x, l[i]? = some x → w'.cell? ⟨g, i, none⟩ = some (.int .u8 (x.toNat : Int)) := by
  have h0' := h
  rcases h.2 with ⟨_, hz⟩ | ⟨g, cap, cur, hv, hbase, hb, _⟩
  · rw [List.length_map] at hz; omega
  · rw [List.length_map] at hv
    have hlt := (Array.getElem?_eq_some_iff.1 hb).1
    refine ⟨g, cap, hv, hbase, hlt, fun w' hx i x hi => ?_⟩
    subst hv
    have hil : i < l.length := (List.getElem?_eq_some_iff.1 hi).1
    have := World.ownsRow.cellAt (by unfold Own at h0'; rw [List.length_map] at h0'; exact h0') i (by omega)
    rw [hx.cell (p := ⟨g, i, none⟩) hlt, this, List.getElem?_map, hi]
    rfl
/-- What Match hands back when it finds nothing wrong. -/
def OwnsM (xs : List Gl.Ch) (w : World) (e : Ending) (w' : World) : Prop := ∃ g c, e = .returned (.tuple #[.slice (some ⟨g, 0, none⟩) 62 c, .int .i64 0]) ∧ 62 ≤ c ∧ w.heap.size ≤ g ∧ g < w'.heap.size ∧ KSl 2 encC w' (.slice (some ⟨g, 0, none⟩) 62 c) xs ∧ Ext w w'
set_option maxRecDepth 100000 in
set_option maxHeartbeats 4000000 in
theorem match_any (v : Value) (m : List Bool) (w : World) (hv : SlK w v (m.map encT)) (hm : m.length = 35) : Calls Tryz.prog 16 #[.agg #[.int .i64 5, .int .i64 7, v]] w (OwnsM (Gl.ranked m) w) := by
  obtain ⟨b, off, c, rfl, hc, hb, hpx⟩ := hv.px (by omega)
  rw [hm] at hc hpx ⊢
  have HPX := Lib.hid hpx
  have HCK := Lib.hid (fun W1 => check_any 5 7 (some ⟨b, off, none⟩) 35 c W1 (by unfold maxLen; omega))
  rw [show Gl.valid 5 7 35 = true from by decide, if_pos rfl] at HCK
  have HCH := Lib.hid fchars_any
  have HG := Lib.hid fglyph_any
  have HKN : Hid (∀ c ∈ Gl.chars, Gl.known c = true) := Lib.hid (fun c hc => by rw [Gl.known_mem]; exact decide_eq_true hc)
  have HS := Lib.hid (Gl.costN_succ m)
  have HL := Lib.hid (Gl.costN_le m)
  have HPR := Lib.hid (Gl.priced_succ m)
  have HRK := Lib.hid (Gl.ranked_sort m)
  have HP0 : Hid ((Gl.priced m).take 62 = Gl.priced m ∧ (Gl.priced m).length = 62) := Lib.hid ⟨List.take_of_length_le (by simp [Gl.priced, Gl.chars_len]), by simp [Gl.priced, Gl.chars_len]⟩
  clear hpx hv hm
  generalize Gl.priced m = pr at *
  go_enter Tryz.func16, Tryz.ntmps16
  go_wp2_with fail
  refine (HCK.out _).mono ?_
  rintro e w1 ⟨rfl, hx1⟩
  have HM1 := Lib.hid (row_new rfl hx1)
  have m0 := cell_at HM1.out (i := 0) rfl
  have m1 := cell_at HM1.out (i := 1) rfl
  have hxw1 := hx1.before
  clear hx1
  go_wp2_with fail
  refine (HCH.out _).mono ?_
  rintro e w2 ⟨vc, rfl, hownc, hx2⟩
  obtain ⟨gc, cc, rfl, hgc1, hgc2, hcc⟩ := hownc.bytesAt (by decide)
  rw [Gl.chars_len]
  have HCC := Lib.hid hcc
  have HM2 := Lib.hid (row_on HM1.out hx2)
  have HX2 := Lib.hid (hxw1.trans hx2)
  have hsz2 := HX2.out.size
  clear m0 m1 hxw1 hx2 hcc hownc HM1
  go_wp2
  go_loopw [4, 25] (fun v4 v25 wr => ∃ i : Nat, i ≤ 62 ∧ v25 = .int .i64 (i : Int) ∧ KOwn 67 2 encC wr w2.heap.size v4 (pr.take i) ∧ Ext w2 wr) (fun _ v25 _ => 62 - (intOf v25).toNat)
  case atStart => exact ⟨0, Nat.zero_le _, rfl, KOwn.nil _ _ _ _ _, Ext.refl _⟩
  case round =>
    obtain ⟨i, hi, rfl, hown, hxr⟩ := hrel
    by_cases hlt : i < 62
    · obtain ⟨ch, hch⟩ : ∃ ch, Gl.chars[i]? = some ch := ⟨_, List.getElem?_eq_getElem (by rw [Gl.chars_len]; exact hlt)⟩
      have hcell := HCC.out wr hxr i ch hch
      have HGc := Lib.hid (HG.out ch (HKN.out ch (List.mem_of_getElem? hch)))
      have HPRc := Lib.hid (HPR.out i ch hch)
      clear hch
      go_wp2_with fail
      refine (HGc.out _).mono ?_
      rintro e w3 ⟨vg, rfl, howng, hx3⟩
      obtain ⟨gg, cg, rfl, hg1, hg2, hcg⟩ := howng.pix
      have HCG := Lib.hid hcg
      have hx3' := hxr.trans hx3
      have HX3 := Lib.hid (hx3'.alloc (.cells #[.int .i64 5, .int .i64 7, .slice (some ⟨gg, 0, none⟩) 35 cg] 24))
      have HO3 := Lib.hid ((hown.ext hx3).ext ((Ext.refl _).alloc (.cells #[.int .i64 5, .int .i64 7, .slice (some ⟨gg, 0, none⟩) 35 cg] 24)))
      have HM3 := Lib.hid (row_on HM2.out HX3.out)
      have HPX3 := Lib.hid (HPX.out _ (HX2.out.trans HX3.out))
      have HCG3 := Lib.hid (HCG.out _ ((Ext.refl w3).alloc (.cells #[.int .i64 5, .int .i64 7, .slice (some ⟨gg, 0, none⟩) 35 cg] 24)))
      have HN3 := Lib.hid (heap_alloc_new w3 (.cells #[.int .i64 5, .int .i64 7, .slice (some ⟨gg, 0, none⟩) 35 cg] 24))
      obtain ⟨W, hW⟩ : ∃ W, w3.alloc (.cells #[.int .i64 5, .int .i64 7, .slice (some ⟨gg, 0, none⟩) 35 cg] 24) = W := ⟨_, rfl⟩
      have q1 := cell_at HM3.out (i := 2) rfl
      have q2 := cell_at HN3.out (i := 2) rfl
      rw [hW] at HX3 HO3 HM3 HPX3 HCG3 HN3
      have HW := Lib.hid hW
      clear hW hxr hown hx3 hx3' howng hcg HCG hcell
      go_wp2
      rw [HW.out]
      clear q1 q2
      have q1 := cell_at HM3.out (i := 2) rfl
      have q2 := cell_at HN3.out (i := 2) rfl
      go_loop [9, 40] (fun v9 v40 => ∃ j : Nat, j ≤ 35 ∧ v40 = .int .i64 (j : Int) ∧ v9 = .int .i64 (Gl.costN m ch j : Int)) (fun _ v40 => 35 - (intOf v40).toNat)
      case atStart => exact ⟨0, Nat.zero_le _, rfl, rfl⟩
      case round =>
        obtain ⟨j, hj, rfl, rfl⟩ := hrel
        by_cases hlj : j < 35
        · have c1 := HPX3.out j hlj
          have c2 := HCG3.out j hlj
          have hS := HS.out ch j
          have hl := HL.out ch j
          generalize m.getD j false = da at *
          generalize Gl.bitAt (Gl.code ch) j = db at *
          obtain ⟨n, hn⟩ : ∃ n, Gl.costN m ch j = n := ⟨_, rfl⟩
          rw [hn] at hS hl ⊢
          have HS' := Lib.hid hS
          clear hS hn
          cases da <;> cases db
          all_goals
            go_wp2
            go_round
            case rel => exact ⟨j + 1, by omega, by go_num, by rw [HS'.out]; simp⟩
            case measure => simp [intOf]; omega
        · obtain rfl : j = 35 := by omega
          have hcl := HL.out ch 35
          have HCA : Hid (Gl.costN m ch 35 = Gl.cost m ch) := Lib.hid (Gl.costN_all m ch)
          have hown3 := HO3.out
          have hlen : (pr.take i).length ≤ 62 := by rw [List.length_take]; omega
          have hszW := HX3.out.size
          clear hj hlj
          go_wp2_with (at_builtin; refine append_k rfl _ _ 35 67 (.agg #[.int .u8 0, .int .i64 0]) 16 rfl Tryz.underlying35 info_choice rfl (by decide) (by decide) encC_len encC_one w2.heap.size _ (pr.take i) rfl (hown3.ext ((Ext.refl _).alloc _)) _ (ch, (Gl.costN m ch 35 : Int)) rfl ?c1 ?c2 ?c3 ?_)
          case c1 =>
            intro k r hk
            match k with
            | 0 => simp only [encC, List.getElem?_cons_zero, Option.some.injEq] at hk; subst hk; simp [go_sem, encB]
            | 1 => simp only [encC, List.getElem?_cons_succ, List.getElem?_cons_zero, Option.some.injEq] at hk; subst hk; simp [go_sem, encI]
            | k + 2 => simp [encC] at hk
          case c2 => omega
          case c3 => (try simp); omega
          intro v' w5 hown5 hg5
          have HX5 := Lib.hid ((HX3.out.alloc _).ofGrown hg5 hown3.low)
          have HO5 := Lib.hid hown5
          clear hown3 hg5 hown5
          go_wp2
          go_roundw
          case rel => exact ⟨i + 1, by omega, by go_num, by rw [HPRc.out, ← HCA.out]; exact HO5.out, HX5.out⟩
          case measure => simp [intOf]; omega
    · obtain rfl : i = 62 := by omega
      rw [HP0.out.1] at hown
      rcases hown.form with ⟨h0, _⟩ | ⟨g, cap, rfl, hg1, hg2⟩
      · have := HP0.out.2; rw [h0] at this; simp at this
      have h62 := HP0.out.2
      have hcap : 62 ≤ cap := by
        have h5 := hown.2
        rcases h5 with ⟨h6, _⟩ | ⟨g', cap', cur, h6, _, _, h7, _⟩
        · simp at h6
        · injection h6 with _ _ h8
          omega
      have HSO := Lib.hid (sortM_any hown (by omega))
      rw [h62] at HSO
      have HX := Lib.hid (HX2.out.trans hxr)
      rw [h62]
      clear hown hxr hi hlt
      go_wp2_with fail
      refine HSO.out.mono ?_
      rintro e w6 ⟨rfl, hk1, hk2, hk3⟩
      have HK1 := Lib.hid (hk1 w HX.out (by omega))
      have HK3 := Lib.hid hk3
      clear hk1 hk3
      go_wp2
      go_ret2
      exact ⟨g, cap, rfl, hcap, by omega, hk2, by rw [← HRK.out]; exact HK3.out, HK1.out⟩
end Go.Proofs.YtamkgbodifjlaaaGreatDoor
