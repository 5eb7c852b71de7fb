/-
  Chapter 48, the reference: Chars, Distance.
  No condition.
-/
import Derived.Test.YtamkgbodifjlaaaGreatDoorGlX2
import Derived.Test.YtamkgbodifjlaaaGreatDoorGlWx
import Derived.Test.YtamkgbodifjlaaaGreatDoorGlW7
import Derived.Test.YtamkgbodifjlaaaGreatDoorRelA
import Derived.Test.YtamkgbodifjlaaaGreatDoorApd

/-
  Chapter 48, the reference: Chars, Distance.
  No condition.
-/
namespace Go.Proofs.YtamkgbodifjlaaaGreatDoor
set_option linter.unusedVariables false
open Go.RowKit

set_option maxRecDepth 100000 in
set_option maxHeartbeats 1000000 in
theorem xchars_any (w : World) : Calls Tryz.prog 44 #[] w (OwnsB Gl.chars w) := by
  rw [← Gl.upTo_256]
  go_enter Tryz.func44, Tryz.ntmps44
  go_wp2
  go_loopw [1, 2] (fun v1 v2 wr => ∃ k : Nat, k ≤ 256 ∧ v2 = .int .i64 (k : Int) ∧ Own 5 wr w.heap.size v1 ((Gl.upTo k).map encB) ∧ Ext w wr) (fun _ v2 _ => 256 - (intOf v2).toNat)
  case atStart => exact ⟨0, Nat.zero_le _, rfl, Own.nil _ _ _, Ext.refl _⟩
  case round =>
    obtain ⟨k, hk, rfl, hown, hxr⟩ := hrel
    by_cases hlt : k < 256
    · have hmod : ((UInt8.ofNat k).toNat : Int) = (k : Int) := by
        rw [UInt8.toNat_ofNat']
        omega
      have hr := fun w => xrows_any (UInt8.ofNat k) w
      simp only [hmod] at hr
      have HU := Lib.hid (Gl.upTo_succ k)
      have hgl := Gl.upTo_len k
      generalize Gl.upTo k = got at *
      have hkk : Gl.kn k = Gl.known (UInt8.ofNat k) := by
        have := (UInt8.ofNat k).toNat_lt
        unfold Gl.kn Gl.known
        rw [show (UInt8.ofNat k).toNat = k by omega]
      obtain ⟨u, hu⟩ : ∃ u, UInt8.ofNat k = u := ⟨_, rfl⟩
      by_cases hb : Gl.kn k = true
      · rw [show Gl.rowS (UInt8.ofNat k) = Gl.txt (UInt8.ofNat k) by unfold Gl.rowS; rw [← hkk, hb]; rfl] at hr
        have HU2 : Hid (Gl.upTo (k + 1) = got ++ [u]) := Lib.hid (by rw [HU.out, if_pos hb, hu])
        rw [hu] at hr hmod
        have he : (bS (Gl.txt u)).toList.isEmpty = false := by
          rw [Lib.toList_data, bS_list, List.isEmpty_eq_false_iff]
          intro h
          have := Gl.txt_len u
          rw [h] at this
          cases this
        have HR := Lib.hid hr
        have HM := Lib.hid hmod
        generalize bS (Gl.txt u) = X at *
        clear HU hb hu hmod hr hkk
        go_wp2_with fail
        refine (HR.out _).mono ?_
        rintro e w1 ⟨rfl, rfl⟩
        go_wp2_with (at_builtin; refine append_byte rfl _ _ rfl w.heap.size _ got rfl (hown.alloc _) _ u rfl ?c1 ?c2 ?c3 ?_)
        case c1 => rw [show encB u = .int .u8 (k : Int) from by unfold encB; rw [HM.out]]; simp [go_sem]
        case c2 => omega
        case c3 => have := hxr.size; simp; omega
        intro v' w5 hown5 hg5
        have hx5 := (hxr.alloc _).ofGrown hg5 hown.low
        clear hown hg5
        go_wp2
        go_roundw
        case rel => exact ⟨k + 1, by omega, by go_num, by rw [HU2.out, List.map_append]; exact hown5, hx5⟩
        case measure => simp [intOf]; omega
      · have hb : Gl.kn k = false := by simpa using hb
        rw [show Gl.rowS (UInt8.ofNat k) = [] by unfold Gl.rowS; rw [← hkk, hb]; rfl] at hr
        have HU2 : Hid (Gl.upTo (k + 1) = got) := Lib.hid (by rw [HU.out, hb]; simp)
        have HR := Lib.hid hr
        have he : (bS []).toList.isEmpty = true := by rw [Lib.toList_data, bS_list]; rfl
        clear HU hb hr hu hmod hkk
        go_wp2_with fail
        refine (HR.out _).mono ?_
        rintro e w1 ⟨rfl, rfl⟩
        go_wp2
        go_roundw
        case rel => exact ⟨k + 1, by omega, by go_num, by rw [HU2.out]; exact hown, hxr⟩
        case measure => simp [intOf]; omega
    · obtain rfl : k = 256 := by omega
      clear hk hlt
      go_wp2
      go_ret
      exact ⟨_, rfl, hown, hxr⟩
set_option maxRecDepth 100000 in
set_option maxHeartbeats 2000000 in
theorem xdist_any (a b : UInt8) (ha : Gl.known a = true) (hb : Gl.known b = true) (w : World) :
    Calls Tryz.prog 47 #[.int .u8 (a.toNat : Int), .int .u8 (b.toNat : Int)] w fun e w' => e = .returned (.tuple #[.int .i64 (Gl.dist a b : Int), .int .i64 0]) ∧ Ext w w' := by
  have HA := Lib.hid (xglyph_any a ha)
  have HB := Lib.hid (xglyph_any b hb)
  rw [← Gl.diffs_all]
  have HS := Lib.hid (Gl.diffs_succ a b)
  have HL := Lib.hid (Gl.diffs_le a b)
  obtain ⟨D, hD⟩ : ∃ D, Gl.diffs a b = D := ⟨_, rfl⟩
  have HD0 : Hid (D 0 = 0) := Lib.hid (by rw [← hD]; rfl)
  rw [hD] at HS HL ⊢
  clear hD ha hb
  go_enter Tryz.func47, Tryz.ntmps47
  go_wp2_with fail
  refine (HA.out _).mono ?_
  rintro e w1 ⟨v1, rfl, hown1, hx1⟩
  obtain ⟨g1, p1, rfl, h11, h12, hc1⟩ := hown1.pix
  have HC1 := Lib.hid hc1
  clear hown1 hc1
  go_wp2_with fail
  refine (HB.out _).mono ?_
  rintro e w2 ⟨v2, rfl, hown2, hx2⟩
  obtain ⟨g2, p2, rfl, h21, h22, hc2⟩ := hown2.pix
  have HC2 := Lib.hid hc2
  have HR1 := Lib.hid (row_new rfl hx2)
  have hxw : Ext w w2 := hx1.trans hx2.before
  have HX := Lib.hid (hxw.alloc (.cells #[.int .i64 5, .int .i64 7, .slice (some ⟨g2, 0, none⟩) 35 p2] 24))
  have hx12 := hx2.before
  have HC1' := Lib.hid (HC1.out _ (hx12.alloc (.cells #[.int .i64 5, .int .i64 7, .slice (some ⟨g2, 0, none⟩) 35 p2] 24)))
  have HC2' := Lib.hid (HC2.out _ ((Ext.refl w2).alloc (.cells #[.int .i64 5, .int .i64 7, .slice (some ⟨g2, 0, none⟩) 35 p2] 24)))
  have HQ1 := Lib.hid (row_on HR1.out ((Ext.refl w2).alloc (.cells #[.int .i64 5, .int .i64 7, .slice (some ⟨g2, 0, none⟩) 35 p2] 24)))
  have HQ2 := Lib.hid (heap_alloc_new w2 (.cells #[.int .i64 5, .int .i64 7, .slice (some ⟨g2, 0, none⟩) 35 p2] 24))
  obtain ⟨W, hW⟩ : ∃ W, w2.alloc (.cells #[.int .i64 5, .int .i64 7, .slice (some ⟨g2, 0, none⟩) 35 p2] 24) = W := ⟨_, rfl⟩
  rw [hW] at HX HC1' HC2' HQ1 HQ2
  have HW := Lib.hid hW
  clear hW hown2 hc2 hx1 hx2 hxw hx12 HC1 HC2 HR1
  go_wp2
  rw [HW.out]
  go_loopw [10, 11] (fun v9 v31 wr => ∃ k : Nat, k ≤ 35 ∧ v31 = .int .i64 (k : Int) ∧ v9 = .int .i64 (D k : Int) ∧ ∃ q, wr = W.drewN q) (fun _ v31 _ => 35 - (intOf v31).toNat)
  case atStart => exact ⟨0, Nat.zero_le _, rfl, by rw [HD0.out]; rfl, 0, rfl⟩
  case round =>
    obtain ⟨k, hk, rfl, rfl, q, rfl⟩ := hrel
    have q1 := cell_at HQ1.out (i := 2) rfl
    have q2 := cell_at HQ2.out (i := 2) rfl
    by_cases hlt : k < 35
    · have c1 := HC1'.out k hlt
      have c2 := HC2'.out k hlt
      have hS := HS.out k
      have hl := HL.out k
      generalize Gl.bitAt (Gl.code a) k = da at *
      generalize Gl.bitAt (Gl.code b) k = db at *
      obtain ⟨n, hn⟩ : ∃ n, D k = n := ⟨_, rfl⟩
      rw [hn] at hS hl ⊢
      have HS' := Lib.hid hS
      clear hS hn
      cases da <;> cases db
      all_goals
        go_wp2
        go_quiet (fail)
        go_wp2
        go_roundw
        case rel => exact ⟨k + 1, by omega, by go_num, by rw [HS'.out]; simp, _, rfl⟩
        case measure => simp [intOf]; omega
    · obtain rfl : k = 35 := by omega
      clear hk hlt q1 q2
      go_wp2
      go_ret2
      exact ⟨rfl, HX.out.drewN _⟩
end Go.Proofs.YtamkgbodifjlaaaGreatDoor

/-
  Chapter 48, the reference: cost.
  Condition: a bitmap of 5 by 7 pixels.
-/
namespace Go.Proofs.YtamkgbodifjlaaaGreatDoor
open Go.RowKit

set_option maxRecDepth 100000 in
set_option maxHeartbeats 2000000 in
theorem xcost_any (b off c : Nat) (m : List Bool) (ch : UInt8) (hk : Gl.known ch = true) (w : World) (hpx : ∀ w', Ext w w' → ∀ i, i < 35 → w'.cell? ⟨b, off + i, none⟩ = some (.bool (m.getD i false))) :
    Calls Tryz.prog 45 #[.agg #[.int .i64 5, .int .i64 7, .slice (some ⟨b, off, none⟩) 35 c], .int .u8 (ch.toNat : Int)] w fun e w' => e = .returned (.int .i64 (Gl.cost m ch : Int)) ∧ Ext w w' := by
  have HA := Lib.hid (xglyph_any ch hk)
  rw [← Gl.costN_all]
  have HS := Lib.hid (Gl.costN_succ m ch)
  have HL := Lib.hid (Gl.costN_le m ch)
  obtain ⟨D, hD⟩ : ∃ D, Gl.costN m ch = D := ⟨_, rfl⟩
  have HD0 : Hid (D 0 = 0) := Lib.hid (by rw [← hD]; rfl)
  rw [hD] at HS HL ⊢
  have HPX := Lib.hid hpx
  clear hD hk hpx
  go_enter Tryz.func45, Tryz.ntmps45
  go_wp2_with fail
  refine (HA.out _).mono ?_
  rintro e w1 ⟨v1, rfl, hown1, hx1⟩
  obtain ⟨g1, p1, rfl, h11, h12, hc1⟩ := hown1.pix
  have HR0 := Lib.hid (row_on (row_new rfl hx1) ((Ext.refl w1).alloc (.cells #[.int .i64 5, .int .i64 7, .slice (some ⟨g1, 0, none⟩) 35 p1] 24)))
  have HX := Lib.hid (hx1.before.alloc (.cells #[.int .i64 5, .int .i64 7, .slice (some ⟨g1, 0, none⟩) 35 p1] 24))
  have HC1 := Lib.hid (hc1 _ ((Ext.refl w1).alloc (.cells #[.int .i64 5, .int .i64 7, .slice (some ⟨g1, 0, none⟩) 35 p1] 24)))
  have HQ2 := Lib.hid (heap_alloc_new w1 (.cells #[.int .i64 5, .int .i64 7, .slice (some ⟨g1, 0, none⟩) 35 p1] 24))
  obtain ⟨W, hW⟩ : ∃ W, w1.alloc (.cells #[.int .i64 5, .int .i64 7, .slice (some ⟨g1, 0, none⟩) 35 p1] 24) = W := ⟨_, rfl⟩
  rw [hW] at HX HC1 HQ2 HR0
  have HPW := Lib.hid (HPX.out W HX.out)
  have HW := Lib.hid hW
  clear hW hown1 hc1 hx1 h11 h12
  go_wp2
  rw [HW.out]
  go_loopw [7, 8] (fun v9 v31 wr => ∃ k : Nat, k ≤ 35 ∧ v31 = .int .i64 (k : Int) ∧ v9 = .int .i64 (D k : Int) ∧ ∃ q, wr = W.drewN q) (fun _ v31 _ => 35 - (intOf v31).toNat)
  case atStart => exact ⟨0, Nat.zero_le _, rfl, by rw [HD0.out]; rfl, 0, rfl⟩
  case round =>
    obtain ⟨k, hk, rfl, rfl, q, rfl⟩ := hrel
    have q1 := cell_at HR0.out (i := 2) rfl
    have q2 := cell_at HQ2.out (i := 2) rfl
    by_cases hlt : k < 35
    · have c1 := HPW.out k hlt
      have c2 := HC1.out k hlt
      have hS := HS.out k
      have hl := HL.out k
      generalize m.getD k false = da at *
      generalize Gl.bitAt (Gl.code ch) k = db at *
      obtain ⟨n, hn⟩ : ∃ n, D k = n := ⟨_, rfl⟩
      rw [hn] at hS hl ⊢
      have HS' := Lib.hid hS
      clear hS hn
      cases da <;> cases db
      all_goals
        go_wp2
        go_quiet (fail)
        go_wp2
        go_roundw
        case rel => exact ⟨k + 1, by omega, by go_num, by rw [HS'.out]; simp, _, rfl⟩
        case measure => simp [intOf]; omega
    · obtain rfl : k = 35 := by omega
      clear hk hlt
      go_wp2
      go_ret
      exact ⟨rfl, HX.out.drewN _⟩
end Go.Proofs.YtamkgbodifjlaaaGreatDoor

/-
  Chapter 48, the reference: Match.
  Condition: a bitmap of 5 by 7 pixels.
-/
namespace Go.Proofs.YtamkgbodifjlaaaGreatDoor
open Go.RowKit

theorem info_int1 : (Tryz.prog.info? 3).map (fun i => (i.zero, i.size, i.bytes)) = some (some (.int .i64 0), 1, 8) := by kernel_rfl
/-- The prices of the first characters. -/
def Gl.prices (m : List Bool) : List Int := Gl.chars.map fun c => (Gl.cost m c : Int)
theorem Gl.prices_succ (m : List Bool) (i : Nat) (c : UInt8) (h : Gl.chars[i]? = some c) : (Gl.prices m).take (i + 1) = (Gl.prices m).take i ++ [(Gl.cost m c : Int)] := by
  have : (Gl.prices m)[i]? = some (Gl.cost m c : Int) := by simp [Gl.prices, h]
  rw [List.take_add_one, this]
  rfl
/-- The characters of cost n among the first i. -/
def Gl.level (m : List Bool) (n i : Nat) : List Gl.Ch := ((Gl.chars.take i).filter fun c => Gl.cost m c == n).map fun c => (c, (n : Int))
theorem Gl.level_succ (m : List Bool) (n i : Nat) (c : UInt8) (h : Gl.chars[i]? = some c) : Gl.level m n (i + 1) = Gl.level m n i ++ if Gl.cost m c == n then [(c, (n : Int))] else [] := by
  unfold Gl.level
  rw [List.take_add_one, h, Option.toList_some, List.filter_append, List.map_append]
  congr 1
  cases hb : Gl.cost m c == n <;> simp [hb]
def Gl.upto (m : List Bool) (n : Nat) : List Gl.Ch := (List.range n).flatMap fun k => Gl.level m k 62
theorem Gl.upto_succ (m : List Bool) (n : Nat) : Gl.upto m (n + 1) = Gl.upto m n ++ Gl.level m n 62 := by
  unfold Gl.upto
  rw [List.range_succ, List.flatMap_append]
  simp
theorem Gl.upto_all (m : List Bool) : Gl.upto m 36 = Gl.ranked m := by
  unfold Gl.upto Gl.ranked Gl.level
  rw [List.take_of_length_le (by decide)]
theorem Gl.level_len (m : List Bool) (n i : Nat) : (Gl.level m n i).length ≤ 62 := by
  unfold Gl.level
  rw [List.length_map]
  exact Nat.le_trans (List.length_filter_le ..) (Nat.le_trans (List.length_take_le' ..) (by decide))
theorem Gl.upto_len (m : List Bool) (n : Nat) : (Gl.upto m n).length ≤ 62 * n := by
  induction n with
  | zero => simp [Gl.upto]
  | succ n ih => have := Gl.level_len m n 62; rw [Gl.upto_succ, List.length_append]; omega
/-- Choices of the call's own, and no error. -/
def OwnsC (xs : List Gl.Ch) (w : World) (e : Ending) (w' : World) : Prop := ∃ v, e = .returned (.tuple #[v, .int .i64 0]) ∧ KOwn 67 2 encC w' w.heap.size v xs ∧ Ext w w'
set_option maxRecDepth 100000 in
set_option maxHeartbeats 4000000 in
theorem xmatch_any (v : Value) (m : List Bool) (w : World) (hv : SlK w v (m.map encT)) (hm : m.length = 35) : Calls Tryz.prog 17 #[.agg #[.int .i64 5, .int .i64 7, v]] w (OwnsC (Gl.ranked m) w) := by
  obtain ⟨b, off, c, rfl, hc, hb, hpx⟩ := hv.px (by omega)
  rw [hm] at hc hpx ⊢
  have HPX := Lib.hid hpx
  have HCK := Lib.hid (fun W1 => xcheck_any 5 7 (some ⟨b, off, none⟩) 35 c W1 (by unfold maxLen; omega))
  rw [show Gl.valid 5 7 35 = true from by decide, if_pos rfl] at HCK
  have HCH := Lib.hid xchars_any
  have HKN : Hid (∀ c ∈ Gl.chars, Gl.known c = true) := Lib.hid (fun c hc => by rw [Gl.known_mem]; exact decide_eq_true hc)
  have HPR := Lib.hid (Gl.prices_succ m)
  have HPL : Hid ((Gl.prices m).take 62 = Gl.prices m ∧ ∀ (i : Nat) ch, Gl.chars[i]? = some ch → (Gl.prices m)[i]? = some (Gl.cost m ch : Int)) := Lib.hid ⟨List.take_of_length_le (by simp [Gl.prices, Gl.chars_len]), fun i ch h => by simp [Gl.prices, h]⟩
  have HLV := Lib.hid (Gl.level_succ m)
  have HLL := Lib.hid (Gl.level_len m)
  have HUS := Lib.hid (Gl.upto_succ m)
  have HUL := Lib.hid (Gl.upto_len m)
  have HL0 : Hid (∀ n, Gl.level m n 0 = []) := Lib.hid (fun n => rfl)
  have HU0 : Hid (Gl.upto m 0 = []) := Lib.hid rfl
  have HCB := Lib.hid (Gl.cost_le m)
  rw [← Gl.upto_all]
  clear hpx hv hm
  generalize hpr : Gl.prices m = pr at *
  clear hpr
  generalize hlv : Gl.level m = lv at *
  clear hlv
  generalize hut : Gl.upto m = ut at *
  clear hut
  go_enter Tryz.func17, Tryz.ntmps17
  go_wp2_with fail
  refine (HCK.out _).mono ?_
  rintro e w1 ⟨rfl, hx1⟩
  have HM1 := Lib.hid (row_new rfl hx1)
  have m0 := cell_at HM1.out (i := 0) rfl
  have m1 := cell_at HM1.out (i := 1) rfl
  have hxw1 := hx1.before
  clear hx1
  go_wp2_with fail
  refine (HCH.out _).mono ?_
  rintro e w2 ⟨vc, rfl, hownc, hx2⟩
  obtain ⟨gc, cc, rfl, hgc1, hgc2, hcc⟩ := hownc.bytesAt (by decide)
  rw [Gl.chars_len]
  have HCC := Lib.hid hcc
  have HM := Lib.hid (row_on HM1.out hx2)
  have HX2 := Lib.hid (hxw1.trans hx2)
  have HB0 := Lib.hid (show w.heap.size < w2.heap.size from lt_at HM.out)
  have HCO : Hid (∀ (i : Nat) ch, Gl.chars[i]? = some ch → ∀ w', Ext w2 w' → Calls Tryz.prog 45 #[.agg #[.int .i64 5, .int .i64 7, .slice (some ⟨b, off, none⟩) 35 c], .int .u8 (ch.toNat : Int)] w' fun e w'' => e = .returned (.int .i64 (Gl.cost m ch : Int)) ∧ Ext w' w'') :=
    Lib.hid (fun i ch hi w' hx => xcost_any b off c m ch (HKN.out ch (List.mem_of_getElem? hi)) w' fun w'' hx' => HPX.out w'' (HX2.out.trans (hx.trans hx')))
  obtain ⟨b0, hb0⟩ : ∃ b0, w.heap.size = b0 := ⟨_, rfl⟩
  rw [hb0] at HM HB0 ⊢
  have HBB := Lib.hid hb0
  clear m0 m1 hxw1 hx2 hcc hownc HM1 hb0 HKN HCK HCH HPX
  go_wp2
  go_loopw [5, 6] (fun v5 v6 wr => ∃ i : Nat, i ≤ 62 ∧ v6 = .int .i64 (i : Int) ∧ KOwn 3 1 encI1 wr w2.heap.size v5 (pr.take i) ∧ Ext w2 wr) (fun _ v6 _ => 62 - (intOf v6).toNat)
  case atStart => exact ⟨0, Nat.zero_le _, rfl, KOwn.nil _ _ _ _ _, Ext.refl _⟩
  case round =>
    obtain ⟨i, hi, rfl, hown, hxr⟩ := hrel
    by_cases hlt : i < 62
    · obtain ⟨ch, hch⟩ : ∃ ch, Gl.chars[i]? = some ch := ⟨_, List.getElem?_eq_getElem (by rw [Gl.chars_len]; exact hlt)⟩
      have HCO' := Lib.hid (HCO.out i ch hch)
      have HPRc := Lib.hid (HPR.out i ch hch)
      have hown' := hown
      have hln : (pr.take i).length ≤ 62 := Nat.le_trans (List.length_take_le ..) (by omega)
      have hib : (i : Int) < 62 := by omega
      go_wp2
      refine wp_region_rel 8 2 rfl [28, 29, 30, 31, 32, 33, 34, 35] [[], [], [], [], [2, 3], [4], [1, 5], [6]] (by kernel_rfl) (by kernel_rfl) ?_
      apply relPlan_eq'
      · intro V w' hx hf
        with_reducible refine relAt_ops ?_
        intro A ρ hA hρ hcst hfun
        have h5 : ρ (.tmp 5) = u5 := (congrFun hρ _).trans (evalMiss hA 5 rfl)
        exact relUpon_move (hk := by rw [h5]; exact ⟨Ext.refl _, rfl⟩)
      refine relPlan_by (eqv (.agg #[.int .i64 5, .int .i64 7, .slice (some ⟨b, off, none⟩) 35 c])) (eqv_stable _) ?_ ?_
      · intro V w' hx hf
        with_reducible refine relAt_ops ?_
        intro A ρ hA hρ hcst hfun
        have h1 : ρ (.tmp 1) = .pointer (some ⟨b0, 0, none⟩) := (congrFun hρ _).trans (evalMiss hA 1 rfl)
        have HMw := row_on HM.out (hxr.trans hx)
        have q0 := cell_at HMw (i := 0) rfl
        have q1 := cell_at HMw (i := 1) rfl
        have q2 := cell_at HMw (i := 2) rfl
        simp [relUpon, go_sem, Ext.refl, h1, q0,q1,q2]
        try rfl
      apply relPlan_eq'
      · intro V w' hx hf
        with_reducible refine relAt_ops ?_
        intro A ρ hA hρ hcst hfun
        have h4 : ρ (.tmp 4) = .slice (some ⟨gc, 0, none⟩) 62 cc := (congrFun hρ _).trans (evalMiss hA 4 rfl)
        exact relUpon_move (hk := by rw [h4]; exact ⟨Ext.refl _, rfl⟩)
      apply relPlan_eq'
      · intro V w' hx hf
        with_reducible refine relAt_ops ?_
        intro A ρ hA hρ hcst hfun
        have h6 : ρ (.tmp 6) = .int .i64 (i : Int) := (congrFun hρ _).trans (evalMiss hA 6 rfl)
        exact relUpon_move (hk := by rw [h6]; exact ⟨Ext.refl _, rfl⟩)
      apply relPlan_eq'
      · intro V w' hx hf
        with_reducible refine relAt_ops ?_
        intro A ρ hA hρ hcst hfun
        obtain ⟨f30, f31, _⟩ := hf
        have h30 : ρ (.tmp 30) = _ := (congrFun hρ _).trans ((evalHit hA 30 rfl).trans f30)
        have h31 : ρ (.tmp 31) = _ := (congrFun hρ _).trans ((evalHit hA 31 rfl).trans f31)
        simp [relUpon, go_sem, Ext.refl, h30, h31, hib]
        rfl
      refine relPlan_by (eqv (.int .u8 (ch.toNat : Int))) (eqv_stable _) ?_ ?_
      · intro V w' hx hf
        with_reducible refine relAt_ops ?_
        intro A ρ hA hρ hcst hfun
        obtain ⟨f32, _⟩ := hf
        have h32 : ρ (.tmp 32) = _ := (congrFun hρ _).trans ((evalHit hA 32 rfl).trans f32)
        have q := HCC.out w' (hxr.trans hx) i ch hch
        simp [relUpon, go_sem, Ext.refl, h32, q]
        rfl
      refine relPlan_by (eqv (.int .i64 (Gl.cost m ch : Int))) (eqv_stable _) ?_ ?_
      · intro V w' hx hf
        with_reducible refine relAt_ops ?_
        intro A ρ hA hρ hcst hfun
        obtain ⟨f29, f33, _⟩ := hf
        have h29 : ρ (.tmp 29) = _ := (congrFun hρ _).trans ((evalHit hA 29 rfl).trans f29)
        have h33 : ρ (.tmp 33) = _ := (congrFun hρ _).trans ((evalHit hA 33 rfl).trans f33)
        simp [relUpon, go_sem, hfun, h29, h33]
        exact (HCO'.out w' (hxr.trans hx)).mono fun e w'' ⟨he, hy⟩ => ⟨_, he, hy, rfl⟩
      refine relPlan_by (oneAt encI1 (Gl.cost m ch : Int)) (fun _ _ _ h hx => h.ext hx) ?_ ?_
      · intro V w' hx hf
        with_reducible refine relAt_ops ?_
        intro A ρ hA hρ hcst hfun
        obtain ⟨f34, _⟩ := hf
        have h34 : ρ (.tmp 34) = _ := (congrFun hρ _).trans ((evalHit hA 34 rfl).trans f34)
        simp [relUpon, go_sem, h34]
        exact ⟨(Ext.refl _).alloc _, oneAt.new _ _ _ rfl⟩
      intro V wT hxT hf
      obtain ⟨g28, g29, g30, g31, g32, g33, g34, g35, _⟩ := hf
      refine wpAny_tail2 8 36 5 _ _ (by kernel_rfl) rfl rfl (by kernel_rfl) rfl rfl (.inr rfl) (by kernel_rfl) rfl rfl rfl (fun K hK => ?_)
      obtain ⟨b1, e35, hb1, hc1⟩ := g35
      refine wp_append_k (.tmp 28) (.tmp 35) 57 3 (.int .i64 0) 8 rfl Tryz.underlying57 info_int1 rfl (by decide) (by decide) encI1_len encI1_one w2.heap.size u5 (pr.take i) ((evalHit rfl 28 rfl).trans g28) (hown.ext hxT) b1 (Gl.cost m ch : Int) ((evalHit rfl 35 rfl).trans e35) hc1 (by omega) (hxr.trans hxT).size ?_
      intro v' w5 hown5 hg5 _
      refine hK _ _ ?_
      simp only [fillA, List.foldl_cons, List.foldl_nil, Act.put, List.setIfInBounds_toArray, List.set_cons_succ, List.set_cons_zero]
      have hx5 := (hxr.trans hxT).ofGrown hg5 (fun k hk => hown.low k hk)
      clear g28 g29 g30 g31 g32 g33 g34 e35 hown hg5 hown'
      go_wp2
      go_roundw
      case rel => exact ⟨i + 1, by omega, by go_num, by rw [HPRc.out]; exact hown5, hx5⟩
      case measure => simp [intOf]; omega
    · have e62 : i = 62 := by omega
      rw [e62, HPL.out.1] at hown
      clear e62
      have hpl : pr.length = 62 := by
        have h1 := HPL.out.2 61
        have h2 := congrArg List.length HPL.out.1
        have h3 := (List.getElem?_eq_some_iff.1 (h1 95 (by decide))).1
        rw [List.length_take] at h2
        omega
      rcases hown.form with ⟨h0, _⟩ | ⟨gp, cp, rfl, hg1, hg2⟩
      · rw [h0] at hpl; cases hpl
      have hsl := hown.sl encI1_len
      have HPC : Hid (∀ w', Ext wr w' → ∀ (i : Nat) ch, Gl.chars[i]? = some ch → w'.cell? ⟨gp, i, none⟩ = some (.int .i64 (Gl.cost m ch : Int))) := Lib.hid (fun w' hx i ch hi => by
        obtain ⟨b3, o3, he3, _, hcl⟩ := hsl.at_ (i := i) (HPL.out.2 i ch hi)
        simp only [Option.some.injEq, Addr.mk.injEq, and_true] at he3
        obtain ⟨rfl, rfl⟩ := he3
        have := hcl 0 (by omega)
        rw [Nat.zero_add, Nat.mul_one, Nat.add_zero] at this
        rw [hx.cell (p := ⟨gp, i, none⟩) hg2, this]
        rfl)
      rw [hpl]
      have HX2' := Lib.hid (HX2.out.trans hxr)
      have HCC' := Lib.hid (fun w' (hx : Ext wr w') => HCC.out w' (hxr.trans hx))
      have hszr := HX2'.out.size
      clear hown hsl hi hpl HCC hxr HCO HM
      obtain ⟨wa, hwa⟩ : ∃ wa, wa = wr := ⟨_, rfl⟩
      subst hwa
      go_wp2
      go_loopw [7, 8] (fun v7 v8 wq => ∃ n : Nat, n ≤ 36 ∧ v8 = .int .i64 (n : Int) ∧ KOwn 67 2 encC wq wa.heap.size v7 (ut n) ∧ Ext wa wq) (fun _ v8 _ => 36 - (intOf v8).toNat)
      case atStart => exact ⟨0, Nat.zero_le _, rfl, by rw [HU0.out]; exact KOwn.nil _ _ _ _ _, Ext.refl _⟩
      case round =>
        obtain ⟨n, hn, rfl, hown, hxq⟩ := hrel
        by_cases hlt : n < 36
        · have dn : decide ((n : Int) ≤ 35) = true := decide_eq_true (by omega)
          have hul := HUL.out n
          have HUn := Lib.hid (HUS.out n)
          have HLn := Lib.hid (HLV.out n)
          have HLLn := Lib.hid (HLL.out n)
          have HL0n := Lib.hid (HL0.out n)
          generalize ut n = A at *
          generalize lv n = lvn at *
          obtain ⟨wb, hwb⟩ : ∃ wb, wb = wr := ⟨_, rfl⟩
          subst hwb
          go_wp2
          go_loopw [7, 9] (fun v7 v9 wp => ∃ i : Nat, i ≤ 62 ∧ v9 = .int .i64 (i : Int) ∧ KOwn 67 2 encC wp wa.heap.size v7 (A ++ lvn i) ∧ Ext wa wp) (fun _ v9 _ => 62 - (intOf v9).toNat)
          case atStart => exact ⟨0, Nat.zero_le _, rfl, by rw [HL0n.out, List.append_nil]; exact hown, hxq⟩
          case round =>
            clear hown
            obtain ⟨i, hi, rfl, hown, hxp⟩ := hrel
            by_cases hli : i < 62
            · obtain ⟨ch, hch⟩ : ∃ ch, Gl.chars[i]? = some ch := ⟨_, List.getElem?_eq_getElem (by rw [Gl.chars_len]; exact hli)⟩
              have hc1 := HCC'.out _ hxp i ch hch
              have hc2 := HPC.out _ hxp i ch hch
              have hsu := HLn.out i ch hch
              have hcb := HCB.out ch
              have hll := HLLn.out i
              clear hch
              obtain ⟨k, hk⟩ : ∃ k, Gl.cost m ch = k := ⟨_, rfl⟩
              rw [hk] at hc2 hsu hcb
              clear hk
              by_cases hkn : k = n
              · subst hkn
                have HSU : Hid (A ++ lvn (i + 1) = (A ++ lvn i) ++ [(ch, (k : Int))]) := Lib.hid (by rw [hsu]; simp)
                have hal : (A ++ lvn i).length ≤ 62 * k + 62 := by rw [List.length_append]; omega
                generalize A ++ lvn i = got at *
                clear hsu
                have hszp := hxp.size
                go_wp2_with (at_builtin; refine append_k rfl _ _ 35 67 (.agg #[.int .u8 0, .int .i64 0]) 16 rfl Tryz.underlying35 info_choice rfl (by decide) (by decide) encC_len encC_one wa.heap.size _ got rfl (hown.ext ((Ext.refl _).alloc _)) _ (ch, (k : Int)) rfl ?c1 ?c2 ?c3 ?_)
                case c1 =>
                  intro j r hj
                  match j with
                  | 0 => simp only [encC, List.getElem?_cons_zero, Option.some.injEq] at hj; subst hj; simp [go_sem, encB]
                  | 1 => simp only [encC, List.getElem?_cons_succ, List.getElem?_cons_zero, Option.some.injEq] at hj; subst hj; simp [go_sem, encI]
                  | j + 2 => simp [encC] at hj
                case c2 => omega
                case c3 => (try simp); omega
                intro v' w5 hown5 hg5
                have hx5 := (hxp.alloc _).ofGrown hg5 hown.low
                clear hown hg5
                go_wp2
                go_roundw
                case rel => exact ⟨i + 1, by omega, by go_num, by rw [HSU.out]; exact hown5, hx5⟩
                case measure => simp [intOf]; omega
              · have HSU : Hid (lvn (i + 1) = lvn i) := Lib.hid (by rw [hsu, if_neg (by simpa using hkn), List.append_nil])
                have hne : ((k : Int) == (n : Int)) = false := by simp; omega
                clear hsu
                go_wp2
                go_roundw
                case rel => exact ⟨i + 1, by omega, by go_num, by rw [HSU.out]; exact hown, hxp⟩
                case measure => simp [intOf]; omega
            · have e62 : i = 62 := by omega
              rw [e62] at hown
              clear hi e62
              go_wp2
              go_roundw
              case rel => exact ⟨n + 1, by omega, by go_num, by rw [HUn.out]; exact hown, hxp⟩
              case measure => simp [intOf]; omega
        · obtain rfl : n = 36 := by omega
          have HXX := Lib.hid (HX2'.out.trans hxq)
          clear hn hlt hxq
          go_wp2
          go_ret2
          exact ⟨_, rfl, hown.mono (by rw [HBB.out]; exact Nat.le_trans (Nat.le_of_lt HB0.out) (by omega)), HXX.out⟩
end Go.Proofs.YtamkgbodifjlaaaGreatDoor
