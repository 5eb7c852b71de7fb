/-
  Chapter 14: verify, walked.
  Condition: the map is the table of application identifiers.
-/
import Derived.Test.YteojfkffmbcedaaGreatDoorGsW2
import Derived.Test.YteojfkffmbcedaaGreatDoorGsW4
namespace Go.Proofs.YteojfkffmbcedaaGreatDoor
open Go.RowKit Go.WideMaps Go.Maps

/-- What all rules keep. -/
def Gs.RuleOk (r : Gs.Rule) : Prop := 0 ≤ r.1 ∧ r.1 ≤ 3 ∧ 1 ≤ r.2.1 ∧ r.2.1 ≤ r.2.2.1 ∧ r.2.2.1 ≤ 90 ∧ (r.1 = 2 → r.2.1 = 6 ∧ r.2.2.1 = 6) ∧ (r.1 = 1 → r.2.1 = r.2.2.1) ∧ (r.1 = 3 → r.2.1 = 1 ∧ 20 ≤ r.2.2.1)
instance (r : Gs.Rule) : Decidable (Gs.RuleOk r) := by unfold Gs.RuleOk; infer_instance
theorem dir_ok : ∀ p ∈ Gs.dir, Gs.RuleOk p.2 := by decide +kernel
theorem get_mem {l : List (List UInt8 × Gs.Rule)} {k : List UInt8} {r : Gs.Rule} (h : Gs.get l k = some r) : (k, r) ∈ l := by
  unfold Gs.get at h
  rw [Option.map_eq_some_iff] at h
  obtain ⟨p, hp, rfl⟩ := h
  have h1 := List.mem_of_find?_eq_some hp
  have h2 := List.find?_some hp
  have h3 : p.1 = k := by simpa using h2
  subst h3
  exact List.mem_reverse.1 h1
theorem find_ok {l : List UInt8} {r : Gs.Rule} (h : Gs.find l = some r) : Gs.RuleOk r := by
  have key2 : ∀ r', Gs.find2 l = some r' → Gs.RuleOk r' := by
    intro r' h'
    unfold Gs.find2 at h'
    split at h'
    · rename_i r1 h1
      split at h'
      · simp at h'
      · simp only [Option.some.injEq] at h'
        subst h'
        exact dir_ok _ (get_mem h1)
    · simp at h'
  unfold Gs.find at h
  split at h
  · rename_i r1 h1
    split at h
    · simp only [Option.some.injEq] at h
      subst h
      exact dir_ok _ (get_mem h1)
    · exact key2 _ h
  · split at h
    · simp at h
    · exact key2 _ h

def Gs.okc (k : Int) (c : UInt8) : Bool := Cd.isDig c.toNat || (k == 3 && Gs.charB c)
/-- The error of data under a rule. -/
def Gs.verR (r : Gs.Rule) (d : List UInt8) : Int :=
  if (d.length : Int) < r.2.1 ∨ r.2.2.1 < (d.length : Int) then 7
  else if d.all (Gs.okc r.1) = false then 6
  else if r.1 = 2 ∧ Gs.dateB d = false then 9
  else if r.1 = 1 ∧ Cd.verI 1 d ≠ 0 then 8
  else 0
def Gs.ver (ai d : List UInt8) : Int := match Gs.find ai with
  | none => 29
  | some r => Gs.verR r d
theorem okc_dig {k : Int} {l : List UInt8} (hk : k ≠ 3) (h : l.all (Gs.okc k) = true) : Cd.AllDig l := by
  intro c hc
  have := List.all_eq_true.1 h c hc
  unfold Gs.okc at this
  rw [show (k == 3) = false by simpa using hk] at this
  simp [Cd.isDig] at this
  omega

set_option maxRecDepth 100000 in
set_option maxHeartbeats 4000000 in
theorem verR_walk (ai d : ByteArray) (b : Nat) (w : World) (hd : Dir w b) (ha : ai.size ≤ maxLen) (hs : d.size ≤ maxLen) :
    Calls Tryz.prog 22 #[.map (some b), .agg #[.string ai, .string d]] w fun e w' => e = .returned (.int .i64 (Gs.ver ai.data.toList d.data.toList)) ∧ Ext w w' := by
  have HF := Lib.hid (fun o : Obj => find_any ai b (w.alloc o) (hd.ext ((Ext.refl w).alloc _)) ha)
  have HV := Lib.hid (Gs.ver.eq_1 ai.data.toList d.data.toList)
  generalize Gs.ver ai.data.toList d.data.toList = res at *
  have hmx : d.size ≤ 9223372036854775807 := hs
  cases hg : Gs.find ai.data.toList with
  | none =>
    rw [hg] at HV HF
    dsimp only at HV
    clear hg hd
    go_enter Tryz.func22, Tryz.ntmps22
    go_wp2_with fail
    refine (HF.out _).mono ?_
    rintro e w1 ⟨rfl, hx1⟩
    dsimp only [ruleO, ruleV, Option.isSome]
    go_wp2
    go_ret
    exact ⟨ret_int HV.out.symm, (((Ext.refl w).alloc _).trans hx1).alloc _⟩
  | some r =>
    rw [hg] at HV HF
    dsimp only at HV
    obtain ⟨k0, k3, l1, lh, h9, hk2, hk1, hk3⟩ := find_ok hg
    clear hg hd
    obtain ⟨k, lo, hi, sf⟩ := r
    dsimp only at k0 k3 l1 lh h9 hk2 hk1 hk3
    have HV2 := Lib.hid (HV.out.trans (Gs.verR.eq_1 (k, lo, hi, sf) d.data.toList))
    dsimp only at HV2
    rw [len_data] at HV2
    clear HV
    have HK := Lib.hid (And.intro hk2 hk1)
    clear hk2 hk1 hk3
    go_enter Tryz.func22, Tryz.ntmps22
    go_wp2_with fail
    refine (HF.out _).mono ?_
    rintro e w1 ⟨rfl, hx1⟩
    dsimp only [ruleO, ruleV, Option.isSome]
    clear HF
    have hbl : w.heap.size < w1.heap.size := by have := hx1.size; simp at this; omega
    have hx : Ext w (w1.alloc (.cells #[.int .i64 k, .int .i64 lo, .int .i64 hi, .int .u8 (sf.toNat : Int)] 38)) := (((Ext.refl w).alloc _).trans hx1).alloc _
    have cD : (w1.alloc (.cells #[.int .i64 k, .int .i64 lo, .int .i64 hi, .int .u8 (sf.toNat : Int)] 38)).cell? ⟨w.heap.size, 1, none⟩ = some (.string d) := by
      rw [((Ext.refl w1).alloc _).cell (p := ⟨w.heap.size, 1, none⟩) hbl, hx1.cell (p := ⟨w.heap.size, 1, none⟩) (by simp)]
      unfold World.cell?; rw [heap_alloc_new]; rfl
    have cK : (w1.alloc (.cells #[.int .i64 k, .int .i64 lo, .int .i64 hi, .int .u8 (sf.toNat : Int)] 38)).cell? ⟨w1.heap.size, 0, none⟩ = some (.int .i64 k) := by
      unfold World.cell?; rw [heap_alloc_new]; rfl
    have HX := Lib.hid hx
    clear hx1 hx
    by_cases c1 : (d.size : Int) < lo
    · have HR : Hid (res = 7) := Lib.hid (by rw [HV2.out, if_pos (.inl c1)])
      clear HV2
      go_wp2
      go_ret
      exact ⟨ret_int HR.out.symm, HX.out⟩
    have n1 : lo ≤ (d.size : Int) := by omega
    by_cases c2 : hi < (d.size : Int)
    · have HR : Hid (res = 7) := Lib.hid (by rw [HV2.out, if_pos (.inr c2)])
      clear HV2 c1
      go_wp2
      go_ret
      exact ⟨ret_int HR.out.symm, HX.out⟩
    have n2 : (d.size : Int) ≤ hi := by omega
    have HV3 := Lib.hid (HV2.out.trans (if_neg (by omega)))
    clear HV2 c1 c2
    go_wp2
    go_loop [35] (fun i => ∃ j : Nat, j ≤ d.size ∧ i = .int .i64 j ∧ Hid ((d.data.toList.take j).all (Gs.okc k) = true)) (fun i => d.size - (intOf i).toNat)
    case atStart => exact ⟨0, Nat.zero_le _, rfl, Lib.hid rfl⟩
    case round =>
      obtain ⟨j, hj, rfl, hal⟩ := hrel
      by_cases hlt : j < d.size
      · have HA := Lib.hid (all_take_succ d (Gs.okc k) j hlt)
        have HN := Lib.hid (all_false_at d (Gs.okc k) j hlt)
        cases hp : Cd.isDig (d[j].toNat : Int)
        · by_cases hk3 : k = 3
          · subst hk3
            cases hq : Gs.charB d[j]
            · have HR : Hid (res = 6) := Lib.hid (by rw [HV3.out, if_pos (HN.out (by rw [Gs.okc, hp, hq]; rfl))])
              have HP := Lib.hid hp
              have HQ := Lib.hid hq
              clear hp hq HV3 HA HN HK
              go_wp2_with fail
              refine (gdigit_any _ _).mono ?_
              rintro e w' ⟨rfl, rfl⟩
              rw [HP.out]
              go_wp2_with fail
              refine (gchar_any _ _).mono ?_
              rintro e w' ⟨rfl, rfl⟩
              rw [HQ.out]
              go_wp2
              go_ret
              exact ⟨ret_int HR.out.symm, HX.out⟩
            · have HO : Hid ((d.data.toList.take (j + 1)).all (Gs.okc 3) = true) := Lib.hid (by rw [HA.out, hal.out, Gs.okc, hp, hq]; rfl)
              have HP := Lib.hid hp
              have HQ := Lib.hid hq
              clear hp hq HA HN HK
              go_wp2_with fail
              refine (gdigit_any _ _).mono ?_
              rintro e w' ⟨rfl, rfl⟩
              rw [HP.out]
              go_wp2_with fail
              refine (gchar_any _ _).mono ?_
              rintro e w' ⟨rfl, rfl⟩
              rw [HQ.out]
              go_wp2
              go_round
              case rel => exact ⟨j + 1, by omega, by go_num, HO⟩
              case measure => simp [intOf]; omega
          · have hkf : (k == 3) = false := by simpa using hk3
            have HR : Hid (res = 6) := Lib.hid (by rw [HV3.out, if_pos (HN.out (by rw [Gs.okc, hp, hkf]; rfl))])
            have HP := Lib.hid hp
            clear hp HV3 HA HN HK hkf
            go_wp2_with fail
            refine (gdigit_any _ _).mono ?_
            rintro e w' ⟨rfl, rfl⟩
            rw [HP.out]
            go_wp2
            go_ret
            exact ⟨ret_int HR.out.symm, HX.out⟩
        · have HO : Hid ((d.data.toList.take (j + 1)).all (Gs.okc k) = true) := Lib.hid (by rw [HA.out, hal.out, Gs.okc, hp]; rfl)
          have HP := Lib.hid hp
          clear hp HV3 HA HN HK
          go_wp2_with fail
          refine (gdigit_any _ _).mono ?_
          rintro e w' ⟨rfl, rfl⟩
          rw [HP.out]
          go_wp2
          go_round
          case rel => exact ⟨j + 1, by omega, by go_num, HO⟩
          case measure => simp [intOf]; omega
      · obtain rfl : j = d.size := by omega
        rw [take_all] at hal
        have HV4 := Lib.hid (HV3.out.trans (if_neg (by rw [hal.out]; exact Bool.noConfusion)))
        clear hj hlt HV3
        by_cases k2 : k = 2
        · subst k2
          have h6 : d.size = 6 := by have := HK.out.1 rfl; omega
          have HDT := Lib.hid (fun w => date_any d h6 (okc_dig (by decide) hal.out) w)
          cases hdt : Gs.dateB d.data.toList
          · have HR : Hid (res = 9) := Lib.hid (by rw [HV4.out, if_pos ⟨rfl, hdt⟩])
            have HP := Lib.hid hdt
            clear hdt HV4 HK hal h6
            go_wp2_with fail
            refine (HDT.out _).mono ?_
            rintro e w2 ⟨rfl, hx2⟩
            rw [HP.out]
            go_wp2
            go_ret
            exact ⟨ret_int HR.out.symm, HX.out.trans hx2⟩
          · have HR : Hid (res = 0) := Lib.hid (by rw [HV4.out, if_neg (by rw [hdt]; simp), if_neg (fun h => absurd h.1 (by decide))])
            have HP := Lib.hid hdt
            clear hdt HV4 HK hal h6
            go_wp2_with fail
            refine (HDT.out _).mono ?_
            rintro e w2 ⟨rfl, hx2⟩
            have cK2 := (hx2.cell (p := ⟨w1.heap.size, 0, none⟩) (by simp)).trans cK
            rw [HP.out]
            go_wp2
            go_ret
            exact ⟨ret_int HR.out.symm, HX.out.trans hx2⟩
        · have HV5 := Lib.hid (HV4.out.trans (if_neg (fun h => k2 h.1)))
          clear HV4
          by_cases k1 : k = 1
          · subst k1
            have HDT := Lib.hid (fun w => verify_any 1 d w hmx)
            obtain ⟨x, hx⟩ : ∃ x, Cd.verI 1 d.data.toList = x := ⟨_, rfl⟩
            rw [hx] at HDT HV5
            clear hx HK hal k2
            by_cases h0 : x = 0
            · subst h0
              have HR : Hid (res = 0) := Lib.hid (by rw [HV5.out, if_neg (by simp)])
              clear HV5
              go_wp2_with fail
              refine (HDT.out _).mono ?_
              rintro e w2 ⟨rfl, hx2⟩
              go_wp2
              go_ret
              exact ⟨ret_int HR.out.symm, HX.out.trans hx2⟩
            · have HR : Hid (res = 8) := Lib.hid (by rw [HV5.out, if_pos ⟨rfl, h0⟩])
              have h0' : (x == 0) = false := by simpa using h0
              clear HV5
              go_wp2_with fail
              refine (HDT.out _).mono ?_
              rintro e w2 ⟨rfl, hx2⟩
              go_wp2
              go_ret
              exact ⟨ret_int HR.out.symm, HX.out.trans hx2⟩
          · have HR : Hid (res = 0) := Lib.hid (by rw [HV5.out, if_neg (fun h => k1 h.1)])
            have k2' : (k == 2) = false := by simpa using k2
            have k1' : (k == 1) = false := by simpa using k1
            clear HV5 HK hal
            go_wp2
            go_ret
            exact ⟨ret_int HR.out.symm, HX.out⟩
end Go.Proofs.YteojfkffmbcedaaGreatDoor
