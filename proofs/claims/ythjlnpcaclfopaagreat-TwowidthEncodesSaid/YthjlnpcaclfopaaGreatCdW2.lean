/-
  The systems Code 39, Damm and Verhoeff, walked.
  Conditions: the data are characters of the system, at most 4096.
-/
import Derived.Test.YthjlnpcaclfopaaGreatCdW1
namespace Go.Proofs.YthjlnpcaclfopaaGreat
open Go.RowKit

theorem u8_back (c : UInt8) : ((c.toNat : Int).toNat).toUInt8 = c := by simp

theorem idx_any (c : Int) (w : World) :
    Calls Tryz.prog 33 #[.string ⟨#[48, 49, 50, 51, 52, 53, 54, 55, 56, 57, 65, 66, 67, 68, 69, 70, 71, 72, 73, 74, 75, 76, 77, 78, 79, 80, 81, 82, 83, 84, 85, 86, 87, 88, 89, 90, 45, 46, 32, 36, 47, 43, 37]⟩, .int .u8 c] w fun e w' => e = .returned (.int .i64 (Cd.plc c.toNat.toUInt8)) ∧ w = w' :=
  (Tryz.strings_IndexByte _ c w).mono fun _ _ ⟨he, hw⟩ => ⟨he, hw.symm⟩

theorem syms_at' : ∀ n : Fin 43, ((⟨Cd.syms.toArray⟩ : ByteArray).extract n.1 (n.1 + 1)).data.toList = [Cd.syms.getD n.1 48] := by decide +kernel
theorem syms_at (n : Nat) (h : n < 43) : (⟨Cd.syms.toArray⟩ : ByteArray).extract (n : Int).toNat ((n : Int) + 1).toNat = ⟨[Cd.syms.getD (n : Int).toNat 48].toArray⟩ := by
  have h1 := syms_at' ⟨n, h⟩
  have e : ((n : Int) + 1).toNat = n + 1 := by omega
  rw [e, Int.toNat_natCast]
  dsimp only at h1
  rw [← h1]

set_option maxHeartbeats 400000 in
theorem code39_any (s : ByteArray) (w : World) (hs : s.size ≤ 4096) (hd : ∀ c ∈ s.data.toList, 0 ≤ Cd.plc c) :
    Calls Tryz.prog 142 #[.agg #[], .string s] w fun e w' => e = .returned (.string ⟨(Cd.cmp 7 s.data.toList).toArray⟩) ∧ Ext w w' := by
  have HD := Lib.hid hd
  clear hd
  go_enter Tryz.func142, Tryz.ntmps142
  go_wp2
  go_loop [5, 10] (fun t i => ∃ k : Nat, k ≤ s.size ∧ i = .int .i64 (k : Int) ∧ t = .int .i64 (Cd.c39 (s.data.toList.take k))) (fun _ i => s.size - (intOf i).toNat)
  case atStart => exact ⟨0, Nat.zero_le _, rfl, rfl⟩
  case round =>
    obtain ⟨k, hk, rfl, rfl⟩ := hrel
    obtain ⟨hb1, hb2⟩ := Cd.c39_bd (s.data.toList.take k) (fun c hc => HD.out c (List.mem_of_mem_take hc))
    rw [len_take s k hk] at hb2
    by_cases hlt : k < s.size
    · have hx1 := HD.out _ (mem_at s k hlt)
      have hx2 := (Cd.plc_bd s[k]).2
      have hs1 : Cd.c39 (s.data.toList.take (k + 1)) = Cd.c39 (s.data.toList.take k) + Cd.plc s[k] := by rw [take_snoc s k hlt]; unfold Cd.c39; simp
      generalize Cd.c39 (s.data.toList.take k) = g at *
      have HS := Lib.hid hs1
      clear hs1
      go_wp2_with fail
      refine (idx_any _ _).mono ?_
      rintro e w' ⟨rfl, rfl⟩
      rw [u8_back]
      go_wp2
      go_round
      case rel => exact ⟨k + 1, by omega, by go_num, by rw [HS.out]⟩
      case measure => simp [intOf]; omega
    · obtain rfl : k = s.size := by omega
      rw [take_all] at hb1 hb2 ⊢
      clear hk hlt
      go_wp2
      go_ret
      exact ⟨ret_string (by
        obtain ⟨n, hn⟩ : ∃ n : Nat, Cd.c39 s.data.toList % 43 = (n : Int) := ⟨(Cd.c39 s.data.toList % 43).toNat, by omega⟩
        simp only [Cd.cmp, hn]
        exact syms_at n (by omega)), (by repeat (first | exact Ext.refl _ | assumption | refine Ext.alloc ?_ _ | refine Ext.drew ?_ | refine Ext.trans ?_ (by assumption)))⟩

set_option maxHeartbeats 400000 in
theorem dihedral_any (a b : Int) (w : World) (h0 : 0 ≤ a) (h1 : a ≤ 9) (h2 : 0 ≤ b) (h3 : b ≤ 9) :
    Calls Tryz.prog 137 #[.int .i64 a, .int .i64 b] w fun e w' => e = .returned (.int .i64 (Cd.dih a b)) ∧ w = w' := by
  by_cases ha : a < 5 <;> by_cases hb : b < 5
  all_goals
    go_enter Tryz.func137, Tryz.ntmps137
    go_wp2
    go_ret
    exact ⟨ret_int (by unfold Cd.dih; repeat' split
                       all_goals omega), rfl⟩

def dmObj : Obj := .cells #[.string ⟨#[48, 51, 49, 55, 53, 57, 56, 54, 52, 50]⟩, .string ⟨#[55, 48, 57, 50, 49, 53, 52, 56, 54, 51]⟩, .string ⟨#[52, 50, 48, 54, 56, 55, 49, 51, 53, 57]⟩, .string ⟨#[49, 55, 53, 48, 57, 56, 51, 52, 50, 54]⟩, .string ⟨#[54, 49, 50, 51, 48, 52, 53, 57, 55, 56]⟩, .string ⟨#[51, 54, 55, 52, 50, 48, 57, 53, 56, 49]⟩, .string ⟨#[53, 56, 54, 57, 55, 50, 48, 49, 51, 52]⟩, .string ⟨#[56, 57, 52, 53, 51, 54, 50, 48, 49, 55]⟩, .string ⟨#[57, 52, 51, 56, 54, 49, 55, 50, 48, 53]⟩, .string ⟨#[50, 53, 56, 49, 52, 51, 54, 55, 57, 48]⟩] 156
def dmRow (c : Nat) : ByteArray := ⟨(Cd.dmT.getD c []).toArray⟩
theorem dm_cell (w : World) : ∀ c : Nat, c < 10 → ((w.alloc (.cells #[] 116)).alloc dmObj).cell? ⟨w.heap.size + 1, c, none⟩ = some (.string (dmRow c)) := by
  intro c hc
  rw [dmObj, World.cell?_alloc2_new]
  have h : ∀ c : Fin 10, (#[.string ⟨#[48, 51, 49, 55, 53, 57, 56, 54, 52, 50]⟩, .string ⟨#[55, 48, 57, 50, 49, 53, 52, 56, 54, 51]⟩, .string ⟨#[52, 50, 48, 54, 56, 55, 49, 51, 53, 57]⟩, .string ⟨#[49, 55, 53, 48, 57, 56, 51, 52, 50, 54]⟩, .string ⟨#[54, 49, 50, 51, 48, 52, 53, 57, 55, 56]⟩, .string ⟨#[51, 54, 55, 52, 50, 48, 57, 53, 56, 49]⟩, .string ⟨#[53, 56, 54, 57, 55, 50, 48, 49, 51, 52]⟩, .string ⟨#[56, 57, 52, 53, 51, 54, 50, 48, 49, 55]⟩, .string ⟨#[57, 52, 51, 56, 54, 49, 55, 50, 48, 53]⟩, .string ⟨#[50, 53, 56, 49, 52, 51, 54, 55, 57, 48]⟩] : Array Value)[c.1]? = some (.string (dmRow c.1)) := by
    intro c
    match c with
    | ⟨0, _⟩ => rfl
    | ⟨1, _⟩ => rfl
    | ⟨2, _⟩ => rfl
    | ⟨3, _⟩ => rfl
    | ⟨4, _⟩ => rfl
    | ⟨5, _⟩ => rfl
    | ⟨6, _⟩ => rfl
    | ⟨7, _⟩ => rfl
    | ⟨8, _⟩ => rfl
    | ⟨9, _⟩ => rfl
  exact h ⟨c, hc⟩
theorem dm_facts : ∀ (c x : Fin 10), ∃ h : x.1 < (dmRow c.1).size, 48 ≤ ((dmRow c.1)[x.1]'h).toNat ∧ ((dmRow c.1)[x.1]'h).toNat ≤ 57 ∧ Cd.dmAt (c.1 : Int) (x.1 : Int) = (((dmRow c.1)[x.1]'h).toNat : Int) - 48 := by decide

set_option maxHeartbeats 400000 in
theorem damm_any (s : ByteArray) (w : World) (hs : s.size ≤ 4096) (hd : Cd.AllDig s.data.toList) :
    Calls Tryz.prog 138 #[.agg #[], .string s] w fun e w' => e = .returned (.string ⟨(Cd.cmp 5 s.data.toList).toArray⟩) ∧ Ext w w' := by
  have HD := Lib.hid hd
  clear hd
  go_enter Tryz.func138, Tryz.ntmps138
  go_wp2
  have HC := Lib.hid (dm_cell w)
  have HX : Ext w ((w.alloc (.cells #[] 116)).alloc dmObj) := ((Ext.refl _).alloc _).alloc _
  unfold dmObj at HC HX
  generalize (w.alloc (.cells #[] 116)).alloc (.cells #[.string ⟨#[48, 51, 49, 55, 53, 57, 56, 54, 52, 50]⟩, .string ⟨#[55, 48, 57, 50, 49, 53, 52, 56, 54, 51]⟩, .string ⟨#[52, 50, 48, 54, 56, 55, 49, 51, 53, 57]⟩, .string ⟨#[49, 55, 53, 48, 57, 56, 51, 52, 50, 54]⟩, .string ⟨#[54, 49, 50, 51, 48, 52, 53, 57, 55, 56]⟩, .string ⟨#[51, 54, 55, 52, 50, 48, 57, 53, 56, 49]⟩, .string ⟨#[53, 56, 54, 57, 55, 50, 48, 49, 51, 52]⟩, .string ⟨#[56, 57, 52, 53, 51, 54, 50, 48, 49, 55]⟩, .string ⟨#[57, 52, 51, 56, 54, 49, 55, 50, 48, 53]⟩, .string ⟨#[50, 53, 56, 49, 52, 51, 54, 55, 57, 48]⟩] 156) = W at *
  go_loopw [6, 11] (fun t i wr => (∃ k : Nat, k ≤ s.size ∧ i = .int .i64 (k : Int) ∧ t = .int .i64 (Cd.dm (s.data.toList.take k))) ∧ ∃ n, wr = W.drewN n) (fun _ i _ => s.size - (intOf i).toNat)
  case atStart => exact ⟨⟨0, Nat.zero_le _, rfl, rfl⟩, 0, rfl⟩
  case round =>
    obtain ⟨⟨k, hk, rfl, rfl⟩, n, rfl⟩ := hrel
    obtain ⟨hb1, hb2⟩ := Cd.dm_bd (s.data.toList.take k) (Cd.allDig_take HD.out k)
    by_cases hlt : k < s.size
    · obtain ⟨hx1, hx2⟩ := HD.out _ (mem_at s k hlt)
      have hs1 : Cd.dm (s.data.toList.take (k + 1)) = Cd.dmAt (Cd.dm (s.data.toList.take k)) (Cd.dg s[k]) := by rw [take_snoc s k hlt]; unfold Cd.dm; rw [Cd.foldl_snoc]
      generalize Cd.dm (s.data.toList.take k) = g at *
      obtain ⟨c, rfl⟩ := Int.eq_ofNat_of_zero_le hb1
      obtain ⟨x, hx⟩ : ∃ x : Nat, Cd.dg s[k] = (x : Int) := ⟨(Cd.dg s[k]).toNat, by unfold Cd.dg; omega⟩
      have hx' : (s[k].toNat : Int) - 48 = (x : Int) := hx
      rw [hx] at hs1
      obtain ⟨hr, hv1, hv2, hv3⟩ := dm_facts ⟨c, by omega⟩ ⟨x, by unfold Cd.dg at hx; omega⟩
      dsimp only at hr hv1 hv2 hv3
      rw [hv3] at hs1
      have hcell := HC.out c (by omega)
      generalize dmRow c = r at *
      have HS := Lib.hid hs1
      clear hs1 hv3 hx
      go_wp2
      go_quiet (fail)
      go_wp2
      go_roundw
      case rel => exact ⟨⟨k + 1, by omega, by go_num, by rw [HS.out]⟩, _, rfl⟩
      case measure => simp [intOf]; omega
    · obtain rfl : k = s.size := by omega
      rw [take_all] at hb1 hb2 ⊢
      clear hk hlt
      go_wp2_with fail
      refine (single_any _ _ (by omega) (by omega)).mono ?_
      rintro e w' ⟨rfl, rfl⟩
      go_wp2
      go_ret
      exact ⟨ret_string (by simp [Cd.cmp]), HX.drewN _⟩

/-- The powers of the permutation: the first d of power m + 1, the others of power m. -/
def pwL (m d : Nat) : List Value := (List.range 10).map fun j => .int .i64 (if j < d then Cd.permN (m + 1) (j : Int) else Cd.permN m (j : Int))
def pw (m d : Nat) : Array Value := (pwL m d).toArray
theorem pw_at (m d : Nat) (h : d < 10) : (pw m d)[d]? = some (.int .i64 (Cd.permN m (d : Int))) := by
  simp [pw, pwL, h]
theorem pw_at0 (m x : Nat) (h : x < 10) : (pw m 0)[x]? = some (.int .i64 (Cd.permN m (x : Int))) := by
  simp [pw, pwL, h]
theorem pw_set (m d : Nat) (h : d < 10) : (pw m d).setIfInBounds d (.int .i64 (Cd.perm (Cd.permN m (d : Int)))) = pw m (d + 1) := by
  apply Array.ext_getElem?
  intro i
  rw [Array.getElem?_setIfInBounds]
  by_cases e : d = i
  · subst e
    simp [pw, pwL, h, Cd.permN]
  · rw [if_neg e]
    by_cases hi : i < 10
    · simp only [pw, pwL, List.getElem?_toArray, List.getElem?_map, List.getElem?_range hi, Option.map_some]
      by_cases hl : i < d
      · rw [if_pos hl, if_pos (by omega)]
      · rw [if_neg hl, if_neg (by omega)]
    · have e1 : ∀ m d, (pw m d)[i]? = none := by
        intro m d
        rw [Array.getElem?_eq_none_iff]
        simp [pw, pwL]; omega
      rw [e1, e1]
theorem pw_next (m : Nat) : pw m 10 = pw (m + 1) 0 := by
  unfold pw pwL
  congr 1
def permObj : Obj := .cells #[.int .i64 1, .int .i64 5, .int .i64 7, .int .i64 6, .int .i64 2, .int .i64 8, .int .i64 3, .int .i64 0, .int .i64 9, .int .i64 4] 155
theorem perm_cell (w : World) : ∀ c : Nat, c < 10 → ((w.alloc (.cells #[] 115)).alloc permObj).cell? ⟨w.heap.size + 1, c, none⟩ = some (.int .i64 (Cd.perm (c : Int))) := by
  intro c hc
  rw [permObj, World.cell?_alloc2_new]
  have h : ∀ c : Fin 10, (#[.int .i64 1, .int .i64 5, .int .i64 7, .int .i64 6, .int .i64 2, .int .i64 8, .int .i64 3, .int .i64 0, .int .i64 9, .int .i64 4] : Array Value)[c.1]? = some (.int .i64 (Cd.perm (c.1 : Int))) := by
    intro c
    match c with
    | ⟨0, _⟩ => rfl
    | ⟨1, _⟩ => rfl
    | ⟨2, _⟩ => rfl
    | ⟨3, _⟩ => rfl
    | ⟨4, _⟩ => rfl
    | ⟨5, _⟩ => rfl
    | ⟨6, _⟩ => rfl
    | ⟨7, _⟩ => rfl
    | ⟨8, _⟩ => rfl
    | ⟨9, _⟩ => rfl
  exact h ⟨c, hc⟩
theorem pw_start : (#[.int .i64 0, .int .i64 1, .int .i64 2, .int .i64 3, .int .i64 4, .int .i64 5, .int .i64 6, .int .i64 7, .int .i64 8, .int .i64 9] : Array Value) = pw 0 0 := rfl

set_option maxHeartbeats 1000000 in
theorem verhoeff_any (s : ByteArray) (w : World) (hs : s.size ≤ 4096) (hd : Cd.AllDig s.data.toList) :
    Calls Tryz.prog 136 #[.agg #[], .string s] w fun e w' => e = .returned (.string ⟨(Cd.cmp 4 s.data.toList).toArray⟩) ∧ Ext w w' := by
  have HD := Lib.hid hd
  clear hd
  go_enter Tryz.func136, Tryz.ntmps136
  go_wp2
  have HC := Lib.hid (perm_cell w)
  have HX : Ext w ((w.alloc (.cells #[] 115)).alloc permObj) := ((Ext.refl _).alloc _).alloc _
  have hz : ((w.alloc (.cells #[] 115)).alloc permObj).heap.size = w.heap.size + 2 := by simp
  have HZ := Lib.hid hz
  clear hz
  unfold permObj at HC HX HZ
  rw [pw_start]
  generalize (w.alloc (.cells #[] 115)).alloc (.cells #[.int .i64 1, .int .i64 5, .int .i64 7, .int .i64 6, .int .i64 2, .int .i64 8, .int .i64 3, .int .i64 0, .int .i64 9, .int .i64 4] 155) = W at *
  go_loopw [7, 8] (fun t i wr => ∃ k : Nat, k ≤ s.size ∧ i = .int .i64 ((k : Int) - 1) ∧ t = .int .i64 (Cd.vh (s.data.toList.drop k)) ∧ wr = W.alloc (.cells (pw (s.size - k) 0) 155)) (fun _ i _ => (intOf i + 1).toNat)
  case atStart => exact ⟨s.size, Nat.le_refl _, rfl, by rw [drop_all]; rfl, by rw [Nat.sub_self]⟩
  case round =>
    obtain ⟨k, hk, rfl, rfl, rfl⟩ := hrel
    obtain ⟨hb1, hb2⟩ := Cd.vh_bd _ (Cd.allDig_drop HD.out k)
    by_cases hlt : k = 0
    · subst hlt
      simp only [List.drop_zero, Nat.sub_zero] at hb1 hb2 ⊢
      rw [show ((0 : Nat) : Int) - 1 = -1 from rfl]
      have hX := HX.alloc (.cells (pw s.size 0) 155)
      have HE : Hid (Cd.cmp 4 s.data.toList = [Cd.chr (Cd.inv (Cd.vh s.data.toList))]) := rfl
      generalize Cd.vh s.data.toList = c at *
      generalize W.alloc (.cells (pw s.size 0) 155) = W2 at *
      have hi := Cd.inv_bd c ⟨hb1, hb2⟩
      go_wp2
      go_loop [10] (fun t => ∃ n : Int, 0 ≤ n ∧ n ≤ Cd.inv c ∧ t = .int .i64 n) (fun t => (9 - intOf t).toNat)
      case atStart => exact ⟨0, by omega, by omega, rfl⟩
      case round =>
        obtain ⟨n, hn1, hn2, rfl⟩ := hrel
        by_cases hn : n = Cd.inv c
        · have h0 : (Cd.dih n c != 0) = false := by rw [hn, Cd.dih_inv c ⟨hb1, hb2⟩]; rfl
          have HN := Lib.hid hn
          obtain ⟨hi1, hi2⟩ := hi
          clear hn
          go_wp2_with fail
          refine (dihedral_any _ _ _ hn1 (by omega) hb1 hb2).mono ?_
          rintro e w' ⟨rfl, rfl⟩
          go_wp2_with fail
          refine (single_any _ _ hn1 (by omega)).mono ?_
          rintro e w' ⟨rfl, rfl⟩
          go_wp2
          go_ret
          exact ⟨ret_string (by rw [HE.out, ← HN.out]), hX⟩
        · have h0 : (Cd.dih n c != 0) = true := by
            simp only [bne_iff_ne, ne_eq]
            exact fun h => hn (Cd.dih_inv_only c n ⟨hb1, hb2⟩ (by omega) h)
          have hn9 : n < 9 := by omega
          have HN : Hid (n + 1 ≤ Cd.inv c) := by show n + 1 ≤ Cd.inv c; omega
          clear hn
          go_wp2_with fail
          refine (dihedral_any _ _ _ hn1 (by omega) hb1 hb2).mono ?_
          rintro e w' ⟨rfl, rfl⟩
          go_wp2
          go_round
          case rel => exact ⟨n + 1, by omega, HN.out, by go_num⟩
          case measure => simp [intOf]; omega
    · obtain ⟨j, rfl⟩ : ∃ j, k = j + 1 := ⟨k - 1, by omega⟩
      obtain ⟨hx1, hx2⟩ := HD.out _ (mem_at s j (by omega))
      have hjl : j < s.size := by omega
      have hs1 : Cd.vh (s.data.toList.drop j) = Cd.dih (Cd.vh (s.data.toList.drop (j + 1))) (Cd.permN ((s.data.toList.drop (j + 1)).length + 1) (Cd.dg s[j])) := congrArg Cd.vh (drop_cons s j hjl)
      rw [len_drop] at hs1
      generalize Cd.vh (s.data.toList.drop (j + 1)) = g at *
      have hm : s.size - j = s.size - (j + 1) + 1 := by omega
      have HM := Lib.hid hm
      clear hm
      generalize s.size - (j + 1) = m at *
      have HS := Lib.hid hs1
      clear hs1 hlt
      go_wp2
      go_loopw [20] (fun i wr => ∃ d : Nat, d ≤ 10 ∧ i = .int .i64 (d : Int) ∧ wr = W.alloc (.cells (pw m d) 155)) (fun i _ => 10 - (intOf i).toNat)
      case atStart => exact ⟨0, by omega, rfl, rfl⟩
      case round =>
        obtain ⟨d, hd, rfl, rfl⟩ := hrel
        have hzz := HZ.out
        have hf := fun x => World.frozen?_alloc_at (w := W) (pw m d) 155 (w.heap.size + 2) x hzz.symm
        have hcl := fun x => World.cell?_alloc_at (w := W) (pw m d) 155 (w.heap.size + 2) x hzz.symm
        have hco := fun x => World.cell?_alloc_past (w := W) (.cells (pw m d) 155) (w.heap.size + 1) x (by omega)
        by_cases hlt : d < 10
        · have hq := Cd.permN_bd m (d : Int) (by omega)
          have h1 := (hcl d).trans (pw_at m d hlt)
          have hset := pw_set m d hlt
          generalize Cd.permN m (d : Int) = q at *
          obtain ⟨q, rfl⟩ := Int.eq_ofNat_of_zero_le hq.1
          have h2 := (hco q).trans (HC.out q (by omega))
          have h3 := hf d
          have hst := fun v => World.setCell_alloc_at (w := W) (pw m d) 155 (w.heap.size + 2) d v hzz.symm
          obtain ⟨_, hq2⟩ := hq
          clear hf hcl hco
          have HT := Lib.hid hset
          have HZ2 := Lib.hid hzz
          clear hset hzz
          go_wp2
          go_roundw
          case rel => exact ⟨d + 1, by omega, by go_num, by rw [HT.out]⟩
          case measure => simp [intOf]; omega
        · obtain rfl : d = 10 := by omega
          rw [pw_next] at hcl ⊢
          obtain ⟨x, hx⟩ : ∃ x : Nat, Cd.dg s[j] = (x : Int) := ⟨(Cd.dg s[j]).toNat, by unfold Cd.dg; omega⟩
          have hxx : (s[j].toNat : Int) - 48 = (x : Int) := hx
          have hx9 : x < 10 := by omega
          have h1 := (hcl x).trans (pw_at0 (m + 1) x hx9)
          have hq := Cd.permN_bd (m + 1) (x : Int) (by omega)
          have HS2 := Lib.hid (hx ▸ HS.out)
          generalize Cd.permN (m + 1) (x : Int) = q at *
          obtain ⟨hq1, hq2⟩ := hq
          have HZ2 := Lib.hid hzz
          clear hcl hco hf hlt hd hx hzz
          go_wp2_with fail
          refine (dihedral_any _ _ _ hb1 hb2 hq1 hq2).mono ?_
          rintro e w' ⟨rfl, rfl⟩
          go_wp2
          go_roundw
          case rel => exact ⟨j, by omega, by go_num, by rw [HS2.out], by rw [HM.out]⟩
          case measure => simp [intOf]
end Go.Proofs.YthjlnpcaclfopaaGreat
