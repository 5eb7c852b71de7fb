/-
  Chapter 12: the law TwowidthDistinct: the plain law, and the walk.
  No condition.
-/
import Derived.Test.YtlocohcbfpeddaaTwE2
namespace Go.Proofs.Ytlocohcbfpeddaa
open Go.RowKit

def cnt (l : List Bool) : Nat := l.count true
theorem cnt_snoc (l : List Bool) (b : Bool) : cnt (l ++ [b]) = cnt l + if b then 1 else 0 := by cases b <;> simp [cnt]
theorem cnt_le (l : List Bool) : cnt l ≤ l.length := List.count_le_length
def chars (k : Nat) : List UInt8 := match k with
  | 0 => Tw.c39
  | 1 => Tw.cCb
  | _ => Tw.cItf
theorem pat_ok0 : ∀ i : Fin 256, (Tw.patB 0 (UInt8.ofNat i.val)).2 = 0 → UInt8.ofNat i.val ∈ chars 0 ∧ (Tw.patB 0 (UInt8.ofNat i.val)).1.length = 9 ∧ cnt (Tw.patB 0 (UInt8.ofNat i.val)).1 = 3 := by decide +kernel
theorem pat_ok1 : ∀ i : Fin 256, (Tw.patB 1 (UInt8.ofNat i.val)).2 = 0 → UInt8.ofNat i.val ∈ chars 1 ∧ (Tw.patB 1 (UInt8.ofNat i.val)).1.length = 7 ∧ (cnt (Tw.patB 1 (UInt8.ofNat i.val)).1 = 2 ∨ cnt (Tw.patB 1 (UInt8.ofNat i.val)).1 = 3) := by decide +kernel
theorem pat_ok2 : ∀ i : Fin 256, (Tw.patB 2 (UInt8.ofNat i.val)).2 = 0 → UInt8.ofNat i.val ∈ chars 2 ∧ (Tw.patB 2 (UInt8.ofNat i.val)).1.length = 5 ∧ cnt (Tw.patB 2 (UInt8.ofNat i.val)).1 = 2 := by decide +kernel
theorem pat_inj0 : ∀ a ∈ chars 0, ∀ b ∈ chars 0, (Tw.patB 0 a).1 = (Tw.patB 0 b).1 → a = b := by decide +kernel
theorem pat_inj1 : ∀ a ∈ chars 1, ∀ b ∈ chars 1, (Tw.patB 1 a).1 = (Tw.patB 1 b).1 → a = b := by decide +kernel
theorem pat_inj2 : ∀ a ∈ chars 2, ∀ b ∈ chars 2, (Tw.patB 2 a).1 = (Tw.patB 2 b).1 → a = b := by decide +kernel

/-- What is asked of two characters that have patterns. -/
theorem ptn_facts (kind : Int) (a b : UInt8) (ha : (Tw.ptn kind a).2 = 0) (hb : (Tw.ptn kind b).2 = 0) :
    ∃ L C, ((kind = 5 ∧ L = 9 ∧ C = 3) ∨ (kind = 7 ∧ L = 5 ∧ C = 2) ∨ (kind = 6 ∧ L = 7 ∧ C = 2) ∨ (kind = 6 ∧ L = 7 ∧ C = 3)) ∧ (Tw.ptn kind a).1.length = L ∧ cnt (Tw.ptn kind a).1 = C ∧ (Tw.ptn kind b).1.length = L ∧ ((Tw.ptn kind a).1 = (Tw.ptn kind b).1 → a = b) := by
  by_cases h5 : kind = 5
  · have e : ∀ c, Tw.ptn kind c = Tw.patB 0 c := fun c => by unfold Tw.ptn; rw [if_pos h5]
    simp only [e] at *
    have p1 := pat_ok0 ⟨a.toNat, a.toNat_lt⟩
    have p2 := pat_ok0 ⟨b.toNat, b.toNat_lt⟩
    simp only [ofNat_toNat] at p1 p2
    obtain ⟨q1, q2, q3⟩ := p1 ha
    obtain ⟨r1, r2, _⟩ := p2 hb
    exact ⟨9, 3, .inl ⟨h5, rfl, rfl⟩, q2, q3, r2, pat_inj0 a q1 b r1⟩
  · by_cases h6 : kind = 6
    · have e : ∀ c, Tw.ptn kind c = Tw.patB 1 c := fun c => by unfold Tw.ptn; rw [if_neg h5, if_pos h6]
      simp only [e] at *
      have p1 := pat_ok1 ⟨a.toNat, a.toNat_lt⟩
      have p2 := pat_ok1 ⟨b.toNat, b.toNat_lt⟩
      simp only [ofNat_toNat] at p1 p2
      obtain ⟨q1, q2, q3⟩ := p1 ha
      obtain ⟨r1, r2, _⟩ := p2 hb
      rcases q3 with q3 | q3
      · exact ⟨7, 2, .inr (.inr (.inl ⟨h6, rfl, rfl⟩)), q2, q3, r2, pat_inj1 a q1 b r1⟩
      · exact ⟨7, 3, .inr (.inr (.inr ⟨h6, rfl, rfl⟩)), q2, q3, r2, pat_inj1 a q1 b r1⟩
    · by_cases h7 : kind = 7
      · have e : ∀ c, Tw.ptn kind c = Tw.patB 2 c := fun c => by unfold Tw.ptn; rw [if_neg h5, if_neg h6, if_pos h7]
        simp only [e] at *
        have p1 := pat_ok2 ⟨a.toNat, a.toNat_lt⟩
        have p2 := pat_ok2 ⟨b.toNat, b.toNat_lt⟩
        simp only [ofNat_toNat] at p1 p2
        obtain ⟨q1, q2, q3⟩ := p1 ha
        obtain ⟨r1, r2, _⟩ := p2 hb
        exact ⟨5, 2, .inr (.inl ⟨h7, rfl, rfl⟩), q2, q3, r2, pat_inj2 a q1 b r1⟩
      · unfold Tw.ptn at ha; rw [if_neg h5, if_neg h6, if_neg h7] at ha; simp at ha

theorem take_bit (l : List Bool) (j : Nat) (h : j < l.length) : l.take (j + 1) = l.take j ++ [l[j]] := List.take_succ_eq_append_getElem h

set_option maxRecDepth 100000 in
set_option maxHeartbeats 4000000 in
theorem dist_5 (a b : UInt8) (p q : List Bool) (w : World) (hp : p.length = 9) (hc : cnt p = 3) (hq : q.length = 9) (hinj : p = q → a = b) (heq : a = b → p = q)
    (HA : Hid (∀ w, Calls Try.prog 17 #[.int .i64 5, .int .u8 (a.toNat : Int)] w (PatR (p, 0) w))) (HB : Hid (∀ w, Calls Try.prog 17 #[.int .i64 5, .int .u8 (b.toNat : Int)] w (PatR (q, 0) w))) :
    Calls Try.prog 9 #[.int .i64 5, .int .u8 (a.toNat : Int), .int .u8 (b.toNat : Int)] w fun e w' => e = .returned (.bool true) ∧ Ext w w' := by
  have HPL := Lib.hid hp
  have hpl : p.length ≤ 9 := by omega
  have hpg : 9 ≤ p.length := by omega
  have HCN := Lib.hid hc
  have HSM : Hid (∀ w u v, Sl w u (p.map encT) → Sl w v (q.map encT) → Calls Try.prog 19 #[u, v] w fun e w' => e = .returned (.bool ((a.toNat : Int) == (b.toNat : Int))) ∧ Ext w w') := Lib.hid (fun w u v h1 h2 => by
    have := sameBits_any u v p q w h1 h2 (by omega) (by omega)
    have e : decide (p = q) = ((a.toNat : Int) == (b.toNat : Int)) := by
      rw [Bool.eq_iff_iff, decide_eq_true_eq, beq_iff_eq]
      constructor
      · intro h; rw [hinj h]
      · intro h; exact heq (UInt8.toNat_inj.1 (by omega))
    rw [e] at this; exact this)
  obtain ⟨bb, hbb⟩ : ∃ bb, ((a.toNat : Int) == (b.toNat : Int)) = bb := ⟨_, rfl⟩
  rw [hbb] at HSM
  clear hp hc hq hinj heq
  go_enter Try.func9, Try.ntmps9
  go_wp2_with fail
  refine (HA.out _).mono ?_
  rintro e w1 ⟨v1, rfl, s1, x1⟩
  go_wp2_with fail
  refine (HB.out _).mono ?_
  rintro e w2 ⟨v2, rfl, s2, x2⟩
  replace s1 := s1.ext x2
  replace x1 := x1.trans x2
  simp only at s1 s2
  have HS1 := Lib.hid s1
  have HS2 := Lib.hid s2
  rcases s1 with ⟨h0, _⟩ | ⟨b1, o1, c1, rfl, hb1, hc1⟩
  · have : p = [] := by simpa using h0
    rw [this] at hpg; simp at hpg
  have HC1 : Hid (∀ w', Ext w2 w' → ∀ j (hj : j < p.length), w'.cell? ⟨b1, o1 + j, none⟩ = some (.bool p[j])) := Lib.hid (fun w' hx j hj => by
    rw [hx.cell (p := ⟨b1, o1 + j, none⟩) hb1, hc1 j (by rw [List.length_map]; exact hj), List.getElem?_map, List.getElem?_eq_getElem hj]; rfl)
  rw [List.length_map, HPL.out] at HS1 ⊢
  clear hc1 s2 x2 HA HB
  go_wp2
  go_loop [12, 11] (fun i n => ∃ j : Nat, j ≤ 9 ∧ i = .int .i64 (j : Int) ∧ n = .int .i64 ((cnt (p.take j) : Nat) : Int)) (fun i _ => 9 - (intOf i).toNat)
  case atStart => exact ⟨0, Nat.zero_le _, rfl, rfl⟩
  case round =>
    obtain ⟨j, hj, rfl, rfl⟩ := hrel
    have hcl := cnt_le (p.take j)
    rw [List.length_take] at hcl
    by_cases hlt : j < 9
    · have hjp : j < p.length := by omega
      have hcj := HC1.out w2 (Ext.refl _) j hjp
      have HSN := Lib.hid (cnt_snoc (p.take j) p[j])
      rw [← take_bit p j hjp] at HSN
      generalize cnt (p.take j) = g at *
      cases hbj : p[j]
      · rw [hbj] at HSN hcj
        clear hbj
        go_wp2
        go_round
        case rel => exact ⟨j + 1, by omega, by go_num, by rw [HSN.out]; rfl⟩
        case measure => simp [intOf]; omega
      · rw [hbj] at HSN hcj
        clear hbj
        go_wp2
        go_round
        case rel => exact ⟨j + 1, by omega, by go_num, by rw [HSN.out]; go_num⟩
        case measure => simp [intOf]; omega
    · obtain rfl : j = 9 := by omega
      have hta : p.take 9 = p := List.take_of_length_le (by omega)
      rw [hta, HCN.out] at hcl ⊢
      clear hj hlt hta hcl
      go_wp2_with fail
      refine (HSM.out _ _ _ HS1.out HS2.out).mono ?_
      rintro e w3 ⟨rfl, x3⟩
      cases bb
      all_goals
        go_wp2_with fail
        refine (example_any _).mono ?_
        rintro e w4 ⟨rfl, x4⟩
        go_wp2
        go_ret
        exact ⟨rfl, (x1.trans x3).trans x4⟩
set_option maxRecDepth 100000 in
set_option maxHeartbeats 4000000 in
theorem dist_7 (a b : UInt8) (p q : List Bool) (w : World) (hp : p.length = 5) (hc : cnt p = 2) (hq : q.length = 5) (hinj : p = q → a = b) (heq : a = b → p = q)
    (HA : Hid (∀ w, Calls Try.prog 17 #[.int .i64 7, .int .u8 (a.toNat : Int)] w (PatR (p, 0) w))) (HB : Hid (∀ w, Calls Try.prog 17 #[.int .i64 7, .int .u8 (b.toNat : Int)] w (PatR (q, 0) w))) :
    Calls Try.prog 9 #[.int .i64 7, .int .u8 (a.toNat : Int), .int .u8 (b.toNat : Int)] w fun e w' => e = .returned (.bool true) ∧ Ext w w' := by
  have HPL := Lib.hid hp
  have hpl : p.length ≤ 5 := by omega
  have hpg : 5 ≤ p.length := by omega
  have HCN := Lib.hid hc
  have HSM : Hid (∀ w u v, Sl w u (p.map encT) → Sl w v (q.map encT) → Calls Try.prog 19 #[u, v] w fun e w' => e = .returned (.bool ((a.toNat : Int) == (b.toNat : Int))) ∧ Ext w w') := Lib.hid (fun w u v h1 h2 => by
    have := sameBits_any u v p q w h1 h2 (by omega) (by omega)
    have e : decide (p = q) = ((a.toNat : Int) == (b.toNat : Int)) := by
      rw [Bool.eq_iff_iff, decide_eq_true_eq, beq_iff_eq]
      constructor
      · intro h; rw [hinj h]
      · intro h; exact heq (UInt8.toNat_inj.1 (by omega))
    rw [e] at this; exact this)
  obtain ⟨bb, hbb⟩ : ∃ bb, ((a.toNat : Int) == (b.toNat : Int)) = bb := ⟨_, rfl⟩
  rw [hbb] at HSM
  clear hp hc hq hinj heq
  go_enter Try.func9, Try.ntmps9
  go_wp2_with fail
  refine (HA.out _).mono ?_
  rintro e w1 ⟨v1, rfl, s1, x1⟩
  go_wp2_with fail
  refine (HB.out _).mono ?_
  rintro e w2 ⟨v2, rfl, s2, x2⟩
  replace s1 := s1.ext x2
  replace x1 := x1.trans x2
  simp only at s1 s2
  have HS1 := Lib.hid s1
  have HS2 := Lib.hid s2
  rcases s1 with ⟨h0, _⟩ | ⟨b1, o1, c1, rfl, hb1, hc1⟩
  · have : p = [] := by simpa using h0
    rw [this] at hpg; simp at hpg
  have HC1 : Hid (∀ w', Ext w2 w' → ∀ j (hj : j < p.length), w'.cell? ⟨b1, o1 + j, none⟩ = some (.bool p[j])) := Lib.hid (fun w' hx j hj => by
    rw [hx.cell (p := ⟨b1, o1 + j, none⟩) hb1, hc1 j (by rw [List.length_map]; exact hj), List.getElem?_map, List.getElem?_eq_getElem hj]; rfl)
  rw [List.length_map, HPL.out] at HS1 ⊢
  clear hc1 s2 x2 HA HB
  go_wp2
  go_loop [12, 11] (fun i n => ∃ j : Nat, j ≤ 5 ∧ i = .int .i64 (j : Int) ∧ n = .int .i64 ((cnt (p.take j) : Nat) : Int)) (fun i _ => 5 - (intOf i).toNat)
  case atStart => exact ⟨0, Nat.zero_le _, rfl, rfl⟩
  case round =>
    obtain ⟨j, hj, rfl, rfl⟩ := hrel
    have hcl := cnt_le (p.take j)
    rw [List.length_take] at hcl
    by_cases hlt : j < 5
    · have hjp : j < p.length := by omega
      have hcj := HC1.out w2 (Ext.refl _) j hjp
      have HSN := Lib.hid (cnt_snoc (p.take j) p[j])
      rw [← take_bit p j hjp] at HSN
      generalize cnt (p.take j) = g at *
      cases hbj : p[j]
      · rw [hbj] at HSN hcj
        clear hbj
        go_wp2
        go_round
        case rel => exact ⟨j + 1, by omega, by go_num, by rw [HSN.out]; rfl⟩
        case measure => simp [intOf]; omega
      · rw [hbj] at HSN hcj
        clear hbj
        go_wp2
        go_round
        case rel => exact ⟨j + 1, by omega, by go_num, by rw [HSN.out]; go_num⟩
        case measure => simp [intOf]; omega
    · obtain rfl : j = 5 := by omega
      have hta : p.take 5 = p := List.take_of_length_le (by omega)
      rw [hta, HCN.out] at hcl ⊢
      clear hj hlt hta hcl
      go_wp2_with fail
      refine (HSM.out _ _ _ HS1.out HS2.out).mono ?_
      rintro e w3 ⟨rfl, x3⟩
      cases bb
      all_goals
        go_wp2_with fail
        refine (example_any _).mono ?_
        rintro e w4 ⟨rfl, x4⟩
        go_wp2
        go_ret
        exact ⟨rfl, (x1.trans x3).trans x4⟩
set_option maxRecDepth 100000 in
set_option maxHeartbeats 4000000 in
theorem dist_62 (a b : UInt8) (p q : List Bool) (w : World) (hp : p.length = 7) (hc : cnt p = 2) (hq : q.length = 7) (hinj : p = q → a = b) (heq : a = b → p = q)
    (HA : Hid (∀ w, Calls Try.prog 17 #[.int .i64 6, .int .u8 (a.toNat : Int)] w (PatR (p, 0) w))) (HB : Hid (∀ w, Calls Try.prog 17 #[.int .i64 6, .int .u8 (b.toNat : Int)] w (PatR (q, 0) w))) :
    Calls Try.prog 9 #[.int .i64 6, .int .u8 (a.toNat : Int), .int .u8 (b.toNat : Int)] w fun e w' => e = .returned (.bool true) ∧ Ext w w' := by
  have HPL := Lib.hid hp
  have hpl : p.length ≤ 7 := by omega
  have hpg : 7 ≤ p.length := by omega
  have HCN := Lib.hid hc
  have HSM : Hid (∀ w u v, Sl w u (p.map encT) → Sl w v (q.map encT) → Calls Try.prog 19 #[u, v] w fun e w' => e = .returned (.bool ((a.toNat : Int) == (b.toNat : Int))) ∧ Ext w w') := Lib.hid (fun w u v h1 h2 => by
    have := sameBits_any u v p q w h1 h2 (by omega) (by omega)
    have e : decide (p = q) = ((a.toNat : Int) == (b.toNat : Int)) := by
      rw [Bool.eq_iff_iff, decide_eq_true_eq, beq_iff_eq]
      constructor
      · intro h; rw [hinj h]
      · intro h; exact heq (UInt8.toNat_inj.1 (by omega))
    rw [e] at this; exact this)
  obtain ⟨bb, hbb⟩ : ∃ bb, ((a.toNat : Int) == (b.toNat : Int)) = bb := ⟨_, rfl⟩
  rw [hbb] at HSM
  clear hp hc hq hinj heq
  go_enter Try.func9, Try.ntmps9
  go_wp2_with fail
  refine (HA.out _).mono ?_
  rintro e w1 ⟨v1, rfl, s1, x1⟩
  go_wp2_with fail
  refine (HB.out _).mono ?_
  rintro e w2 ⟨v2, rfl, s2, x2⟩
  replace s1 := s1.ext x2
  replace x1 := x1.trans x2
  simp only at s1 s2
  have HS1 := Lib.hid s1
  have HS2 := Lib.hid s2
  rcases s1 with ⟨h0, _⟩ | ⟨b1, o1, c1, rfl, hb1, hc1⟩
  · have : p = [] := by simpa using h0
    rw [this] at hpg; simp at hpg
  have HC1 : Hid (∀ w', Ext w2 w' → ∀ j (hj : j < p.length), w'.cell? ⟨b1, o1 + j, none⟩ = some (.bool p[j])) := Lib.hid (fun w' hx j hj => by
    rw [hx.cell (p := ⟨b1, o1 + j, none⟩) hb1, hc1 j (by rw [List.length_map]; exact hj), List.getElem?_map, List.getElem?_eq_getElem hj]; rfl)
  rw [List.length_map, HPL.out] at HS1 ⊢
  clear hc1 s2 x2 HA HB
  go_wp2
  go_loop [12, 11] (fun i n => ∃ j : Nat, j ≤ 7 ∧ i = .int .i64 (j : Int) ∧ n = .int .i64 ((cnt (p.take j) : Nat) : Int)) (fun i _ => 7 - (intOf i).toNat)
  case atStart => exact ⟨0, Nat.zero_le _, rfl, rfl⟩
  case round =>
    obtain ⟨j, hj, rfl, rfl⟩ := hrel
    have hcl := cnt_le (p.take j)
    rw [List.length_take] at hcl
    by_cases hlt : j < 7
    · have hjp : j < p.length := by omega
      have hcj := HC1.out w2 (Ext.refl _) j hjp
      have HSN := Lib.hid (cnt_snoc (p.take j) p[j])
      rw [← take_bit p j hjp] at HSN
      generalize cnt (p.take j) = g at *
      cases hbj : p[j]
      · rw [hbj] at HSN hcj
        clear hbj
        go_wp2
        go_round
        case rel => exact ⟨j + 1, by omega, by go_num, by rw [HSN.out]; rfl⟩
        case measure => simp [intOf]; omega
      · rw [hbj] at HSN hcj
        clear hbj
        go_wp2
        go_round
        case rel => exact ⟨j + 1, by omega, by go_num, by rw [HSN.out]; go_num⟩
        case measure => simp [intOf]; omega
    · obtain rfl : j = 7 := by omega
      have hta : p.take 7 = p := List.take_of_length_le (by omega)
      rw [hta, HCN.out] at hcl ⊢
      clear hj hlt hta hcl
      go_wp2_with fail
      refine (HSM.out _ _ _ HS1.out HS2.out).mono ?_
      rintro e w3 ⟨rfl, x3⟩
      cases bb
      all_goals
        go_wp2_with fail
        refine (example_any _).mono ?_
        rintro e w4 ⟨rfl, x4⟩
        go_wp2
        go_ret
        exact ⟨rfl, (x1.trans x3).trans x4⟩
set_option maxRecDepth 100000 in
set_option maxHeartbeats 4000000 in
theorem dist_63 (a b : UInt8) (p q : List Bool) (w : World) (hp : p.length = 7) (hc : cnt p = 3) (hq : q.length = 7) (hinj : p = q → a = b) (heq : a = b → p = q)
    (HA : Hid (∀ w, Calls Try.prog 17 #[.int .i64 6, .int .u8 (a.toNat : Int)] w (PatR (p, 0) w))) (HB : Hid (∀ w, Calls Try.prog 17 #[.int .i64 6, .int .u8 (b.toNat : Int)] w (PatR (q, 0) w))) :
    Calls Try.prog 9 #[.int .i64 6, .int .u8 (a.toNat : Int), .int .u8 (b.toNat : Int)] w fun e w' => e = .returned (.bool true) ∧ Ext w w' := by
  have HPL := Lib.hid hp
  have hpl : p.length ≤ 7 := by omega
  have hpg : 7 ≤ p.length := by omega
  have HCN := Lib.hid hc
  have HSM : Hid (∀ w u v, Sl w u (p.map encT) → Sl w v (q.map encT) → Calls Try.prog 19 #[u, v] w fun e w' => e = .returned (.bool ((a.toNat : Int) == (b.toNat : Int))) ∧ Ext w w') := Lib.hid (fun w u v h1 h2 => by
    have := sameBits_any u v p q w h1 h2 (by omega) (by omega)
    have e : decide (p = q) = ((a.toNat : Int) == (b.toNat : Int)) := by
      rw [Bool.eq_iff_iff, decide_eq_true_eq, beq_iff_eq]
      constructor
      · intro h; rw [hinj h]
      · intro h; exact heq (UInt8.toNat_inj.1 (by omega))
    rw [e] at this; exact this)
  obtain ⟨bb, hbb⟩ : ∃ bb, ((a.toNat : Int) == (b.toNat : Int)) = bb := ⟨_, rfl⟩
  rw [hbb] at HSM
  clear hp hc hq hinj heq
  go_enter Try.func9, Try.ntmps9
  go_wp2_with fail
  refine (HA.out _).mono ?_
  rintro e w1 ⟨v1, rfl, s1, x1⟩
  go_wp2_with fail
  refine (HB.out _).mono ?_
  rintro e w2 ⟨v2, rfl, s2, x2⟩
  replace s1 := s1.ext x2
  replace x1 := x1.trans x2
  simp only at s1 s2
  have HS1 := Lib.hid s1
  have HS2 := Lib.hid s2
  rcases s1 with ⟨h0, _⟩ | ⟨b1, o1, c1, rfl, hb1, hc1⟩
  · have : p = [] := by simpa using h0
    rw [this] at hpg; simp at hpg
  have HC1 : Hid (∀ w', Ext w2 w' → ∀ j (hj : j < p.length), w'.cell? ⟨b1, o1 + j, none⟩ = some (.bool p[j])) := Lib.hid (fun w' hx j hj => by
    rw [hx.cell (p := ⟨b1, o1 + j, none⟩) hb1, hc1 j (by rw [List.length_map]; exact hj), List.getElem?_map, List.getElem?_eq_getElem hj]; rfl)
  rw [List.length_map, HPL.out] at HS1 ⊢
  clear hc1 s2 x2 HA HB
  go_wp2
  go_loop [12, 11] (fun i n => ∃ j : Nat, j ≤ 7 ∧ i = .int .i64 (j : Int) ∧ n = .int .i64 ((cnt (p.take j) : Nat) : Int)) (fun i _ => 7 - (intOf i).toNat)
  case atStart => exact ⟨0, Nat.zero_le _, rfl, rfl⟩
  case round =>
    obtain ⟨j, hj, rfl, rfl⟩ := hrel
    have hcl := cnt_le (p.take j)
    rw [List.length_take] at hcl
    by_cases hlt : j < 7
    · have hjp : j < p.length := by omega
      have hcj := HC1.out w2 (Ext.refl _) j hjp
      have HSN := Lib.hid (cnt_snoc (p.take j) p[j])
      rw [← take_bit p j hjp] at HSN
      generalize cnt (p.take j) = g at *
      cases hbj : p[j]
      · rw [hbj] at HSN hcj
        clear hbj
        go_wp2
        go_round
        case rel => exact ⟨j + 1, by omega, by go_num, by rw [HSN.out]; rfl⟩
        case measure => simp [intOf]; omega
      · rw [hbj] at HSN hcj
        clear hbj
        go_wp2
        go_round
        case rel => exact ⟨j + 1, by omega, by go_num, by rw [HSN.out]; go_num⟩
        case measure => simp [intOf]; omega
    · obtain rfl : j = 7 := by omega
      have hta : p.take 7 = p := List.take_of_length_le (by omega)
      rw [hta, HCN.out] at hcl ⊢
      clear hj hlt hta hcl
      go_wp2_with fail
      refine (HSM.out _ _ _ HS1.out HS2.out).mono ?_
      rintro e w3 ⟨rfl, x3⟩
      cases bb
      all_goals
        go_wp2_with fail
        refine (example_any _).mono ?_
        rintro e w4 ⟨rfl, x4⟩
        go_wp2
        go_ret
        exact ⟨rfl, (x1.trans x3).trans x4⟩

set_option maxRecDepth 100000 in
set_option maxHeartbeats 4000000 in
theorem law_distinct (kind : Int) (a b : UInt8) (w : World) :
    Calls Try.prog 9 #[.int .i64 kind, .int .u8 (a.toNat : Int), .int .u8 (b.toNat : Int)] w fun e w' => e = .returned (.bool true) ∧ Ext w w' := by
  have HA := Lib.hid (fun w => ptn_any kind a w)
  have HB := Lib.hid (fun w => ptn_any kind b w)
  by_cases h1 : (Tw.ptn kind a).2 = 0
  · by_cases h2 : (Tw.ptn kind b).2 = 0
    · obtain ⟨L, C, hk, f1, f2, f3, f4⟩ := ptn_facts kind a b h1 h2
      have f5 : a = b → (Tw.ptn kind a).1 = (Tw.ptn kind b).1 := fun e => by rw [e]
      have e1 : Tw.ptn kind a = ((Tw.ptn kind a).1, 0) := Prod.ext rfl h1
      have e2 : Tw.ptn kind b = ((Tw.ptn kind b).1, 0) := Prod.ext rfl h2
      rw [e1] at HA
      rw [e2] at HB
      rcases hk with ⟨rfl, rfl, rfl⟩ | ⟨rfl, rfl, rfl⟩ | ⟨rfl, rfl, rfl⟩ | ⟨rfl, rfl, rfl⟩
      · exact dist_5 a b _ _ w f1 f2 f3 f4 f5 HA HB
      · exact dist_7 a b _ _ w f1 f2 f3 f4 f5 HA HB
      · exact dist_62 a b _ _ w f1 f2 f3 f4 f5 HA HB
      · exact dist_63 a b _ _ w f1 f2 f3 f4 f5 HA HB
    · have d2 : ((Tw.ptn kind b).2 != 0) = true := bne_iff_ne.2 h2
      rw [show Tw.ptn kind a = ((Tw.ptn kind a).1, 0) from Prod.ext rfl h1] at HA
      generalize Tw.ptn kind b = pb at *
      obtain ⟨pb1, pb2⟩ := pb
      simp only at d2
      clear h1 h2
      go_enter Try.func9, Try.ntmps9
      go_wp2_with fail
      refine (HA.out _).mono ?_
      rintro e w1 ⟨v1, rfl, s1, x1⟩
      go_wp2_with fail
      refine (HB.out _).mono ?_
      rintro e w2 ⟨v2, rfl, s2, x2⟩
      clear s1 s2
      go_wp2_with fail
      refine (example_any _).mono ?_
      rintro e w3 ⟨rfl, x3⟩
      go_wp2
      go_ret
      exact ⟨rfl, (x1.trans x2).trans x3⟩
  · have d1 : ((Tw.ptn kind a).2 != 0) = true := bne_iff_ne.2 h1
    generalize Tw.ptn kind a = pa at *
    generalize Tw.ptn kind b = pb at *
    obtain ⟨pa1, pa2⟩ := pa
    obtain ⟨pb1, pb2⟩ := pb
    simp only at d1
    clear h1
    go_enter Try.func9, Try.ntmps9
    go_wp2_with fail
    refine (HA.out _).mono ?_
    rintro e w1 ⟨v1, rfl, s1, x1⟩
    go_wp2_with fail
    refine (HB.out _).mono ?_
    rintro e w2 ⟨v2, rfl, s2, x2⟩
    clear s1 s2
    go_wp2_with fail
    refine (example_any _).mono ?_
    rintro e w3 ⟨rfl, x3⟩
    go_wp2
    go_ret
    exact ⟨rfl, (x1.trans x2).trans x3⟩
theorem law_distinct' (kind a b : Int) (w : World) (ha : 0 ≤ a ∧ a ≤ 255) (hb : 0 ≤ b ∧ b ≤ 255) :
    Calls Try.prog 9 #[.int .i64 kind, .int .u8 a, .int .u8 b] w fun e w' => e = .returned (.bool true) ∧ Ext w w' := by
  have e1 : ((UInt8.ofNat a.toNat).toNat : Int) = a := by simp; omega
  have e2 : ((UInt8.ofNat b.toNat).toNat : Int) = b := by simp; omega
  have := law_distinct kind (UInt8.ofNat a.toNat) (UInt8.ofNat b.toNat) w
  rw [e1, e2] at this; exact this
end Go.Proofs.Ytlocohcbfpeddaa
