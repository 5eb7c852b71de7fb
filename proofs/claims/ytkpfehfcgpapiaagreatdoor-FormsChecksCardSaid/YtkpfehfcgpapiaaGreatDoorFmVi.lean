/-
  Chapter 51: the words of a line: the program (labels).
  No condition.
-/
import Derived.Test.YtkpfehfcgpapiaaGreatDoorFmVe
import Derived.WalkMore
import Derived.ScopeJumps
import Derived.Test.YtkpfehfcgpapiaaGreatDoorFmVh
import Derived.Test.YtkpfehfcgpapiaaGreatDoorFmXa
import Derived.LaidEql

/-
  Chapter 51: the words of a line: the program (labels).
  No condition.
-/
namespace Go.Proofs.YtkpfehfcgpapiaaGreatDoor
open Go.RowKit

/-- As Q; by a goto: J of its label. -/
def jumps (J : Nat → Act → World → Prop) (Q : Exit → Act → World → Prop) : Exit → Act → World → Prop
  | .goto l, a, w => J l a w
  | e, a, w => Q e a w
/-- A scope in which the run jumps back to some labels: what holds at each, and a measure that every pass lowers. -/
theorem wp_scope_labels {P : Program} {a : Act} {w : World} {Q : Exit → Act → World → Prop} {c : Code} (J : Nat → Act → World → Prop) (μ : Nat → Act → World → Nat)
    (first : c.wp P (jumps J Q) a w)
    (pass : ∀ l a w, J l a w → ∃ rest, findLabel c l = some rest ∧ rest.wp P (jumps (fun l' a' w' => J l' a' w' ∧ μ l' a' w' < μ l a w) Q) a w) : (Code.scope c).wp P Q a w := by
  intro b k cs
  have hg : ∀ l rest, findLabel c l = some rest → gotoIn l (.inScope c :: k) = some (.code rest :: .inScope c :: k) := fun l rest hf => by simp [gotoIn, hf]
  have key : ∀ n l a w rest, μ l a w = n → J l a w → findLabel c l = some rest → ∃ e a' w', Q e a' w' ∧ Arrives P (lone (b.at a (.code rest :: .inScope c :: k)) cs w) b k cs e a' w' := by
    intro n
    induction n using Nat.strongRecOn with
    | _ n ih =>
      intro l a w rest hn hJ hf
      obtain ⟨rest', hf', hp⟩ := pass l a w hJ
      obtain rfl : rest' = rest := by rw [hf] at hf'; exact (Option.some.inj hf').symm
      obtain ⟨e, a₁, w₁, hq, harr⟩ := hp b (.inScope c :: k) cs
      cases e with
      | normal => exact ⟨.normal, a₁, w₁, hq, Steps.trans harr (.one step_inScope)⟩
      | exit id => exact ⟨.exit id, a₁, w₁, hq, fun k' hk => harr k' (by simp [exitTo, hk])⟩
      | goto l' =>
        obtain ⟨hJ', hlt⟩ := hq
        obtain ⟨r2, hf2, _⟩ := pass l' a₁ w₁ hJ'
        obtain ⟨e₂, a₂, w₂, hq₂, harr₂⟩ := ih _ (by omega) l' a₁ w₁ r2 rfl hJ' hf2
        exact ⟨e₂, a₂, w₂, hq₂, .of_steps (harr _ (hg l' r2 hf2)) harr₂⟩
      | ret => exact ⟨_, a₁, w₁, hq, harr⟩
      | panic ch => exact ⟨_, a₁, w₁, hq, harr⟩
      | outgrown => exact ⟨_, a₁, w₁, hq, harr⟩
  obtain ⟨e, a₁, w₁, hq, harr⟩ := first b (.inScope c :: k) cs
  cases e with
  | normal => exact ⟨.normal, a₁, w₁, hq, .head step_scope (Steps.trans harr (.one step_inScope))⟩
  | exit id => exact ⟨.exit id, a₁, w₁, hq, fun k' hk => .head step_scope (harr k' (by simp [exitTo, hk]))⟩
  | goto l' =>
    obtain ⟨r2, hf2, _⟩ := pass l' a₁ w₁ hq
    obtain ⟨e₂, a₂, w₂, hq₂, harr₂⟩ := key _ l' a₁ w₁ r2 rfl hq hf2
    exact ⟨e₂, a₂, w₂, hq₂, .of_steps (.head step_scope (harr _ (hg l' r2 hf2))) harr₂⟩
  | ret => exact ⟨_, a₁, w₁, hq, .of_steps (.one step_scope) harr⟩
  | panic ch => exact ⟨_, a₁, w₁, hq, .of_steps (.one step_scope) harr⟩
  | outgrown => exact ⟨_, a₁, w₁, hq, .of_steps (.one step_scope) harr⟩

theorem wgo_stop32 (cur r : Fm.S) (h : cur ≠ []) : Fm.wgo cur (32 :: r) = cur :: Fm.wgo [] (32 :: r) := by
  rw [Fm.wgo_stop cur h r]
  show cur :: Fm.words r = cur :: Fm.words (32 :: r)
  rw [Fm.words_sp]
theorem part_snoc (s : ByteArray) (f k : Nat) (hf : f ≤ k) (h : k < s.size) : (s.data.toList.drop f).take (k + 1 - f) = (s.data.toList.drop f).take (k - f) ++ [s[k]] := by
  have e : k + 1 - f = (k - f) + 1 := by omega
  have h1 : (s.data.toList.drop f)[k - f]? = some s[k] := by
    rw [List.getElem?_drop, show f + (k - f) = k by omega, List.getElem?_eq_getElem (by rw [len_data]; exact h)]; rfl
  rw [e, List.take_add_one, h1]; rfl
theorem is32 (c : UInt8) : c = 32 ↔ c.toNat = 32 := ⟨fun h => by rw [h]; rfl, fun h => UInt8.toNat_inj.1 h⟩

set_option maxRecDepth 100000 in
set_option maxHeartbeats 1000000 in
theorem wordsOf_any (s : ByteArray) (hs : s.size ≤ 1000000) (w : World) :
    Calls Tryz.prog 83 #[.string s] w fun e w' => ∃ v, e = .returned v ∧ OwnS w' w.heap.size v (Fm.words s.data.toList) ∧ Ext w w' := by
  obtain ⟨res, hres⟩ : ∃ res, Fm.words s.data.toList = res := ⟨_, rfl⟩
  rw [hres]
  have HRES : Hid (res = Fm.wgo [] s.data.toList) := Lib.hid hres.symm
  clear hres
  go_enter Tryz.func83, Tryz.ntmps83
  go_wp2
  refine wp_scope_labels (fun lb a' w' => (lb = 0 ∧ ∃ (k : Nat) (v u5 u6 u7 u8 u9 u10 u11 u12 u13 u14 u15 u16 u17 u18 u19 u20 u21 u22 u23 u24 u25 u26 u27 u28 u29 u30 u31 u32 u33 u34 u35 u36 : Value), a' = { tmps := #[.string s, undef, .slice none 0 0, v, .int .i64 (k : Int), u5, u6, u7, u8, u9, u10, u11, u12, u13, u14, u15, u16, u17, u18, u19, u20, u21, u22, u23, u24, u25, u26, u27, u28, u29, u30, u31, u32, u33, u34, u35, u36], defers := [] } ∧ k ≤ s.size ∧ Hid (∃ done, OwnS w' w.heap.size v done ∧ done.length ≤ k ∧ res = done ++ Fm.wgo [] (s.data.toList.drop k)) ∧ Hid (Ext w w')) ∨ (lb = 1 ∧ ∃ (k f : Nat) (v u6 u7 u8 u9 u10 u11 u12 u13 u14 u15 u16 u17 u18 u19 u20 u21 u22 u23 u24 u25 u26 u27 u28 u29 u30 u31 u32 u33 u34 u35 u36 : Value), a' = { tmps := #[.string s, undef, .slice none 0 0, v, .int .i64 (k : Int), .int .i64 (f : Int), u6, u7, u8, u9, u10, u11, u12, u13, u14, u15, u16, u17, u18, u19, u20, u21, u22, u23, u24, u25, u26, u27, u28, u29, u30, u31, u32, u33, u34, u35, u36], defers := [] } ∧ f < k ∧ k ≤ s.size ∧ Hid (∃ done, OwnS w' w.heap.size v done ∧ done.length ≤ f ∧ res = done ++ Fm.wgo ((s.data.toList.drop f).take (k - f)) (s.data.toList.drop k)) ∧ Hid (Ext w w'))) (fun lb a' _ => 2 * (s.size - (intOf (a'.tmps.getD 4 undef)).toNat) + lb) ?_ ?_
  · obtain ⟨k, hk0⟩ : ∃ k : Nat, k = 0 := ⟨_, rfl⟩
    have hk : k ≤ s.size := by omega
    have HD : Hid (∃ done, OwnS w w.heap.size (.slice none 0 0) done ∧ done.length ≤ k ∧ res = done ++ Fm.wgo [] (s.data.toList.drop k)) := Lib.hid ⟨[], OwnS.nil _ _, Nat.zero_le _, by rw [hk0]; exact HRES.out⟩
    have HX := Lib.hid (Ext.refl w)
    have h0i : (0 : Int) = (k : Int) := by omega
    go_wp2
    go_step3
    rw [h0i]
    clear h0i hk0
    by_cases hlt : k < s.size
    rotate_left
    · obtain rfl : k = s.size := by omega
      obtain ⟨done, ho, hdl, hr⟩ := HD.out
      rw [drop_all] at hr
      have HO : Hid (OwnS w w.heap.size (.slice none 0 0) res) := Lib.hid (by rw [hr]; simpa [Fm.wgo] using ho)
      clear ho hdl hr HD hlt
      go_wp2
      simp only [jumps]
      go_ret
      exact ⟨_, rfl, HO.out, HX.out⟩
    have hne : ((k : Int) == (s.size : Int)) = false := by rw [beq_eq_false_iff_ne]; omega
    have hltI : (k : Int) < (s.size : Int) := by omega
    obtain ⟨m, hm⟩ : ∃ m : Nat, m = k + 1 := ⟨_, rfl⟩
    have hkm : (k : Int) + 1 = (m : Int) := by omega
    obtain ⟨x, hx⟩ : ∃ x : Nat, s[k].toNat = x := ⟨_, rfl⟩
    obtain ⟨done, ho, hdl, hr⟩ := HD.out
    rw [drop_cons s k hlt] at hr
    by_cases h32 : s[k] = 32
    · have hx32 : x = 32 := by rw [← hx]; exact (is32 _).1 h32
      have HD2 : Hid (∃ done, OwnS w w.heap.size (.slice none 0 0) done ∧ done.length ≤ m ∧ res = done ++ Fm.wgo [] (s.data.toList.drop m)) := Lib.hid ⟨done, ho, by omega, by rw [hr, h32, hm]; rw [show Fm.wgo [] (32 :: s.data.toList.drop (k + 1)) = Fm.wgo [] (s.data.toList.drop (k + 1)) from Fm.words_sp _]⟩
      have z1 : ((x : Int) == 32) = true := by rw [hx32]; rfl
      have HM := Lib.hid hm
      clear HD ho hdl hr h32 hx32 hm
      go_wp2
      go_step3
      have hm := HM.out
      exact .inl ⟨rfl, m, _, _, _, _, _, _, _, _, _, _, _, _, _, _, _, _, _, _, _, _, _, _, _, _, _, _, _, _, _, _, _, _, _, rfl, by omega, HD2, HX⟩
    · have hx32 : x ≠ 32 := by rw [← hx]; exact fun h => h32 ((is32 _).2 h)
      have HD2 : Hid (∃ done, OwnS w w.heap.size (.slice none 0 0) done ∧ done.length ≤ k ∧ res = done ++ Fm.wgo ((s.data.toList.drop k).take (m - k)) (s.data.toList.drop m)) := Lib.hid ⟨done, ho, hdl, by
        rw [hr, Fm.wgo_in _ _ _ h32, hm, part_snoc s k k (Nat.le_refl _) hlt, Nat.sub_self]; rfl⟩
      have z1 : ((x : Int) == 32) = false := by rw [beq_eq_false_iff_ne]; omega
      have z2 : ((x : Int) != 32) = true := by rw [bne_iff_ne]; omega
      have HM := Lib.hid hm
      clear HD ho hdl hr h32 hx32 hm
      go_wp2
      go_step3
      go_wp2
      go_step3
      have hm := HM.out
      exact .inr ⟨rfl, m, k, _, _, _, _, _, _, _, _, _, _, _, _, _, _, _, _, _, _, _, _, _, _, _, _, _, _, _, _, _, _, _, _, rfl, by omega, by omega, HD2, HX⟩
  · rintro lb a' w' (⟨rfl, k, v, u5, u6, u7, u8, u9, u10, u11, u12, u13, u14, u15, u16, u17, u18, u19, u20, u21, u22, u23, u24, u25, u26, u27, u28, u29, u30, u31, u32, u33, u34, u35, u36, rfl, hk, HD, HX⟩ | ⟨rfl, k, f, v, u6, u7, u8, u9, u10, u11, u12, u13, u14, u15, u16, u17, u18, u19, u20, u21, u22, u23, u24, u25, u26, u27, u28, u29, u30, u31, u32, u33, u34, u35, u36, rfl, hfk, hk, HD, HX⟩)
    · refine ⟨_, rfl, ?_⟩
      by_cases hlt : k < s.size
      rotate_left
      · obtain rfl : k = s.size := by omega
        obtain ⟨done, ho, hdl, hr⟩ := HD.out
        rw [drop_all] at hr
        have HO : Hid (OwnS w' w.heap.size v res) := Lib.hid (by rw [hr]; simpa [Fm.wgo] using ho)
        clear ho hdl hr HD hlt
        go_wp2
        simp only [jumps]
        go_ret
        exact ⟨_, rfl, HO.out, HX.out⟩
      have hne : ((k : Int) == (s.size : Int)) = false := by rw [beq_eq_false_iff_ne]; omega
      have hltI : (k : Int) < (s.size : Int) := by omega
      obtain ⟨m, hm⟩ : ∃ m : Nat, m = k + 1 := ⟨_, rfl⟩
      have hkm : (k : Int) + 1 = (m : Int) := by omega
      obtain ⟨x, hx⟩ : ∃ x : Nat, s[k].toNat = x := ⟨_, rfl⟩
      obtain ⟨done, ho, hdl, hr⟩ := HD.out
      rw [drop_cons s k hlt] at hr
      by_cases h32 : s[k] = 32
      · have hx32 : x = 32 := by rw [← hx]; exact (is32 _).1 h32
        have HD2 : Hid (∃ done, OwnS w' w.heap.size v done ∧ done.length ≤ m ∧ res = done ++ Fm.wgo [] (s.data.toList.drop m)) := Lib.hid ⟨done, ho, by omega, by rw [hr, h32, hm]; rw [show Fm.wgo [] (32 :: s.data.toList.drop (k + 1)) = Fm.wgo [] (s.data.toList.drop (k + 1)) from Fm.words_sp _]⟩
        have z1 : ((x : Int) == 32) = true := by rw [hx32]; rfl
        have HM := Lib.hid hm
        clear HD ho hdl hr h32 hx32 hm
        go_wp2
        go_step3
        have hm := HM.out
        exact ⟨.inl ⟨rfl, m, _, _, _, _, _, _, _, _, _, _, _, _, _, _, _, _, _, _, _, _, _, _, _, _, _, _, _, _, _, _, _, _, _, rfl, by omega, HD2, HX⟩, by simp [intOf]; omega⟩
      · have hx32 : x ≠ 32 := by rw [← hx]; exact fun h => h32 ((is32 _).2 h)
        have HD2 : Hid (∃ done, OwnS w' w.heap.size v done ∧ done.length ≤ k ∧ res = done ++ Fm.wgo ((s.data.toList.drop k).take (m - k)) (s.data.toList.drop m)) := Lib.hid ⟨done, ho, hdl, by
          rw [hr, Fm.wgo_in _ _ _ h32, hm, part_snoc s k k (Nat.le_refl _) hlt, Nat.sub_self]; rfl⟩
        have z1 : ((x : Int) == 32) = false := by rw [beq_eq_false_iff_ne]; omega
        have z2 : ((x : Int) != 32) = true := by rw [bne_iff_ne]; omega
        have HM := Lib.hid hm
        clear HD ho hdl hr h32 hx32 hm
        go_wp2
        go_step3
        go_wp2
        go_step3
        have hm := HM.out
        exact ⟨.inr ⟨rfl, m, k, _, _, _, _, _, _, _, _, _, _, _, _, _, _, _, _, _, _, _, _, _, _, _, _, _, _, _, _, _, _, _, _, rfl, by omega, by omega, HD2, HX⟩, by simp [intOf]; omega⟩
    · refine ⟨_, rfl, ?_⟩
      obtain ⟨done, ho, hdl, hr⟩ := HD.out
      by_cases hlt : k < s.size
      · have hltI : (k : Int) < (s.size : Int) := by omega
        obtain ⟨m, hm⟩ : ∃ m : Nat, m = k + 1 := ⟨_, rfl⟩
        have hkm : (k : Int) + 1 = (m : Int) := by omega
        obtain ⟨x, hx⟩ : ∃ x : Nat, s[k].toNat = x := ⟨_, rfl⟩
        by_cases h32 : s[k] = 32
        · have hx32 : x = 32 := by rw [← hx]; exact (is32 _).1 h32
          have z1 : ((x : Int) != 32) = false := by rw [hx32]; rfl
          have hdc := drop_cons s k hlt
          rw [hdc, h32] at hr
          have HDC := Lib.hid hdc
          have H32 := Lib.hid h32
          clear hm h32 hx32 hdc
          have hcut := cut_mid s f k
          have hcne : (s.data.toList.drop f).take (k - f) ≠ [] := by
            intro e
            have := congrArg List.length e
            rw [List.length_take, List.length_drop, len_data] at this
            simp at this; omega
          have HRR : Hid (res = (done ++ [(s.extract f k).data.toList]) ++ Fm.wgo [] (s.data.toList.drop k)) := Lib.hid (by rw [hr, hcut, wgo_stop32 _ _ hcne, HDC.out, H32.out]; simp)
          have HOW := Lib.hid ho
          have hdl2 : done.length ≤ 1000000 := by omega
          have hfk : f ≤ k := by omega
          have hsz := HX.out.size
          have HCUT := Lib.hid hcut
          clear HD ho hr hcut hcne
          try clear hks
          have hown := HOW.out
          go_wp2_with (at_builtin; refine wpList_append_str rfl _ _ rfl w.heap.size _ _ rfl (hown.alloc _) (s.extract f k) _ rfl ?c1 ?c2 ?c3 ?_)
          try (case c1 => simp [go_sem])
          case c2 => omega
          case c3 => first | (simp; omega) | omega
          intro v' w5 hown5 hg5
          have HD2 : Hid (∃ done, OwnS w5 w.heap.size v' done ∧ done.length ≤ k ∧ res = done ++ Fm.wgo [] (s.data.toList.drop k)) := Lib.hid ⟨_, hown5, by simp; omega, by rw [HRR.out, HCUT.out]⟩
          have HX5 := Lib.hid ((HX.out.alloc (.cells #[.string (s.extract f k)] 9)).ofGrown hg5 hown.low)
          clear hown hown5 hg5
          go_wp2
          go_step3
          exact ⟨.inl ⟨rfl, k, _, _, _, _, _, _, _, _, _, _, _, _, _, _, _, _, _, _, _, _, _, _, _, _, _, _, _, _, _, _, _, _, _, rfl, by omega, HD2, HX5⟩, by simp [intOf]⟩
        · have hx32 : x ≠ 32 := by rw [← hx]; exact fun h => h32 ((is32 _).2 h)
          have z1 : ((x : Int) != 32) = true := by rw [bne_iff_ne]; omega
          have HD2 : Hid (∃ done, OwnS w' w.heap.size v done ∧ done.length ≤ f ∧ res = done ++ Fm.wgo ((s.data.toList.drop f).take (m - f)) (s.data.toList.drop m)) := Lib.hid ⟨done, ho, hdl, by
            rw [hr, drop_cons s k hlt, Fm.wgo_in _ _ _ h32, hm, part_snoc s f k (by omega) hlt]⟩
          have HM := Lib.hid hm
          clear HD ho hdl hr h32 hx32 hm
          go_wp2
          go_step3
          have hm := HM.out
          exact ⟨.inr ⟨rfl, m, f, _, _, _, _, _, _, _, _, _, _, _, _, _, _, _, _, _, _, _, _, _, _, _, _, _, _, _, _, _, _, _, _, rfl, by omega, by omega, HD2, HX⟩, by simp [intOf]; omega⟩
      · have hks : k = s.size := by omega
        have hltI : ¬ (k : Int) < (s.size : Int) := by omega
        have hdec : decide ((k : Int) < (s.size : Int)) = false := decide_eq_false hltI
        have hcut := cut_mid s f k
        have hcne : (s.data.toList.drop f).take (k - f) ≠ [] := by
          intro e
          have := congrArg List.length e
          rw [List.length_take, List.length_drop, len_data] at this
          simp at this; omega
        have HRR : Hid (res = (done ++ [(s.extract f k).data.toList]) ++ Fm.wgo [] (s.data.toList.drop k)) := Lib.hid (by rw [hr, hcut, hks, drop_all, ← hks, Fm.wgo_end _ hcne]; simp [Fm.wgo])
        have HOW := Lib.hid ho
        have hdl2 : done.length ≤ 1000000 := by omega
        have hfk : f ≤ k := by omega
        have hsz := HX.out.size
        have HCUT := Lib.hid hcut
        clear HD ho hr hcut hcne
        try clear hks
        have hown := HOW.out
        go_wp2_with (at_builtin; refine wpList_append_str rfl _ _ rfl w.heap.size _ _ rfl (hown.alloc _) (s.extract f k) _ rfl ?c1 ?c2 ?c3 ?_)
        try (case c1 => simp [go_sem])
        case c2 => omega
        case c3 => first | (simp; omega) | omega
        intro v' w5 hown5 hg5
        have HD2 : Hid (∃ done, OwnS w5 w.heap.size v' done ∧ done.length ≤ k ∧ res = done ++ Fm.wgo [] (s.data.toList.drop k)) := Lib.hid ⟨_, hown5, by simp; omega, by rw [HRR.out, HCUT.out]⟩
        have HX5 := Lib.hid ((HX.out.alloc (.cells #[.string (s.extract f k)] 9)).ofGrown hg5 hown.low)
        clear hown hown5 hg5
        go_wp2
        go_step3
        exact ⟨.inl ⟨rfl, k, _, _, _, _, _, _, _, _, _, _, _, _, _, _, _, _, _, _, _, _, _, _, _, _, _, _, _, _, _, _, _, _, _, rfl, by omega, HD2, HX5⟩, by simp [intOf]⟩
end Go.Proofs.YtkpfehfcgpapiaaGreatDoor

/-
  Chapter 51: a text of a form, read: the program, where the text is a form's.
  No condition.
-/
namespace Go.Proofs.YtkpfehfcgpapiaaGreatDoor
open Go.RowKit

theorem FrmO.far {w : World} {B g r i : Nat} {nm : Fm.S} {fs : List Fm.Fld} {ss : List Fm.Sm} {vf vs : Value} {gs : List (Fm.Fld × Lie)} {hs : List (Fm.Sm × Lie)} {cs : Array Value} {fr : Nat × Nat} (h : FrmO w B g nm fs ss vf vs gs hs) (hr : w.heap[r]? = some (.cells cs 25 fr)) (hne : r ≠ g) (u : Value) : FrmO (w.setCell ⟨r, i, .none⟩ u) B g nm fs ss vf vs gs hs := by
  have hst := grown_set w r i u
  exact ⟨far1 hne h.row, h.flds.kept hst (h.flds.off hr (by decide)), h.sums.kept hst (h.sums.off hr (by decide)), fun x hx => (h.inF x hx).kept hst ((h.inF x hx).off hr (by decide)), fun x hx => (h.inS x hx).kept hst ((h.inS x hx).off hr (by decide)), h.ef, h.es⟩
theorem load_frm {w : World} {g : Nat} {t : TypeId} {x0 x1 x2 : Value} (hg : w.heap[g]? = some (.cells #[x0, x1, x2] t (0, 0))) : (loadVar 25 ⟨g, 0, none⟩).run Tryz.prog w = .ok (.agg #[x0, x1, x2]) w := by
  rw [run_loadVar_row w g t _ #[x0, x1, x2] (0, 0) _ hg Tryz.underlying25 rfl (by kernel_rfl)]
theorem Fm.wgo_ne : ∀ (s cur : Fm.S), ∀ w ∈ Fm.wgo cur s, w ≠ [] := by
  intro s
  induction s with
  | nil =>
    intro cur w hw
    unfold Fm.wgo at hw
    by_cases h : cur = []
    · rw [if_pos h] at hw; cases hw
    · rw [if_neg h, List.mem_singleton] at hw; rw [hw]; exact h
  | cons c r ih =>
    intro cur w hw
    unfold Fm.wgo at hw
    by_cases hc : c = 32
    · rw [if_pos hc] at hw
      by_cases h : cur = []
      · rw [if_pos h] at hw; exact ih [] w hw
      · rw [if_neg h] at hw
        rcases List.mem_cons.1 hw with rfl | hw
        · exact h
        · exact ih [] w hw
    · rw [if_neg hc] at hw; exact ih _ w hw
theorem Fm.stepL_len {st st' : Fm.St} {ws : List Fm.S} (h : Fm.stepL st ws = some st') : st'.2.1.length ≤ st.2.1.length + 1 ∧ st'.2.2.length ≤ st.2.2.length + 1 := by
  unfold Fm.stepL at h
  split at h
  · injection h with h; subst h; omega
  · split at h
    · injection h with h; subst h; omega
    · split at h
      · split at h
        · injection h with h; subst h; simp
        · cases h
      · split at h
        · split at h
          · injection h with h; subst h; simp
          · cases h
        · split at h
          · cases h
          · obtain ⟨f, -, rfl⟩ := Option.map_eq_some_iff.1 h; simp
theorem Fm.runL_len : ∀ (ls : List Fm.S) (st st' : Fm.St), Fm.runL st ls = some st' → st'.2.1.length ≤ st.2.1.length + ls.length ∧ st'.2.2.length ≤ st.2.2.length + ls.length := by
  intro ls
  induction ls with
  | nil => intro st st' h; unfold Fm.runL at h; injection h with h; subst h; simp
  | cons l r ih =>
    intro st st' h
    unfold Fm.runL at h
    cases hs : Fm.stepL st (Fm.words l) with
    | none => rw [hs] at h; cases h
    | some x =>
      rw [hs] at h
      have h1 := ih x st' h
      have h2 := Fm.stepL_len hs
      simp only [List.length_cons]
      omega
/-- What parse hands back. -/
def PrsR (F : Fm.Frm) (w : World) (e : Ending) (w' : World) : Prop := (∃ (vf vs : Value) (B g : Nat) (gs : List (Fm.Fld × Lie)) (hs : List (Fm.Sm × Lie)), e = .returned (.tuple #[.agg #[strV F.name, vf, vs], .nilIface]) ∧ FrmO w' B g F.name F.fields F.sums vf vs gs hs ∧ w.heap.size ≤ g) ∧ Ext w w'
set_option maxRecDepth 100000 in
set_option maxHeartbeats 1000000 in
theorem parse_any (T : ByteArray) (F : Fm.Frm) (w : World) (hs : T.size ≤ 65536) (hp : Fm.parseS T.data.toList = some F) :
    Calls Tryz.prog 48 #[.string T] w (PrsR F w) := by
  have hfin : Fm.runL (none, [], []) (Fm.linesOf T.data.toList) = some (some F.name, F.fields, F.sums) := by
    unfold Fm.parseS at hp
    split at hp
    · next nm fs ss h => injection hp with hp; rw [h, ← hp]
    · cases hp
  obtain ⟨V, hV⟩ : ∃ V, V = (w.alloc (.cells #[.string ⟨#[]⟩, .slice none 0 0, .slice none 0 0] 25)).alloc (.cells #[.string ⟨#[]⟩, .slice none 0 0, .slice none 0 0] 25) := ⟨_, rfl⟩
  have HSP := Lib.hid (split_any T V (by omega))
  have HVE := Lib.hid hV
  go_enter Tryz.func48, Tryz.ntmps48
  go_wp2_with fail
  rw [← HVE.out]
  refine Calls.mono HSP.out ?_
  rintro e w1 ⟨⟨v, rfl, ho⟩, hx1⟩
  have HTL := Lib.hid (Fm.lines_few T.data.toList)
  have HSH := Lib.hid (Fm.lines_short T.data.toList)
  have hzV : V.heap.size = w.heap.size + 2 := by rw [hV]; simp
  have RG : V.heap[w.heap.size + 1]? = some (.cells #[.string ⟨#[]⟩, .slice none 0 0, .slice none 0 0] 25 (0, 0)) := by
    rw [hV]
    have := heap_alloc_new (w.alloc (.cells #[.string ⟨#[]⟩, .slice none 0 0, .slice none 0 0] 25)) (.cells #[.string ⟨#[]⟩, .slice none 0 0, .slice none 0 0] 25)
    rw [World.size_alloc] at this
    exact this
  have RR : V.heap[w.heap.size]? = some (.cells #[.string ⟨#[]⟩, .slice none 0 0, .slice none 0 0] 25 (0, 0)) := by
    rw [hV]
    exact row_on (heap_alloc_new w _) ((Ext.refl _).alloc _)
  have hxV : Ext w V := by rw [hV]; exact ((Ext.refl w).alloc _).alloc _
  have HF0 := Lib.hid (FrmO.none (B := w1.heap.size) (nm := []) (row_on RG hx1))
  have HR0 := Lib.hid (row_on RR hx1)
  have hoff := ho.off (row_on RG hx1) (by decide)
  have hstr := KOwn.strs ho
  obtain ⟨L, hL⟩ : ∃ L, L = Fm.linesOf T.data.toList := ⟨_, rfl⟩
  rw [← hL] at hstr hfin
  obtain ⟨a, c, rfl, hc⟩ := hstr.form
  obtain ⟨n, hn⟩ : ∃ n, n = L.length := ⟨_, rfl⟩
  rw [← hn] at hstr hc hoff ⊢
  have HLL := Lib.hid hL
  have HN := Lib.hid hn
  have HST := Lib.hid hstr
  have HX1 := Lib.hid (hxV.trans hx1)
  have HSZ := Lib.hid hzV
  have HOF := Lib.hid hoff
  have HFIN := Lib.hid hfin
  have hn1 : n ≤ 65537 := by rw [hn, hL]; have h1 := Fm.lines_few T.data.toList; have h2 : T.data.toList.length = T.size := rfl; omega
  clear hV hzV RG RR hxV hoff hstr hL hn ho hx1 hp hfin hc
  go_wp2_with fail
  go_loopw [5, 13] (fun m t wr => ∃ (k : Nat) (st : Fm.St) (nm : Fm.S) (vf vs : Value) (gs : List (Fm.Fld × Lie)) (hs : List (Fm.Sm × Lie)), k ≤ n ∧ t = .int .i64 (k : Int) ∧ m = .bool st.1.isSome ∧ Hid (Fm.runL (none, [], []) (L.take k) = some st) ∧ Hid (∀ z, st.1 = some z → nm = z) ∧ Hid (FrmO wr w1.heap.size (w.heap.size + 1) nm st.2.1 st.2.2 vf vs gs hs) ∧ Hid (Kp w1 wr w1.heap.size (w.heap.size + 1))) (fun _ t _ => n - (intOf t).toNat)
  case atStart => exact ⟨0, (none, [], []), [], _, _, [], [], Nat.zero_le _, rfl, rfl, Lib.hid rfl, Lib.hid (fun z h => by cases h), HF0, Lib.hid (Kp.refl _ _ _)⟩
  case round =>
    obtain ⟨k, st, nm, vf, vs, gs, hs, hk, rfl, rfl, HRUN, HNM, HF, HK⟩ := hrel
    clear HF0
    by_cases hlt : k < n
    · obtain ⟨l, hlk⟩ : ∃ l, L[k]? = some l := ⟨_, List.getElem?_eq_getElem (by rw [← HN.out]; exact hlt)⟩
      obtain ⟨st', hst'⟩ := Fm.runL_all HFIN.out (k + 1)
      have hstep := (Fm.runL_step hlk HRUN.out).symm.trans hst'
      obtain ⟨b, o, rfl, hb, c0⟩ := strs_at HST.out hlk
      have hbg : b ≠ w.heap.size + 1 := fun e => HOF.out.elim (fun h => by cases h) (fun h => h (by rw [← e]; rfl))
      have d0 : wr.cell? ⟨b, o + k, none⟩ = some (.string ⟨l.toArray⟩) := by
        rw [← c0]
        exact World.cell?_of_block (a := ⟨b, o + k, none⟩) (HK.out.block b hb hb hbg)
      have hlen : l.length ≤ 65536 := by have := HSH.out l (HLL.out ▸ List.mem_of_getElem? hlk); have h2 : T.data.toList.length = T.size := rfl; omega
      have HW := Lib.hid (wordsOf_any ⟨l.toArray⟩ (show l.length ≤ 1000000 by omega) wr)
      go_wp2_with fail
      refine Calls.mono HW.out ?_
      rintro e w2 ⟨v2, rfl, hv2, hx2⟩
      have hsr := own_strs hv2
      have hwl := Fm.words_short l
      have hwf := Fm.words_few l
      have hwn := Fm.wgo_ne l []
      have hcnt := Fm.runL_len _ _ _ HRUN.out
      have hnx := hst'
      obtain ⟨ws, hws⟩ : ∃ ws, ws = Fm.words l := ⟨_, rfl⟩
      rw [show Fm.wgo [] l = Fm.words l from rfl] at hwn
      replace hsr : StrsR w2 v2 (Fm.words l) := hsr
      rw [← hws] at hstep hsr hwl hwf hwn
      obtain ⟨a2, c2, rfl, hc2⟩ := hsr.form
      have HF2 := Lib.hid (HF.out.ext hx2)
      have HK2 := Lib.hid (HK.out.trans (Kp.ofExt hx2 _ _))
      have hkw : w1.heap.size ≤ w2.heap.size := HK2.out.size
      have HSR := Lib.hid hsr
      have HNX := Lib.hid hnx
      have hgl : gs.length = st.2.1.length := by rw [← HF.out.ef, List.length_map]
      have hhl : hs.length = st.2.2.length := by rw [← HF.out.es, List.length_map]
      have hg1 : gs.length ≤ 1000000 := by have := hcnt.1; simp at this; omega
      have hh1 : hs.length ≤ 1000000 := by have := hcnt.2; simp at this; omega
      have HSTEP := Lib.hid hstep
      have HWL := Lib.hid hwl
      have HWN := Lib.hid hwn
      clear hv2 hx2 hsr hstep hws hnx hst' hwl hwn hcnt hgl hhl HK HF HRUN HW d0 c0 hlk hbg
      cases ws with
      | nil =>
        have hst : st = st' := by have h := HSTEP.out; unfold Fm.stepL at h; injection h
        subst hst
        go_wp2_with fail
        go_roundw
        case rel => exact ⟨k + 1, st, nm, vf, vs, gs, hs, by omega, by go_num, rfl, HNX, HNM, HF2, HK2⟩
        case measure => simp [intOf]; omega
      | cons x r =>
        obtain ⟨b2, o2, X, ha2, hb2, rfl, d0⟩ := HSR.out.here (Ext.refl w2) (i := 0) rfl
        subst ha2
        rw [Nat.add_zero] at d0
        have hX0 : 0 < X.size := by
          rw [← len_data]
          exact List.length_pos_iff.2 (HWN.out _ (List.mem_cons_self ..))
        have hX0I : (0 : Int) < (X.size : Int) := by omega
        have hXd : X.data.toList.headD 0 = X[0] := head_at X hX0
        obtain ⟨y, hy⟩ : ∃ y : Nat, X[0].toNat = y := ⟨_, rfl⟩
        have hrl : r.length ≤ 1000000 := by simp at hwf; omega
        obtain ⟨N, hN⟩ : ∃ N, N = r.length + 1 := ⟨_, rfl⟩
        rw [List.length_cons, ← hN] at HSR ⊢
        have hN0 : 0 < N := by omega
        have hN0b : ((N : Int) == 0) = false := by rw [beq_eq_false_iff_ne]; omega
        have HXE := Lib.hid (fun (h : X.data.toList.headD 0 = 35) => h)
        by_cases h35 : X.data.toList.headD 0 = 35
        · have hst : st = st' := by have h := HSTEP.out; unfold Fm.stepL at h; dsimp only at h; rw [if_pos h35] at h; injection h
          subst hst
          have z35 : ((y : Int) == 35) = true := by rw [← hy, ← hXd, h35]; rfl
          clear hXd h35 HXE
          go_wp2_with fail
          go_roundw
          case rel => exact ⟨k + 1, st, nm, vf, vs, gs, hs, by omega, by go_num, rfl, HNX, HNM, HF2, HK2⟩
          case measure => simp [intOf]; omega
        have z35 : ((y : Int) == 35) = false := by
          rw [beq_eq_false_iff_ne, ← hy]
          intro e
          exact h35 (by rw [hXd]; exact UInt8.toNat_inj.1 (by have h : (35 : UInt8).toNat = 35 := rfl; omega))
        obtain ⟨so, fs, ss⟩ := st
        have hstep := HSTEP.out
        unfold Fm.stepL at hstep
        dsimp only at hstep
        rw [if_neg h35] at hstep
        dsimp only at HF2
        clear hXd h35 HXE HSTEP
        cases so with
        | none =>
          try dsimp only at hstep
          by_cases hfm : X.data.toList = Fm.tForm ∧ r.length = 1
          rotate_left
          · rw [if_neg hfm] at hstep; cases hstep
          rw [if_pos hfm] at hstep
          injection hstep with hst
          obtain ⟨hfx, hr1⟩ := hfm
          match r, hr1 with
          | [z], _ =>
            subst hst
            obtain rfl : X = ⟨#[102, 111, 114, 109]⟩ := bytes_ext hfx
            obtain rfl : N = 2 := by rw [hN]; rfl
            have d1 := strs_cell HSR.out (i := 1) (s := z) rfl
            obtain ⟨Z, hZ⟩ : ∃ Z : ByteArray, Z = ⟨z.toArray⟩ := ⟨_, rfl⟩
            rw [← hZ] at d1
            have hsv : strV z = .string Z := by rw [hZ]; rfl
            have r2 := HF2.out.row
            have p0 : w2.cell? ⟨w.heap.size + 1, 0, none⟩ = some (strV nm) := cell_at r2 rfl
            have f0 : w2.frozen? ⟨w.heap.size + 1, 0, none⟩ = false := frz_at r2
            have HS := Lib.hid (HF2.out.setN z)
            rw [hsv] at HS
            have HSK := Lib.hid (HK2.out.trans HS.out.2)
            have HSF := Lib.hid HS.out.1
            clear r2 hZ hsv hN hfx hy z35 HS
            go_wp2_with fail
            go_roundw
            case rel => exact ⟨k + 1, (some z, fs, ss), z, vf, vs, gs, hs, by omega, by go_num, rfl, HNX, Lib.hid (fun q hq => by injection hq), HSF, HSK⟩
            case measure => simp [intOf]; omega
        | some z =>
          obtain rfl : nm = z := HNM.out _ rfl
          try dsimp only at hstep
          by_cases hsum : X.data.toList = Fm.tSum
          · rw [if_pos hsum] at hstep
            match r, hstep with
            | t :: p :: ps, hstep =>
              dsimp only at hstep
              injection hstep with hst
              subst hst
              have HPL := Lib.hid (parseLineS_any w1.heap.size (w.heap.size + 1) nm fs ss vf vs gs hs b2 o2 c2 ⟨t.toArray⟩ (p :: ps) w2 HF2.out hkw (by rw [hN] at HSR; rw [← hsum]; exact HSR.out) (by simp) (by simp at hrl ⊢; omega) hh1)
              rw [show (p :: ps).length + 2 = N by rw [hN]; rfl] at HPL
              clear hN hsum
              go_wp2_with fail
              refine Calls.mono HPL.out ?_
              rintro e w3 ⟨rfl, ⟨vs', hs', hF3⟩, hK3⟩
              have HF3 := Lib.hid hF3
              have HK3 := Lib.hid (HK2.out.trans hK3)
              clear hF3 hK3 HF2 HK2 d0 HPL
              go_wp2_with fail
              go_roundw
              case rel => exact ⟨k + 1, (some nm, fs, ss ++ [⟨t, p :: ps⟩]), nm, vf, vs', gs, hs', by omega, by go_num, rfl, HNX, Lib.hid (fun q hq => by injection hq), HF3, HK3⟩
              case measure => simp [intOf]; omega
          · rw [if_neg hsum] at hstep
            by_cases hkd : Fm.kindOf X.data.toList = 0
            · rw [if_pos hkd] at hstep; cases hstep
            rw [if_neg hkd] at hstep
            obtain ⟨f, hf, hst⟩ := Option.map_eq_some_iff.1 hstep
            subst hst
            have HPL := Lib.hid (parseLineF_any w1.heap.size (w.heap.size + 1) nm fs ss vf vs gs hs b2 o2 c2 X r f w2 HF2.out hkw (by rw [hN] at HSR; exact HSR.out) hsum hkd hf (fun s hs => by have := HWL.out s (List.mem_cons_of_mem _ hs); omega) hrl hg1)
            rw [← hN] at HPL
            clear hN hsum hkd hf hstep
            go_wp2_with fail
            refine Calls.mono HPL.out ?_
            rintro e w3 ⟨rfl, ⟨vf', gs', hF3⟩, hK3⟩
            have HF3 := Lib.hid hF3
            have HK3 := Lib.hid (HK2.out.trans hK3)
            clear hF3 hK3 HF2 HK2 d0 HPL
            go_wp2_with fail
            go_roundw
            case rel => exact ⟨k + 1, (some nm, fs ++ [f], ss), nm, vf', vs, gs', hs, by omega, by go_num, rfl, HNX, Lib.hid (fun q hq => by injection hq), HF3, HK3⟩
            case measure => simp [intOf]; omega
    · obtain rfl : k = n := by omega
      have hst : st = (some F.name, F.fields, F.sums) := by
        have h1 := HRUN.out
        rw [HN.out, List.take_length, HFIN.out] at h1
        injection h1 with h1
        exact h1.symm
      subst hst
      obtain rfl : nm = F.name := HNM.out _ rfl
      obtain ⟨fa, fc, rfl⟩ := (HF.out.flds.sl encF_len).form
      obtain ⟨sa, sc, rfl⟩ := (HF.out.sums.sl encM_len).form
      have r3 := HF.out.row
      have g0 : wr.cell? ⟨w.heap.size + 1, 0, none⟩ = some (.string ⟨F.name.toArray⟩) := cell_at r3 rfl
      have g1 : wr.cell? ⟨w.heap.size + 1, 1, none⟩ = some (.slice fa gs.length fc) := cell_at r3 rfl
      have g2 : wr.cell? ⟨w.heap.size + 1, 2, none⟩ = some (.slice sa hs.length sc) := cell_at r3 rfl
      have rr := (HK.out.block w.heap.size (lt_at HR0.out) (lt_at HR0.out) (by omega)).trans HR0.out
      have z0 : wr.cell? ⟨w.heap.size, 0, none⟩ = some (.string ⟨#[]⟩) := cell_at rr rfl
      have z1 : wr.cell? ⟨w.heap.size, 1, none⟩ = some (.slice none 0 0) := cell_at rr rfl
      have z2 : wr.cell? ⟨w.heap.size, 2, none⟩ = some (.slice none 0 0) := cell_at rr rfl
      have f0 : wr.frozen? ⟨w.heap.size, 0, none⟩ = false := frz_at rr
      have f1 : wr.frozen? ⟨w.heap.size, 1, none⟩ = false := frz_at rr
      have f2 : wr.frozen? ⟨w.heap.size, 2, none⟩ = false := frz_at rr
      have HRS := Lib.hid (row3_set (p := .string ⟨F.name.toArray⟩) (q := .slice fa gs.length fc) (r := .slice sa hs.length sc) (Lib.hid rr))
      have hF1 := HF.out.far (i := 0) rr (by omega) (.string ⟨F.name.toArray⟩)
      have rr1 := heap_set (i := 0) (u := .string ⟨F.name.toArray⟩) rr
      have hF2 := hF1.far (i := 1) rr1 (by omega) (.slice fa gs.length fc)
      have rr2 := heap_set (i := 1) (u := .slice fa gs.length fc) rr1
      have HF3 := Lib.hid (hF2.far (i := 2) rr2 (by omega) (.slice sa hs.length sc))
      have HXE := Lib.hid ((((HK.out.over HX1.out (by have := HX1.out.size; omega) (by omega)).setCell (p := ⟨w.heap.size, 0, none⟩) (Nat.le_refl _) (.string ⟨F.name.toArray⟩)).setCell (p := ⟨w.heap.size, 1, none⟩) (Nat.le_refl _) (.slice fa gs.length fc)).setCell (p := ⟨w.heap.size, 2, none⟩) (Nat.le_refl _) (.slice sa hs.length sc))
      clear hF1 hF2 rr1 rr2 rr r3
      go_wp2_with fail
      refine bodyPost_ret (results_st Tryz.results48 rfl rfl (load_frm HRS.out)) rfl ?_
      exact ⟨⟨_, _, _, _, _, _, rfl, HF3.out, by omega⟩, HXE.out⟩
end Go.Proofs.YtkpfehfcgpapiaaGreatDoor

/-
  Chapter 51: Parse: the program, where the text is a valid form's.
  No condition.
-/
namespace Go.Proofs.YtkpfehfcgpapiaaGreatDoor
open Go.RowKit

set_option maxRecDepth 100000 in
set_option maxHeartbeats 1000000 in
theorem is_nil (v : Value) (T : TypeId) (a : Addr) (hv : v = .iface T (.pointer (some a))) (w : World) : Calls Tryz.prog 49 #[.nilIface, v] w fun e w' => e = .returned (.bool false) ∧ Ext w w' := by
  subst hv
  have hb : ∀ w', (binOp .eql 73 .nilIface (.iface T (.pointer (some a)))).run Tryz.prog w' = .ok (.bool false) w' := by
    intro w'
    exact run_eql_iface_nil_left _ T _ Tryz.underlying73
  go_enter Tryz.func49, Tryz.ntmps49
  go_wp2
  go_ret
  exact ⟨rfl, (by repeat (first | exact Ext.refl _ | assumption | refine Ext.alloc ?_ _ | refine Ext.drew ?_ | refine Ext.trans ?_ (by assumption)))⟩
/-- What a parsed form is in memory. -/
def FrmX (F : Fm.Frm) (w : World) (e : Ending) (w' : World) : Prop := (∃ (vf vs : Value), e = .returned (.tuple #[.agg #[strV F.name, vf, vs], .int .i64 0]) ∧ FldsR w' vf F.fields ∧ SumsR w' vs F.sums) ∧ Ext w w'
set_option maxRecDepth 100000 in
set_option maxHeartbeats 1000000 in
theorem fparse_any (T : ByteArray) (F : Fm.Frm) (w : World) (hs : T.size ≤ 65536) (hp : Fm.parseS T.data.toList = some F) (hc : Fm.check F = 0) (hB : ∀ f ∈ F.fields, FldB f) (hM : ∀ r ∈ F.sums, SmB r) (hE : Errs w) :
    Calls Tryz.prog 20 #[.string T] w (FrmX F w) := by
  obtain ⟨V, hV⟩ : ∃ V, V = w.alloc (.cells #[.string ⟨#[]⟩, .slice none 0 0, .slice none 0 0] 25) := ⟨_, rfl⟩
  have HP := Lib.hid (parse_any T F V hs hp)
  have HC := Lib.hid hc
  have HB := Lib.hid hB
  have HM := Lib.hid hM
  have HE := Lib.hid hE
  have hxV : Ext w V := by rw [hV]; exact (Ext.refl w).alloc _
  have hzV : V.heap.size = w.heap.size + 1 := by rw [hV]; simp
  have RR : V.heap[w.heap.size]? = some (.cells #[.string ⟨#[]⟩, .slice none 0 0, .slice none 0 0] 25 (0, 0)) := by rw [hV]; exact heap_alloc_new w _
  have HVE := Lib.hid hV
  have HXV := Lib.hid hxV
  have HRR := Lib.hid RR
  have z0 : ¬ (65536 : Int) < (T.size : Int) := by omega
  clear hs hp hc hB hM hE hV hxV RR
  go_enter Tryz.func20, Tryz.ntmps20
  go_wp2_with fail
  rw [← HVE.out]
  refine Calls.mono HP.out ?_
  rintro e w1 ⟨⟨vf, vs, B, g, gs, hs, rfl, hfo, hgV⟩, hx1⟩
  have hf := hfo.fldsR
  have hm := hfo.sumsR
  obtain ⟨a, c, rfl⟩ := hf.form
  obtain ⟨a2, c2, rfl⟩ := hm.form
  obtain ⟨NM, hNM⟩ : ∃ NM : ByteArray, NM = ⟨F.name.toArray⟩ := ⟨_, rfl⟩
  rw [show strV F.name = .string NM by rw [hNM]; rfl]
  have HNM := Lib.hid hNM
  obtain ⟨n, hn⟩ : ∃ n, n = F.fields.length := ⟨_, rfl⟩
  obtain ⟨n2, hn2⟩ : ∃ n2, n2 = F.sums.length := ⟨_, rfl⟩
  have HN := Lib.hid hn
  have HN2 := Lib.hid hn2
  rw [← hn] at hf ⊢
  rw [← hn2] at hm ⊢
  obtain ⟨W2, hW2⟩ : ∃ W2, W2 = w1.alloc (.cells #[.string NM, .slice a n c, .slice a2 n2 c2] 25) := ⟨_, rfl⟩
  have hx2 : Ext w1 W2 := by rw [hW2]; exact (Ext.refl w1).alloc _
  have hz2 : W2.heap.size = w1.heap.size + 1 := by rw [hW2]; simp
  have R2 : W2.heap[w1.heap.size]? = some (.cells #[.string NM, .slice a n c, .slice a2 n2 c2] 25 (0, 0)) := by rw [hW2]; exact heap_alloc_new w1 _
  have HF := Lib.hid (hf.ext hx2)
  have HS := Lib.hid (hm.ext hx2)
  have HX2 := Lib.hid (HXV.out.trans (hx1.trans hx2))
  have HRR2 := Lib.hid (row_on HRR.out (hx1.trans hx2))
  have HFO := Lib.hid (hfo.ext hx2)
  have hgne : w.heap.size ≠ g := by omega
  obtain ⟨TE, ae, hce⟩ := (HE.out.ext HX2.out).2
  have hce2 := hce
  rw [hW2] at hce2
  have HIS := Lib.hid (is_nil _ TE ae rfl W2)
  have HW2 := Lib.hid hW2
  have HR2 := Lib.hid R2
  clear hf hm hfo hx1 hx2 hn hn2 hNM hW2 R2 hce
  go_wp2_with fail
  rw [← HW2.out]
  refine Calls.mono HIS.out ?_
  rintro e w3 ⟨rfl, hx3⟩
  have R3 := row_on HR2.out hx3
  have k0 : w3.cell? ⟨w1.heap.size, 0, none⟩ = some (.string NM) := cell_at R3 rfl
  have k1 : w3.cell? ⟨w1.heap.size, 1, none⟩ = some (.slice a n c) := cell_at R3 rfl
  have k2 : w3.cell? ⟨w1.heap.size, 2, none⟩ = some (.slice a2 n2 c2) := cell_at R3 rfl
  have HCK := Lib.hid (check_any NM a n c a2 n2 c2 F.fields F.sums w3 (HF.out.ext hx3) (HS.out.ext hx3) HB.out HM.out)
  rw [show (⟨NM.data.toList, F.fields, F.sums⟩ : Fm.Frm) = F by rw [HNM.out], HC.out] at HCK
  have HX3 := Lib.hid hx3
  clear R3 hx3 hce2
  go_wp2_with fail
  refine HCK.out.mono ?_
  rintro e w4 ⟨rfl, hx4⟩
  have R4 := row_on HR2.out (HX3.out.trans hx4)
  have m0 : w4.cell? ⟨w1.heap.size, 0, none⟩ = some (.string NM) := cell_at R4 rfl
  have m1 : w4.cell? ⟨w1.heap.size, 1, none⟩ = some (.slice a n c) := cell_at R4 rfl
  have m2 : w4.cell? ⟨w1.heap.size, 2, none⟩ = some (.slice a2 n2 c2) := cell_at R4 rfl
  have rr := row_on HRR2.out (HX3.out.trans hx4)
  have z0 : w4.cell? ⟨w.heap.size, 0, none⟩ = some (.string ⟨#[]⟩) := cell_at rr rfl
  have z1 : w4.cell? ⟨w.heap.size, 1, none⟩ = some (.slice none 0 0) := cell_at rr rfl
  have z2 : w4.cell? ⟨w.heap.size, 2, none⟩ = some (.slice none 0 0) := cell_at rr rfl
  have f0 : w4.frozen? ⟨w.heap.size, 0, none⟩ = false := frz_at rr
  have f1 : w4.frozen? ⟨w.heap.size, 1, none⟩ = false := frz_at rr
  have f2 : w4.frozen? ⟨w.heap.size, 2, none⟩ = false := frz_at rr
  have HRS := Lib.hid (row3_set (p := .string NM) (q := .slice a n c) (r := .slice a2 n2 c2) (Lib.hid rr))
  have hF4 := HFO.out.ext (HX3.out.trans hx4)
  have hF5 := hF4.far (i := 0) rr hgne (.string NM)
  have rr1 := heap_set (i := 0) (u := .string NM) rr
  have hF6 := hF5.far (i := 1) rr1 hgne (.slice a n c)
  have rr2 := heap_set (i := 1) (u := .slice a n c) rr1
  have HF7 := Lib.hid (hF6.far (i := 2) rr2 hgne (.slice a2 n2 c2))
  have HXE := Lib.hid (((((HX2.out.trans (HX3.out.trans hx4)).setCell (p := ⟨w.heap.size, 0, none⟩) (Nat.le_refl _) (.string NM)).setCell (p := ⟨w.heap.size, 1, none⟩) (Nat.le_refl _) (.slice a n c)).setCell (p := ⟨w.heap.size, 2, none⟩) (Nat.le_refl _) (.slice a2 n2 c2)))
  clear rr R4 hF4 hF5 hF6 rr1 rr2 k0 k1 k2
  go_wp2_with fail
  refine bodyPost_ret (results_st Tryz.results20 rfl rfl (load_frm HRS.out)) rfl ?_
  exact ⟨⟨.slice a n c, .slice a2 n2 c2, by rw [HNM.out]; rfl, by have h := HF7.out.fldsR; rw [← HN.out] at h; exact h, by have h := HF7.out.sumsR; rw [← HN2.out] at h; exact h⟩, HXE.out⟩
end Go.Proofs.YtkpfehfcgpapiaaGreatDoor
