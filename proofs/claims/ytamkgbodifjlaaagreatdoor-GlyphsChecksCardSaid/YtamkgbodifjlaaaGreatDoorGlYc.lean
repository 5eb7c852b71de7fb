/-
  Chapter 48, the program: maps of partial texts; beginnings.
  No condition.
-/
import Derived.Test.YtamkgbodifjlaaaGreatDoorGlYb
import Derived.Maps.RangeWalk
import Derived.StringKeys
import Derived.Lib.SlTrimSet
import Derived.Test.YtamkgbodifjlaaaGreatDoorRelA
import Derived.Test.YtamkgbodifjlaaaGreatDoorApd
import Derived.Test.YtamkgbodifjlaaaGreatDoorCdMa

/-
  Chapter 48, the program: maps of partial texts; beginnings.
  No condition.
-/
namespace Go.Proofs.YtamkgbodifjlaaaGreatDoor
open Go.RowKit Go.Maps

theorem strK : Keyed Tryz.prog 9 := string_keyed Tryz.underlying9
theorem keyLit (s : List UInt8) : WideAt.IsKeyLit (.string s) := trivial
theorem zero_pt (w : World) : (zeroValue 96).run Tryz.prog w = .ok (.agg #[.string ⟨#[]⟩, .int .i64 0]) w := by kernel_rfl
theorem keyOf_bS (l : List UInt8) (h : l.length ≤ 2) : keyOf Tryz.prog 9 (.string (bS l)) = some (.string l) := by
  have := WideMaps.keyOf_string_mk (P := Tryz.prog) (k := 9) Tryz.underlying9 (s := bS l) (by rw [bS_size]; unfold maxLen; omega)
  rw [bS_list] at this; exact this
theorem ownsMap_tight {H : Type} {w : World} {P : Program} {k : TypeId} {R : Value → Option (DataW H × List MemPlace)} {b n : Nat} {D : DataW H} (h : w.ownsMap P k R b n D) : w.ownsMap P k R b (Maps.size D) D := by
  obtain ⟨es, clock, hb, F, _, rfl⟩ := h
  exact ⟨es, clock, hb, F, by simp [Maps.size, length_sorted], rfl⟩
theorem ownsMap_ext {H : Type} {w w' : World} {P : Program} {k : TypeId} {R : Value → Option (DataW H × List MemPlace)} {b n : Nat} {D : DataW H} (h : w.ownsMap P k R b n D) (hx : Ext w w') : w'.ownsMap P k R b n D := h.kept (row := none) hx.asGrown (by simp)
theorem ranges_ext {H : Type} {w w' : World} {P : Program} {k : TypeId} {R : Value → Option (DataW H × List MemPlace)} {b r n cnt : Nat} {D : DataW H} {left : Lit → Bool} (h : w.ranges P k R b r n D left cnt) (hx : Ext w w') : w'.ranges P k R b r n D left cnt := h.kept (row := none) hx.asGrown (by simp) (by simp)
section
variable {H : Type} {P : Program} (w : World) {ops : Array Oper} {rest : List Oper} {o : Oper} {a : Act} {Q : Exit → Act → World → Prop}
/-- An entry of a map that is written out. -/
theorem wpList_insert_own (hg : o.guard = none) (m x v : Operand) (t : TypeId) (hop : o.op = Op.insert t m x v)
    (k e : TypeId) (K : Keyed P k) (ht : P.underlying t = some (.map k e)) (R : Value → Option (DataW H × List MemPlace)) (b n : Nat) (D : DataW H)
    (hm : a.eval m = .map (some b)) (hown : w.ownsMap P k R b n D) (hn : n < maxLen) (key val : Value) (kl : Lit) (hx : a.eval x = key) (hv : a.eval v = val) (hkey : keyOf P k key = some kl)
    (d : DataW H) (ps : List MemPlace) (hval : R val = some (d, ps))
    (hK : ∀ w', w'.ownsMap P k R b (n + 1) (D.put kl d) → w.grownBy w' (some b) → wpList P ops Q rest (a.put o.dst undef) w') :
    wpList P ops Q (o :: rest) a w := by
  refine wpList_plain hg fun K' hK' => ?_
  obtain ⟨w', hrun, r1, r2⟩ := hown.update K ht hn hkey hval
  unfold Oper.wp
  simp [execOp, hop, hm, hx, hv, hrun, Result.andThen]
  exact hK' _ _ (hK w' r1 r2)
/-- 'v, ok := m[k]' at partial texts. -/
theorem wpList_lookup_part (hg : o.guard = none) (m x : Operand) (t : TypeId) (hop : o.op = Op.lookup t m x true)
    (k e : TypeId) (K : Keyed P k) (ht : P.underlying t = some (.map k e)) (hz : (zeroValue e).run P w = .ok (.agg #[.string ⟨#[]⟩, .int .i64 0]) w) (b n : Nat) (D : DataW H)
    (hm : a.eval m = .map (some b)) (hown : w.ownsMap P k partR b n D) (key : Value) (kl : Lit) (hx : a.eval x = key) (hkey : keyOf P k key = some kl)
    (hK : ∀ p : Gl.Pt, D.atKey kl (Gl.dat ([], 0)) = Gl.dat p → wpList P ops Q rest (a.put o.dst (.tuple #[.agg #[.string (bS p.1), .int .i64 p.2], .bool (Maps.has D kl)])) w) :
    wpList P ops Q (o :: rest) a w :=
  wpList_lookup_own_ok w hg m x t hop k e K ht partR hz (Gl.dat ([], 0)) [] (partR_mk _ _) b n D hm hown key kl hx hkey (fun v ps hv => by
    obtain ⟨s, c, rfl, hz⟩ := partR_inv hv
    have h2 := hK (s.data.toList, c) (congrArg Prod.fst hz)
    have e : bS s.data.toList = s := mk_toList s
    rw [e] at h2
    exact h2)
/-- A range's step at partial texts. -/
theorem wpList_next_part (hg : o.guard = none) (it : Operand) (hop : o.op = Op.next it false) (k : TypeId) (K : Keyed P k) (hk : P.underlying k = some .string)
    (b r n : Nat) (D : DataW H) (left : Lit → Bool) (cnt : Nat) (hit : a.eval it = .pointer (some ⟨r, 0, none⟩)) (h : w.ranges P k partR b r n D left cnt)
    (hDone : cnt = 0 → (∀ kl, left kl = false) → wpList P ops Q rest (a.put o.dst (.tuple #[.bool false])) w)
    (hMore : ∀ (x : List UInt8) (p : Gl.Pt) (w' : World) (cnt' : Nat), left (.string x) = true → (∀ zd, D.atKey (.string x) zd = Gl.dat p) → w'.ranges P k partR b r n D (fun z => left z && !z.sameKey (.string x)) cnt' → cnt' < cnt →
      w.grownBy w' (some r) → w'.heap.size = w.heap.size → (Instr.entry (.pointer (some ⟨r, 0, none⟩))).run P w' = .ok (.tuple #[.string (bS x), .agg #[.string (bS p.1), .int .i64 p.2]]) w' → wpList P ops Q rest (a.put o.dst (.tuple #[.bool true, .string (bS x), .agg #[.string (bS p.1), .int .i64 p.2]])) w') :
    wpList P ops Q (o :: rest) a w :=
  wpList_next_ranges w hg it hop k K partR Value.string (fun p : ByteArray × Int => .agg #[.string p.1, .int .i64 p.2]) (fun key kl hkey => by obtain ⟨s, rfl, _, _⟩ := WideMaps.string_of_keyOf hk hkey; exact ⟨s, rfl⟩) (fun v y hv => by obtain ⟨s, c, rfl, _⟩ := partR_inv hv; exact ⟨(s, c), rfl⟩)
    b r n D left cnt hit h hDone (fun x c kl y w' cnt' hkey hlk hv hat hrg hlt hgr hsz hen => by
      obtain ⟨s', ex, rfl, _⟩ := WideMaps.string_of_keyOf hk hkey
      injection ex with ex
      subst ex
      obtain ⟨s, n', e, rfl⟩ := partR_inv hv
      obtain ⟨c1, c2⟩ := c
      injection e with e
      simp only [Array.mk.injEq, List.cons.injEq, Value.string.injEq, Value.int.injEq, true_and, and_true] at e
      obtain ⟨rfl, rfl⟩ := e
      have h2 := hMore x.data.toList (c1.data.toList, c2) w' cnt' hlk hat hrg hlt hgr hsz
      have e1 : ∀ z : ByteArray, bS z.data.toList = z := mk_toList
      rw [e1, e1] at h2
      exact h2 hen)
end

set_option maxRecDepth 100000 in
set_option maxHeartbeats 8000000 in
theorem begin_any (check : Int) (n : Nat) (ls : List (List Gl.Ch)) (T : Nat → Gl.Pt) (v : Value) (w : World) (hv : Opts w v ls) (hn : n ≤ ls.length) (h64 : ls.length ≤ 64) (HWI : Gl.Wins ls check n T) (hc : ∀ l ∈ ls, ∀ c ∈ l, 0 ≤ c.2 ∧ c.2 ≤ 35) (hnl : ∀ l ∈ ls, l.length ≤ 200000) :
    Calls Tryz.prog 57 #[v, .int .i64 (n : Int), .int .i64 check] w fun e w' =>
      ∃ (b : Nat) (D : DataW Unit), e = .returned (.map (some b)) ∧ w.heap.size ≤ b ∧ w'.ownsMap Tryz.prog 9 partR b 65793 D ∧ Gl.States ls check n n D ∧ Gl.HasT check n T n D ∧ Ext w w' := by
  obtain ⟨a, c, rfl, hmc⟩ := hv.form
  obtain ⟨m, hm⟩ : ∃ m, ls.length = m := ⟨_, rfl⟩
  have HV := Lib.hid hv
  rw [hm] at hn h64 HV hmc ⊢
  have HLN := Lib.hid hm
  have HCB := Lib.hid hc
  have HNB := Lib.hid hnl
  have hnI : (n : Int) ≤ (c : Int) := by omega
  clear hv hm hc hnl
  go_enter Tryz.func57, Tryz.ntmps57
  have hmm := @run_makeMap Tryz.prog
  have hmade := World.ownsMap_made (H := Unit) w Tryz.prog 9 partR
  obtain ⟨w1, hrun1, hown1, hg1⟩ := hmade.update strK Tryz.underlying97 (by unfold maxLen; omega) (key := .string ⟨#[]⟩) (val := .agg #[.string ⟨#[]⟩, .int .i64 0]) (keyOf_bS [] (by simp)) (partR_mk ⟨#[]⟩ 0)
  have hst := Gl.States.start (os := ls) (check := check) (n := n) T HWI.zero (D := .map []) hmade.isMap (fun _ => rfl) (keyLit [])
  have hx1 : Ext w w1 := ((Ext.refl w).alloc _).ofGrown hg1 (fun b hb => by injection hb with hb; omega)
  have HO1 : Hid (w1.ownsMap Tryz.prog 9 partR w.heap.size 65793 (DataW.put (.map []) (.string []) (Gl.dat (H := Unit) ([], 0)))) := Lib.hid (hown1.mono (by omega))
  have HS1 := Lib.hid hst
  have HX1 := Lib.hid hx1
  have HM := Lib.hid hmm
  clear hmade hown1 hg1 hst hx1
  go_wp2
  clear hrun1 hmm
  go_loopw [7, 27] (fun v7 v27 wr => ∃ (i b : Nat) (D : DataW Unit), i ≤ n ∧ v27 = .int .i64 (i : Int) ∧ v7 = .map (some b) ∧ w.heap.size ≤ b ∧ Hid (wr.ownsMap Tryz.prog 9 partR b 65793 D) ∧ Hid (Gl.States ls check n i D) ∧ Hid (Gl.HasT check n T i D) ∧ Hid (Ext w wr)) (fun _ v27 _ => n - (intOf v27).toNat)
  case atStart => exact ⟨0, _, _, Nat.zero_le _, rfl, rfl, Nat.le_refl _, HO1, Lib.hid HS1.out.1, Lib.hid HS1.out.2, HX1⟩
  case round =>
    clear HO1 HS1 HX1
    obtain ⟨i, b, D, hi, rfl, rfl, hb, HO, HS, HT, HX⟩ := hrel
    by_cases hlt : i < n
    · obtain ⟨l, hl⟩ : ∃ l, ls[i]? = some l := ⟨_, List.getElem?_eq_getElem (by rw [HLN.out]; omega)⟩
      have hlm : l ∈ ls := List.mem_of_getElem? hl
      have hll := HNB.out l hlm
      have HCL := Lib.hid (HCB.out l hlm)
      obtain ⟨bv, off, rfl, hbv, a', c', hcell, hsl⟩ := (HV.out.ext HX.out).at_ hl
      have hltI : (i : Int) < (n : Int) := by omega
      have hmm := HM.out
      have HSL := Lib.hid hsl
      have HL := Lib.hid hl
      clear hsl hl hlm
      go_wp2_with (first | (at_range; refine wpList_range_own _ rfl _ 97 rfl 9 96 strK Tryz.underlying97 partR b 65793 D rfl (HO.out.alloc _) ?_; intro w0 hrg0 hg0 hs0) | go_in)
      go_frame
      have hN0 := (World.ownsMap_made (H := Unit) wr Tryz.prog 9 partR).kept hg0 (by simp)
      rw [World.size_alloc] at hrg0 hs0 ⊢
      have hXA : Ext wr w0 := ((Ext.refl wr).alloc _).ofGrown hg0 (fun k hk => by cases hk)
      have hbl := HO.out.lt
      obtain ⟨b2, hb2⟩ : ∃ b2, wr.heap.size = b2 := ⟨_, rfl⟩
      rw [hb2] at hN0 hrg0 hs0 hbl ⊢
      have HB2 := Lib.hid hb2
      have HRG0 := Lib.hid hrg0
      have HN0 := Lib.hid (hN0.mono (Nat.zero_le 65793))
      have HXA := Lib.hid hXA
      obtain ⟨l', jt, ct, hl1, hl2, hl3⟩ := HWI.step i hlt
      have hll' : l' = l := by rw [HL.out] at hl1; exact (Option.some.inj hl1).symm
      rw [hll'] at hl2
      have HCT := Lib.hid (And.intro hl2 hl3)
      clear hN0 hrg0 hg0 hs0 hXA hl1 hl2 hl3 hll' hcell hmm hb2
      obtain ⟨wa, hwa⟩ : ∃ wa, wa = wr := ⟨_, rfl⟩
      subst hwa
      go_loopw [34] (fun _ wq => ∃ (left : Lit → Bool) (cnt : Nat) (N : DataW Unit), Hid (wq.ranges Tryz.prog 9 partR b (b2 + 1) 65793 D left cnt) ∧ Hid (wq.ownsMap Tryz.prog 9 partR b2 65793 N) ∧ Hid (Gl.States ls check n (i + 1) N) ∧ Hid (left (.string (Gl.keyAt check n i (T i).1)) = false → Gl.HasT check n T (i + 1) N) ∧ Hid (Ext wa wq)) (fun _ wq => wq.rangeLeft b (b2 + 1))
      case atStart => exact ⟨_, _, _, HRG0, HN0, Lib.hid (Gl.States.empty _ fun _ => rfl), Lib.hid (fun h => by rw [HT.out.1] at h; cases h), HXA⟩
      case round =>
        clear HRG0 HN0 HXA
        obtain ⟨left, cnt, N, HRG, HN, HSN, HTN, HXQ⟩ := hrel
        go_wp2_with (first | (at_next; refine wpList_next_part _ rfl _ rfl 9 strK Tryz.underlying9 b (b2 + 1) 65793 D left cnt rfl HRG.out ?_ ?_) | go_in)
        · intro _ hl0
          have HTE := Lib.hid (HTN.out (hl0 _))
          have HXE := Lib.hid (HX.out.trans HXQ.out)
          have hbw : w.heap.size ≤ b2 := by omega
          clear hl0
          go_wp2
          go_roundw
          case rel => exact ⟨i + 1, b2, N, by omega, by go_num, rfl, hbw, HN, HSN, HTE, HXE⟩
          case measure => simp [intOf]; omega
        · intro x pt pc w5 cnt5 hlx hat hrg5 hlt5 hg5 hs5 hen
          obtain ⟨p', hgd, _, hkx, hp'⟩ := HS.out (.string x) (has_true_of_atKey hat)
          obtain rfl : p' = (pt, pc) := Gl.dat_inj ((hp' .nil).symm.trans (hat .nil))
          have HGD := Lib.hid hgd
          have hptl := hgd.len
          have hpcb := hgd.cost HCB.out
          dsimp only at hptl hpcb
          have HTP : Hid (Lit.string x = .string (Gl.keyAt check n i (T i).1) → (pt, pc) = T i) := Lib.hid (fun e => by
            have := HT.out.2 .nil
            rw [← e, hat .nil] at this
            exact Gl.dat_inj this)
          have HX5 : Hid (Ext wa w5) := Lib.hid (HXQ.out.ofGrown hg5 (fun k hk => by injection hk with hk; have := HB2.out; omega))
          have HN5 := Lib.hid (HN.out.kept hg5 (by simp))
          have hbp2 : b2 + 1 < w5.heap.size := hrg5.lt
          have HRG5 := Lib.hid hrg5
          have hlt5' : cnt5 < wr.rangeLeft b (b2 + 1) := by rw [HRG.out.left_eq]; exact hlt5
          obtain ⟨ps, hps⟩ : ∃ ps, bS pt = ps := ⟨_, rfl⟩
          have hpsz : ps.size ≤ 64 := by rw [← hps, bS_size]; omega
          obtain ⟨xs, hxs⟩ : ∃ xs, bS x = xs := ⟨_, rfl⟩
          rw [hps, hxs] at hen ⊢
          have HPS := Lib.hid hps
          have HLX := Lib.hid hlx
          clear hgd hkx hp' hat hlx hrg5 hg5 hlt5 hps hxs hs5
          have HX5a : Hid (Ext wa (w5.alloc (.cells #[.string ps, .int .i64 pc] 96))) := Lib.hid (HX5.out.alloc _)
          have HRG5a := Lib.hid (HRG5.out.alloc (.cells #[.string ps, .int .i64 pc] 96))
          have HN5a := Lib.hid (HN5.out.alloc (.cells #[.string ps, .int .i64 pc] 96))
          have HC5 := Lib.hid (heap_alloc_new w5 (.cells #[.string ps, .int .i64 pc] 96))
          go_wp2
          obtain ⟨bp, hbp⟩ : ∃ bp, w5.heap.size = bp := ⟨_, rfl⟩
          rw [hbp] at HC5 hbp2 ⊢
          clear hen hbp
          obtain ⟨wb, hwb⟩ : ∃ wb, wb = wr := ⟨_, rfl⟩
          subst hwb
          go_loopw [40] (fun v40 wz => ∃ (j : Nat) (N : DataW Unit), j ≤ l.length ∧ v40 = .int .i64 (j : Int) ∧ Hid (wz.ranges Tryz.prog 9 partR b (b2 + 1) 65793 D (fun z => left z && !z.sameKey (.string x)) cnt5) ∧ Hid (wz.ownsMap Tryz.prog 9 partR b2 65793 N) ∧ Hid (Gl.States ls check n (i + 1) N) ∧
            Hid ((left (.string (Gl.keyAt check n i (T i).1)) = false ∨ (Lit.string x = .string (Gl.keyAt check n i (T i).1) ∧ jt < j)) → Gl.HasT check n T (i + 1) N) ∧ Hid (wz.heap[bp]? = some (.cells #[.string ps, .int .i64 pc] 96 (0, 0))) ∧ Hid (Ext wa wz)) (fun v40 _ => l.length - (intOf v40).toNat)
          case atStart => exact ⟨0, N, Nat.zero_le _, rfl, HRG5a, HN5a, HSN, Lib.hid (fun h => HTN.out (h.resolve_right (fun h => absurd h.2 (Nat.not_lt_zero _)))), HC5, HX5a⟩
          case round =>
            clear HRG5a HN5a HSN HTN HC5 HX5a HX5 HN5 HRG5 HN HRG HXQ
            obtain ⟨j, N, hj, rfl, HRZ, HNZ, HSZ, HTZ, HCZ, HXZ⟩ := hrel
            by_cases hjl : j < l.length
            · obtain ⟨ch, hch⟩ : ∃ ch, l[j]? = some ch := ⟨_, List.getElem?_eq_getElem hjl⟩
              have hchm : ch ∈ l := List.mem_of_getElem? hch
              have hcnb := HCL.out ch hchm
              obtain ⟨bc, offc, rfl, hbc, hcc⟩ := (HSL.out.ext HXZ.out).at_ hch
              have HCH := Lib.hid hch
              obtain ⟨ca, cn⟩ := ch
              have q0 : wr.cell? ⟨bc, offc + j * 2, none⟩ = some (.int .u8 (ca.toNat : Int)) := hcc 0 (by omega)
              have q1 : wr.cell? ⟨bc, offc + j * 2 + 1, none⟩ = some (.int .i64 cn) := hcc 1 (by omega)
              have p0 := cell_at HCZ.out (i := 0) rfl
              have p1 := cell_at HCZ.out (i := 1) rfl
              have hbw := lt_at HCZ.out
              have ne1 : ¬ bp = wr.heap.size := by omega
              have ne2 : ¬ bp = wr.heap.size + 1 := by omega
              dsimp only at hcnb
              have HCN := Lib.hid hchm
              have hjlI : (j : Int) < (l.length : Int) := by omega
              clear hch hchm hcc
              have hcv : (convert 38 9 (.slice (some ⟨wr.heap.size + 1, 0, none⟩) 1 1)).run Tryz.prog ((wr.alloc (.cells #[.int .u8 (ca.toNat : Int), .int .i64 cn] 67)).alloc (.cells #[.int .u8 (ca.toNat : Int)] 5)) = .ok (.string (bS [ca])) ((wr.alloc (.cells #[.int .u8 (ca.toNat : Int), .int .i64 cn] 67)).alloc (.cells #[.int .u8 (ca.toNat : Int)] 5)) := by
                have h := run_convert_sl (w := (wr.alloc (.cells #[.int .u8 (ca.toNat : Int), .int .i64 cn] 67)).alloc (.cells #[.int .u8 (ca.toNat : Int)] 5)) (v := .slice (some ⟨wr.heap.size + 1, 0, none⟩) 1 1) (l := [ca]) (by
                  have h2 := Own.sl (World.ownsRow_lit (base := 0) (e := 5) (size := 1) (wr.alloc (.cells #[.int .u8 (ca.toNat : Int), .int .i64 cn] 67)) #[.int .u8 (ca.toNat : Int)] 1 (Nat.zero_le _) (by unfold maxLen; omega) rfl)
                  rw [World.size_alloc] at h2
                  exact h2)
                exact h
              obtain ⟨cz, hcz⟩ : ∃ cz, bS [ca] = cz := ⟨_, rfl⟩
              rw [hcz] at hcv
              have hczs : cz.size ≤ 1 := by rw [← hcz, bS_size]; simp
              have HQS : Hid (ps ++ cz = bS (pt ++ [ca])) := Lib.hid (by rw [← hcz, ← HPS.out, bS_app])
              have HKY := Lib.hid (key_any check (pt ++ [ca]) n (by rw [List.length_append]; simp only [List.length_cons, List.length_nil]; omega) (by omega))
              clear hcz
              have HGQ : Hid (Gl.Good ls (i + 1) (pt ++ [ca], pc + cn)) := Lib.hid ⟨(pt, pc), l, (ca, cn), HGD.out, HL.out, HCN.out, rfl⟩
              have HQT : Hid ((left (.string (Gl.keyAt check n i (T i).1)) = false ∨ (Lit.string x = .string (Gl.keyAt check n i (T i).1) ∧ jt < j + 1)) → (left (.string (Gl.keyAt check n i (T i).1)) = false ∨ (Lit.string x = .string (Gl.keyAt check n i (T i).1) ∧ jt < j)) ∨ (pt ++ [ca], pc + cn) = T (i + 1)) := Lib.hid (fun h => by
                rcases h with h | ⟨h1, h2⟩
                · exact .inl (.inl h)
                · rcases Nat.lt_or_ge jt j with h3 | h3
                  · exact .inl (.inr ⟨h1, h3⟩)
                  · obtain rfl : jt = j := by omega
                    have h4 := HCT.out.1
                    rw [HCH.out] at h4
                    have h5 := Option.some.inj h4
                    rw [HCT.out.2, ← HTP.out h1, ← h5]
                    exact .inr rfl)
              go_wp2_with fail
              rw [HQS.out]
              have HX3 : Hid (Ext wr (((wr.alloc (.cells #[.int .u8 (ca.toNat : Int), .int .i64 cn] 67)).alloc (.cells #[.int .u8 (ca.toNat : Int)] 5)).alloc (.cells #[.string (bS (pt ++ [ca])), .int .i64 (pc + cn)] 96))) := Lib.hid ((((Ext.refl wr).alloc _).alloc _).alloc _)
              have hn3 := heap_alloc_new ((wr.alloc (.cells #[.int .u8 (ca.toNat : Int), .int .i64 cn] 67)).alloc (.cells #[.int .u8 (ca.toNat : Int)] 5)) (.cells #[.string (bS (pt ++ [ca])), .int .i64 (pc + cn)] 96)
              rw [World.size_alloc, World.size_alloc] at hn3
              generalize ((wr.alloc (.cells #[.int .u8 (ca.toNat : Int), .int .i64 cn] 67)).alloc (.cells #[.int .u8 (ca.toNat : Int)] 5)).alloc (.cells #[.string (bS (pt ++ [ca])), .int .i64 (pc + cn)] 96) = w3 at HX3 hn3 ⊢
              obtain ⟨bq, hbq⟩ : ∃ bq, wr.heap.size + 1 + 1 = bq := ⟨_, rfl⟩
              rw [hbq] at hn3 ⊢
              have HBQ := Lib.hid hbq
              have HQ3 := Lib.hid hn3
              clear hn3 hbq hcv q0 q1 p0 p1 ne1 ne2 HQS hczs
              refine (HKY.out _).mono ?_
              rintro e w6 ⟨rfl, hx6⟩
              have HX6 : Hid (Ext wr w6) := Lib.hid (HX3.out.trans hx6)
              have HQ6 := Lib.hid (row_on HQ3.out hx6)
              have HRZ6 := Lib.hid (ranges_ext HRZ.out HX6.out)
              have HNZ6 := Lib.hid (ownsMap_ext HNZ.out HX6.out)
              have HC6 := Lib.hid (row_on HCZ.out HX6.out)
              have HXX6 := Lib.hid (HXZ.out.trans HX6.out)
              have HKL := Lib.hid (Gl.keyS_len check (pt ++ [ca]) n)
              clear hx6 HX3 HQ3 HRZ HNZ HCZ HKY
              cases hok : (Gl.keyS check (pt ++ [ca]) n).2 with
              | false =>
                have HTQ := Lib.hid (Gl.step_skip HWI (show i + 1 ≤ n from hlt) hok HTZ.out HQT.out)
                clear hok HTZ HQT HGQ
                go_wp2
                go_roundw
                case rel => exact ⟨j + 1, N, hjl, by go_num, HRZ6, HNZ6, HSZ, HTQ, HC6, HXX6⟩
                case measure => simp [intOf]; omega
              | true =>
                obtain ⟨kk, hkk⟩ : ∃ kk, (Gl.keyS check (pt ++ [ca]) n).1 = kk := ⟨_, rfl⟩
                have HKK := Lib.hid hkk
                have HOK := Lib.hid hok
                rw [hkk] at HKL ⊢
                clear hok hkk
                have hkey := Lib.hid (keyOf_bS kk HKL.out)
                have HM6 := Lib.hid HNZ6.out.isMap
                have HSP := Lib.hid (Gl.States.put HSZ.out HM6.out HGQ.out HOK.out (keyLit _))
                have hfew := Gl.States.few HSZ.out (HNZ6.out.entries strK)
                have hval : partR (H := Unit) (.agg #[.string (bS (pt ++ [ca])), .int .i64 (pc + cn)]) = some (Gl.dat (pt ++ [ca], pc + cn), []) := by rw [partR_mk, bS_list]
                have HVAL := Lib.hid hval
                obtain ⟨qs, hqs⟩ : ∃ qs, bS (pt ++ [ca]) = qs := ⟨_, rfl⟩
                obtain ⟨qc, hqc⟩ : ∃ qc, pc + cn = qc := ⟨_, rfl⟩
                rw [hqs, hqc] at HVAL
                rw [hqs, hqc] at HQ6
                rw [hqc] at HSP HGQ HQT
                have HQV : Hid (ptV (pt ++ [ca], qc) = .agg #[.string qs, .int .i64 qc]) := Lib.hid (by rw [← hqs]; rfl)
                rw [HKK.out] at HSP
                clear hval hqs hqc
                have c0 := cell_at HQ6.out (i := 0) rfl
                have c1 := cell_at HQ6.out (i := 1) rfl
                have hq6 := lt_at HQ6.out
                have hne6 : ¬ bq = w6.heap.size := by omega
                cases hh : Maps.has N (.string kk) with
                | false =>
                  have HTQ := Lib.hid (Gl.step_put HWI (show i + 1 ≤ n from hlt) HSZ.out HM6.out HGQ.out HOK.out (keyLit _) (.inl (by rw [HKK.out]; exact hh)) HTZ.out HQT.out)
                  rw [HKK.out] at HTQ
                  clear HTZ HQT HGQ
                  go_wp2_with (first
                    | (at_lookup; refine wpList_lookup_part _ rfl _ _ 97 rfl 9 96 strK Tryz.underlying97 (zero_pt _) b2 65793 N rfl HNZ6.out _ (.string kk) rfl hkey.out ?_; rintro ⟨ot, oc⟩ ho; rw [hh])
                    | (at_mapUpdate; refine wpList_mapUpdate_own _ rfl _ _ _ 97 rfl 9 96 strK Tryz.underlying97 partR b2 (Maps.size N) N rfl ((ownsMap_tight HNZ6.out).alloc _) (by unfold maxLen; omega) _ _ (.string kk) rfl rfl hkey.out (Gl.dat (pt ++ [ca], qc)) [] HVAL.out ?_; intro w8 hown8 hg8)
                    | go_in)
                  have HX8 : Hid (Ext wa w8) := Lib.hid ((HXX6.out.alloc _).ofGrown hg8 (fun k hk => by injection hk with hk; have := HB2.out; omega))
                  have HRZ8 := Lib.hid ((HRZ6.out.alloc _).kept hg8 (by simp; omega) (by simp))
                  have HN8 := Lib.hid ((ownsMap_tight hown8).mono (HSP.out.few (hown8.entries strK)))
                  have HC8 := Lib.hid ((hg8.block bp (lt_at (row_on HC6.out ((Ext.refl w6).alloc (.cells #[.string (bS ot), .int .i64 oc] 96)))) (by simp; omega)).trans (row_on HC6.out ((Ext.refl w6).alloc (.cells #[.string (bS ot), .int .i64 oc] 96))))
                  clear hown8 hg8
                  go_wp2
                  go_roundw
                  case rel => exact ⟨j + 1, _, hjl, by go_num, HRZ8, HN8, HSP, HTQ, HC8, HX8⟩
                  case measure => simp [intOf]; omega
                | true =>
                  obtain ⟨⟨ot, oc⟩, hog, hook, hokk, hoat⟩ := HSZ.out.at_ hh
                  have HBT := Lib.hid (better_any (pt ++ [ca], qc) (ot, oc))
                  rw [HQV.out] at HBT
                  change Hid (∀ W, Calls _ _ #[.agg #[.string qs, .int .i64 qc], .agg #[.string (bS ot), .int .i64 oc]] W _) at HBT
                  cases hbt : Gl.bet (pt ++ [ca], qc) (ot, oc) with
                  | true =>
                    have HTQ := Lib.hid (Gl.step_put HWI (show i + 1 ≤ n from hlt) HSZ.out HM6.out HGQ.out HOK.out (keyLit _) (.inr ⟨(ot, oc), by rw [HKK.out]; exact hoat, hbt⟩) HTZ.out HQT.out)
                    rw [HKK.out] at HTQ
                    rw [hbt] at HBT
                    have HOAT := Lib.hid hoat
                    clear HTZ HQT HGQ hog hook hokk hoat
                    go_wp2_with (first
                      | (at_lookup; refine wpList_lookup_part _ rfl _ _ 97 rfl 9 96 strK Tryz.underlying97 (zero_pt _) b2 65793 N rfl HNZ6.out _ (.string kk) rfl hkey.out ?_; intro po ho; rw [hh, Gl.dat_inj (ho.symm.trans (HOAT.out _))])
                      | (go_at_call 59; refine (HBT.out _).mono ?_; rintro e w7 ⟨rfl, hx7⟩; have hq7 := row_on (row_on HQ6.out ((Ext.refl w6).alloc (.cells #[.string (bS ot), .int .i64 oc] 96))) hx7; have d0 := cell_at hq7 (i := 0) rfl; have d1 := cell_at hq7 (i := 1) rfl; clear hq7)
                      | (at_mapUpdate; refine wpList_mapUpdate_own _ rfl _ _ _ 97 rfl 9 96 strK Tryz.underlying97 partR b2 (Maps.size N) N rfl (ownsMap_ext ((ownsMap_tight HNZ6.out).alloc _) hx7) (by unfold maxLen; omega) _ _ (.string kk) rfl rfl hkey.out (Gl.dat (pt ++ [ca], qc)) [] HVAL.out ?_; intro w8 hown8 hg8)
                      | go_in)
                    have HX8 : Hid (Ext wa w8) := Lib.hid (((HXX6.out.alloc _).trans hx7).ofGrown hg8 (fun k hk => by injection hk with hk; have := HB2.out; omega))
                    have HRZ8 := Lib.hid ((ranges_ext (HRZ6.out.alloc _) hx7).kept hg8 (by simp; omega) (by simp))
                    have HN8 := Lib.hid ((ownsMap_tight hown8).mono (HSP.out.few (hown8.entries strK)))
                    have HC8 := Lib.hid ((hg8.block bp (lt_at (row_on (row_on HC6.out ((Ext.refl w6).alloc (.cells #[.string (bS ot), .int .i64 oc] 96))) hx7)) (by simp; omega)).trans (row_on (row_on HC6.out ((Ext.refl w6).alloc (.cells #[.string (bS ot), .int .i64 oc] 96))) hx7))
                    clear hown8 hg8
                    go_wp2
                    go_roundw
                    case rel => exact ⟨j + 1, _, hjl, by go_num, HRZ8, HN8, HSP, HTQ, HC8, HX8⟩
                    case measure => simp [intOf]; omega
                  | false =>
                    have HTQ := Lib.hid (Gl.step_stay HWI (show i + 1 ≤ n from hlt) HSZ.out HM6.out (keyLit _) (by rw [HKK.out]; exact hh) (by rw [HKK.out]; exact hoat) hbt HTZ.out HQT.out)
                    rw [hbt] at HBT
                    have HOAT := Lib.hid hoat
                    clear HTZ HQT HGQ hog hook hokk hoat
                    go_wp2_with (first
                      | (at_lookup; refine wpList_lookup_part _ rfl _ _ 97 rfl 9 96 strK Tryz.underlying97 (zero_pt _) b2 65793 N rfl HNZ6.out _ (.string kk) rfl hkey.out ?_; intro po ho; rw [hh, Gl.dat_inj (ho.symm.trans (HOAT.out _))])
                      | (go_at_call 59; refine (HBT.out _).mono ?_; rintro e w7 ⟨rfl, hx7⟩)
                      | go_in)
                    have HX8 : Hid (Ext wa w7) := Lib.hid ((HXX6.out.alloc _).trans hx7)
                    have HRZ8 := Lib.hid (ranges_ext (HRZ6.out.alloc _) hx7)
                    have HN8 := Lib.hid (ownsMap_ext (HNZ6.out.alloc _) hx7)
                    have HC8 := Lib.hid (row_on (row_on HC6.out ((Ext.refl w6).alloc (.cells #[.string (bS ot), .int .i64 oc] 96))) hx7)
                    clear hx7
                    go_wp2
                    go_roundw
                    case rel => exact ⟨j + 1, N, hjl, by go_num, HRZ8, HN8, HSZ, HTQ, HC8, HX8⟩
                    case measure => simp [intOf]; omega
            · obtain rfl : j = l.length := by omega
              have HTE : Hid ((left (.string (Gl.keyAt check n i (T i).1)) && !(Lit.string (Gl.keyAt check n i (T i).1)).sameKey (.string x)) = false → Gl.HasT check n T (i + 1) N) := Lib.hid (fun h => HTZ.out (by
                cases hl : left (.string (Gl.keyAt check n i (T i).1)) with
                | false => exact .inl rfl
                | true =>
                  rw [hl, Bool.true_and, Bool.not_eq_false'] at h
                  exact .inr ⟨(WideAt.sameKey_eq h).symm, (List.getElem?_eq_some_iff.1 HCT.out.1).1⟩))
              have hml : wr.rangeLeft b (b2 + 1) < wb.rangeLeft b (b2 + 1) := by rw [HRZ.out.left_eq]; exact hlt5'
              clear hjl hj HTZ HCZ hlt5'
              go_wp2
              go_roundw
              case rel => exact ⟨_, _, N, HRZ, HNZ, HSZ, HTE, HXZ⟩
              case measure => exact hml
    · obtain rfl : i = n := by omega
      clear hlt hi
      go_wp2
      go_ret
      exact ⟨b, D, rfl, hb, HO.out, HS.out, HT.out, HX.out⟩
end Go.Proofs.YtamkgbodifjlaaaGreatDoor

/-
  Chapter 48, the program: what Resolve asks first: the pattern, the costs.
  No condition.
-/
namespace Go.Proofs.YtamkgbodifjlaaaGreatDoor
open Go.RowKit

theorem dropWhile_all {α : Type} (p : α → Bool) : ∀ l : List α, (∀ x ∈ l, p x = true) → l.dropWhile p = []
  | [], _ => rfl
  | a :: l, h => by
    rw [List.dropWhile_cons_of_pos (h a (List.mem_cons_self ..))]
    exact dropWhile_all p l fun x hx => h x (List.mem_cons_of_mem _ hx)
theorem trim_none (l cs : List UInt8) (h : ∀ x ∈ l, cs.contains x = true) : Lib.trimS l cs = [] := by
  unfold Lib.trimS Lib.trimRightS Lib.trimLeftS
  rw [dropWhile_all _ l.reverse fun x hx => h x (List.mem_reverse.1 hx)]
  rfl
/-- strings.Trim of a pattern of classes. -/
theorem trimP_any (pat : List UInt8) (h0 : 0 < pat.length) (h1 : pat.length ≤ 1000) (h : ∀ c ∈ pat, c = 100 ∨ c = 97 ∨ c = 120) (w : World) :
    Calls Tryz.prog 52 #[.string (bS pat), .string ⟨#[100, 97, 120]⟩] w fun e w' => e = .returned (.string ⟨#[]⟩) ∧ Ext w w' := by
  have h := Any.strings_Trim_set Tryz.trimL (fun w => by kernel_rfl) (by kernel_rfl) (bS pat) ⟨#[100, 97, 120]⟩ w (by decide) (by rw [bS_size]; exact h0) (by rw [bS_size]; omega) (by decide) (fun j b hb => by
    match j with
    | 0 => cases hb; decide
    | 1 => cases hb; decide
    | 2 => cases hb; decide
    | j + 3 => cases hb) |> (fun t => t)
  rw [bS_list] at h
  have e : Lib.trimS pat (⟨#[100, 97, 120]⟩ : ByteArray).data.toList = [] := trim_none _ _ (fun x hx => by
    rcases ‹∀ c ∈ pat, c = 100 ∨ c = 97 ∨ c = 120› x hx with rfl | rfl | rfl <;> decide)
  rw [e] at h
  refine Calls.mono h ?_
  rintro e w' ⟨rfl, q, rfl⟩
  exact ⟨rfl, (((Ext.refl _).alloc _).alloc _).drewN q⟩

/-- Glyphs in range. -/
def AllR (w : World) (gs : List Gv) (xss : List (List Gl.Ch)) : Prop := xss.length = gs.length ∧ ∀ (i : Nat) x xs, gs[i]? = some x → xss[i]? = some xs → InR w x xs
theorem AllR.ext {w w' : World} {gs : List Gv} {xss : List (List Gl.Ch)} (h : AllR w gs xss) (hx : Ext w w') : AllR w' gs xss := ⟨h.1, fun i x xs hi hxs => (h.2 i x xs hi hxs).ext hx⟩
theorem AllR.at_ {w : World} {gs : List Gv} {xss : List (List Gl.Ch)} (h : AllR w gs xss) {i : Nat} {x : Gv} (hi : gs[i]? = some x) : ∃ xs, xss[i]? = some xs ∧ InR w x xs := by
  have hil := (List.getElem?_eq_some_iff.1 hi).1
  have h2 : xss[i]? = some (xss[i]'(by rw [h.1]; exact hil)) := List.getElem?_eq_getElem _
  exact ⟨_, h2, h.2 i x _ hi h2⟩
set_option maxRecDepth 100000 in
theorem idxG_any (v : Value) (gs : List Gv) (xss : List (List Gl.Ch)) (w : World) (hv : KSl 7 encV w v gs) (hr : AllR w gs xss) (h0 : 0 < gs.length) (h64 : gs.length ≤ 64) :
    Calls Tryz.prog 80 #[v, .func (.func 54) #[] #[]] w fun e w' => e = .returned (.int .i64 (-1)) ∧ Ext w w' := by
  obtain ⟨b, off, cap, rfl, hb, hcl⟩ := hv.some_ h0
  obtain ⟨n, hn⟩ : ∃ n, gs.length = n := ⟨_, rfl⟩
  rw [hn] at h0 h64 ⊢
  have HN := Lib.hid hn
  have HCL := Lib.hid hcl
  have HR := Lib.hid hr
  have hbw := hb
  clear hv hr hn hcl
  go_enter Tryz.func80, Tryz.ntmps80
  go_wp2
  go_loopw [5, 8] (fun v5 v8 wr => ∃ i : Nat, i ≤ n ∧ v8 = .int .i64 (i : Int) ∧ Hid (Ext w wr)) (fun _ v8 _ => n - (intOf v8).toNat)
  case atStart => exact ⟨0, Nat.zero_le _, rfl, Lib.hid (Ext.refl _)⟩
  case round =>
    obtain ⟨i, hi, rfl, HX⟩ := hrel
    by_cases hlt : i < n
    · obtain ⟨x, hx⟩ : ∃ x, gs[i]? = some x := ⟨_, List.getElem?_eq_getElem (by rw [HN.out]; exact hlt)⟩
      obtain ⟨xs, _, hin⟩ := (HR.out.ext HX.out).at_ hx
      have HO := Lib.hid (outR_any x xs wr hin)
      have hc := fun c (h : c < 7) => by
        have := HCL.out i x hx c h
        rw [← HX.out.cell (p := ⟨b, off + i * 7 + c, none⟩) hbw] at this
        exact this
      obtain ⟨⟨b0, b1, b2, b3⟩, ⟨a, m⟩, vv⟩ := x
      have q0 : wr.cell? ⟨b, off + i * 7, none⟩ = some (.int .i64 b0) := hc 0 (by omega)
      have q1 : wr.cell? ⟨b, off + i * 7 + 1, none⟩ = some (.int .i64 b1) := hc 1 (by omega)
      have q2 : wr.cell? ⟨b, off + i * 7 + 2, none⟩ = some (.int .i64 b2) := hc 2 (by omega)
      have q3 : wr.cell? ⟨b, off + i * 7 + 3, none⟩ = some (.int .i64 b3) := hc 3 (by omega)
      have q4 : wr.cell? ⟨b, off + i * 7 + 4, none⟩ = some (.int .u8 (a.toNat : Int)) := hc 4 (by omega)
      have q5 : wr.cell? ⟨b, off + i * 7 + 5, none⟩ = some (.int .i64 m) := hc 5 (by omega)
      have q6 : wr.cell? ⟨b, off + i * 7 + 6, none⟩ = some vv := hc 6 (by omega)
      have hltI : (i : Int) < (n : Int) := by omega
      clear hx hin hc
      go_wp2_with fail
      refine HO.out.mono ?_
      rintro e w2 ⟨rfl, hx2⟩
      have HX2 := Lib.hid (HX.out.trans hx2)
      clear q0 q1 q2 q3 q4 q5 q6 hx2
      go_wp2
      go_roundw
      case rel => exact ⟨i + 1, by omega, by go_num, HX2⟩
      case measure => simp [intOf]; omega
    · obtain rfl : i = n := by omega
      clear hlt hi
      go_wp2
      go_ret
      exact ⟨rfl, HX.out⟩
set_option maxRecDepth 100000 in
theorem noneG_any (v : Value) (gs : List Gv) (xss : List (List Gl.Ch)) (w : World) (hv : KSl 7 encV w v gs) (hr : AllR w gs xss) (h0 : 0 < gs.length) (h64 : gs.length ≤ 64) :
    Calls Tryz.prog 53 #[v, .func (.func 54) #[] #[]] w fun e w' => e = .returned (.bool false) ∧ Ext w w' := by
  have HI := Lib.hid (idxG_any v gs xss w hv hr h0 h64)
  clear hv hr
  go_enter Tryz.func53, Tryz.ntmps53
  go_wp2_with fail
  refine HI.out.mono ?_
  rintro e w1 ⟨rfl, hx1⟩
  go_wp2
  go_ret
  exact ⟨rfl, hx1⟩
end Go.Proofs.YtamkgbodifjlaaaGreatDoor

/-
  Chapter 48, the program: the options of Resolve, and a text that ends right.
  No condition.
-/
namespace Go.Proofs.YtamkgbodifjlaaaGreatDoor
open Go.RowKit Go.Maps

/-- The options of Resolve. -/
def Gl.optsOf (gs : List Gv) (xss : List (List Gl.Ch)) (pat : List UInt8) : List (List Gl.Ch) := List.zipWith (fun gx k => Gl.chs (gx.1.2.1 :: gx.2) k) (gs.zip xss) pat
theorem Gl.optsOf_at {gs : List Gv} {xss : List (List Gl.Ch)} {pat : List UInt8} {i : Nat} {x : Gv} {xs : List Gl.Ch} {k : UInt8} (h1 : gs[i]? = some x) (h2 : xss[i]? = some xs) (h3 : pat[i]? = some k) : (Gl.optsOf gs xss pat)[i]? = some (Gl.chs (x.2.1 :: xs) k) := by
  unfold Gl.optsOf
  rw [List.getElem?_zipWith]
  have : (gs.zip xss)[i]? = some (x, xs) := by
    rw [List.getElem?_zip_eq_some]; exact ⟨h1, h2⟩
  rw [this, h3]
theorem Gl.optsOf_len {gs : List Gv} {xss : List (List Gl.Ch)} {pat : List UInt8} (h1 : xss.length = gs.length) (h2 : pat.length = gs.length) : (Gl.optsOf gs xss pat).length = gs.length := by
  unfold Gl.optsOf
  rw [List.length_zipWith, List.length_zip, h1, h2]; simp
/-- F is the winner with its check characters, and no other text is better. -/
structure Gl.Ends (os : List (List Gl.Ch)) (check : Int) (n : Nat) (T : Nat → Gl.Pt) (F : Gl.Pt) : Prop where
  fin : ∃ m, Gl.rest (os.drop n) (Gl.keyS check (T n).1 n).1 = some m ∧ F = ((T n).1 ++ (Gl.keyS check (T n).1 n).1, (T n).2 + m)
  best : ∀ q m, Gl.Good os n q → (Gl.keyS check q.1 n).2 = true → Gl.rest (os.drop n) (Gl.keyS check q.1 n).1 = some m →
    (q.1 ++ (Gl.keyS check q.1 n).1, q.2 + m) = F ∨ (Gl.bet F (q.1 ++ (Gl.keyS check q.1 n).1, q.2 + m) = true ∧ Gl.bet (q.1 ++ (Gl.keyS check q.1 n).1, q.2 + m) F = false)
theorem Row2.kept {w w' : World} {g : Nat} {xs : List Gl.Ch} {row : Option Nat} (h : Row2 w g xs) (hg : w.grownBy w' row) (hne : row ≠ some g) : Row2 w' g xs := by
  have hb := hg.block g h.1 (fun e => hne e.symm)
  refine ⟨Nat.lt_of_lt_of_le h.1 hg.size, fun i x hi => ?_⟩
  rw [World.cell?_of_block (a := ⟨g, i * 2, none⟩) hb, World.cell?_of_block (a := ⟨g, i * 2 + 1, none⟩) hb, World.frozen?_of_block (a := ⟨g, i * 2, none⟩) hb, World.frozen?_of_block (a := ⟨g, i * 2 + 1, none⟩) hb]
  exact h.2 i x hi
/-- The lists of options that have been laid, each in a row apart from the row that grows. -/
def FamO (w : World) (v : Value) (vs : List Sv) (ls : List (List Gl.Ch)) : Prop := ∀ (j : Nat) x l, vs[j]? = some x → ls[j]? = some l → ∃ g cap, x = (some ⟨g, 0, none⟩, l.length, cap) ∧ v.ownBlock ≠ some g ∧ Row2 w g l
theorem FamO.ext {w w' : World} {v : Value} {vs : List Sv} {ls : List (List Gl.Ch)} (h : FamO w v vs ls) (hx : Ext w w') : FamO w' v vs ls := fun j x l h1 h2 => by
  obtain ⟨g, cap, a, b, c⟩ := h j x l h1 h2
  exact ⟨g, cap, a, b, c.ext hx⟩
theorem FamO.step {w w' : World} {v v' : Value} {vs : List Sv} {ls : List (List Gl.Ch)} {l0 : List Gl.Ch} (h : FamO w v vs ls) (hl : ls[vs.length]? = some l0) {g cap : Nat} (hne : v.ownBlock ≠ some g) (hr : Row2 w g l0) (hg : w.grownBy w' v.ownBlock) (hloc : v'.ownBlock = v.ownBlock ∨ v'.ownBlock = some w.heap.size) :
    FamO w' v' (vs ++ [(some ⟨g, 0, none⟩, l0.length, cap)]) ls := by
  have move : ∀ g l, v.ownBlock ≠ some g → Row2 w g l → v'.ownBlock ≠ some g ∧ Row2 w' g l := fun g l h1 h2 => by
    refine ⟨?_, h2.kept hg h1⟩
    rcases hloc with e | e
    · rw [e]; exact h1
    · rw [e]
      intro h3
      injection h3 with h3
      have := h2.1
      omega
  intro j x l hj hl2
  rcases Nat.lt_trichotomy j vs.length with h1 | h1 | h1
  · rw [List.getElem?_append_left h1] at hj
    obtain ⟨g', cap', a, b, c⟩ := h j x l hj hl2
    obtain ⟨b2, c2⟩ := move g' l b c
    exact ⟨g', cap', a, b2, c2⟩
  · subst h1
    rw [List.getElem?_append_right (Nat.le_refl _), Nat.sub_self] at hj
    simp only [List.getElem?_cons_zero, Option.some.injEq] at hj
    rw [hl] at hl2
    have e := Option.some.inj hl2
    subst e hj
    obtain ⟨b2, c2⟩ := move g l0 hne hr
    exact ⟨g, cap, rfl, b2, c2⟩
  · rw [List.getElem?_eq_none (by simp; omega)] at hj
    cases hj
theorem KOwn.cap {α : Type} {T : TypeId} {k : Nat} {enc : α → List Value} {w : World} {B : Nat} {v : Value} {xs : List α} (h : KOwn T k enc w B v xs) : ∃ a c, v = .slice a xs.length c ∧ xs.length ≤ c := by
  rcases h.2 with ⟨h6, h7⟩ | ⟨g', cap', cur, h6, _, _, h7, _⟩
  · exact ⟨none, 0, by rw [h6, h7], by omega⟩
  · exact ⟨_, _, h6, h7⟩
theorem FamO.opts {w : World} {T : TypeId} {B : Nat} {v : Value} {vs : List Sv} {ls : List (List Gl.Ch)} (h : FamO w v vs ls) (hown : KOwn T 1 encS w B v vs) (hl : vs.length = ls.length) : Opts w v ls :=
  ⟨vs, hown.sl encS_len, hl, fun i x l h1 h2 => by
    obtain ⟨g, cap, rfl, _, c⟩ := h i x l h1 h2
    exact c.sl, hown.cap⟩
/-- The further options. -/
theorem opts_drop {w : World} {a : Option Addr} {N c : Nat} {ls : List (List Gl.Ch)} (h : Opts w (.slice a N c) ls) (n : Nat) (hn : n ≤ N) :
    ∃ v', (∀ w', (Instr.slice 93 (.slice a N c) (some (.int .i64 (n : Int))) none none).run Tryz.prog w' = .ok v' w') ∧ Opts w v' (ls.drop n) := by
  obtain ⟨vs, h1, h2, h3, a', c', h4, h5⟩ := h
  injection h4 with e1 e2 e3
  subst e1 e2 e3
  have e : Tryz.prog.elem 93 = 35 := by kernel_rfl
  have ht : Tryz.prog.underlying 93 = some (.slice (Tryz.prog.elem 93)) := by rw [e]; exact Tryz.underlying93
  refine ⟨.slice (if c = n then a else a.map (·.add (n * 1))) (vs.length - n) (c - n), fun w' => ?_, vs.drop n, ?_, by rw [List.length_drop, List.length_drop, h2], fun i x l h6 h7 => ?_, ?_⟩
  · rw [run_slice_l w' 93 a vs.length c ht .i64 (n : Int) (by omega) (by omega), e, Tryz.sizeOf35 w']
    simp [Result.andThen, sliced]
  · rcases Nat.lt_or_ge n vs.length with hlt | hge
    · obtain ⟨b, off, cp, e4, _, _⟩ := h1.some_ (by omega)
      injection e4 with e5 e6 e7
      subst e5 e7
      have h8 := h1.drop n (c - n) (by omega)
      have hne : ¬ c = n := by omega
      have e9 : (some (⟨b, off, none⟩ : Addr)).map (·.add (n * 1)) = some ⟨b, off + n * 1, none⟩ := by simp [Addr.add]
      rw [if_neg hne, e9]
      exact h8
    · have : vs.drop n = [] := List.drop_of_length_le hge
      rw [this, show vs.length - n = 0 by omega]
      exact .inl ⟨rfl, _, _, rfl⟩
  · rw [List.getElem?_drop] at h6 h7
    exact h3 _ x l h6 h7
  · rw [List.length_drop]
    exact ⟨_, _, rfl, by omega⟩
theorem Gl.keyS_size {check : Int} {t : List UInt8} {n : Nat} (h : (Gl.keyS check t n).2 = true) : (if check = 0 then 0 else Cd.size check.toNat) = (Gl.keyS check t n).1.length := by
  unfold Gl.keyS at h ⊢
  by_cases h0 : check = 0
  · rw [if_pos h0, if_pos h0]; rfl
  · rw [if_neg h0] at h ⊢
    rw [if_neg h0]
    dsimp only at h ⊢
    rw [beq_iff_eq] at h
    unfold Cd.compI Cd.comp at h ⊢
    by_cases h1 : check < 1 ∨ 8 < check
    · rw [if_pos h1] at h; cases h
    · rw [if_neg h1] at h ⊢
      repeat' split at h
      all_goals first | (exfalso; revert h; decide) | skip
      rw [if_neg ‹_›, if_neg ‹_›, if_neg ‹_›, if_neg ‹_›]
      exact (Cd.cmp_size _ _ (by omega) (by omega)).symm
end Go.Proofs.YtamkgbodifjlaaaGreatDoor
