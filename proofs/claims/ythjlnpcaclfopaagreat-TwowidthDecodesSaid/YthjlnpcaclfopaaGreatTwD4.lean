/-
  Chapter 12: the reference's pairs, walked.
  Condition: the elements are readable, and as many as whole pairs take.
-/
import Derived.Test.YthjlnpcaclfopaaGreatTwD3
namespace Go.Proofs.YthjlnpcaclfopaaGreat
open Go.RowKit

theorem start4 (bits : List Bool) (h : 4 ≤ bits.length) : ((Tw.elems bits).take 4 = [110, 110, 110, 110]) = ((bits.getD 0 false || (bits.getD 1 false || (bits.getD 2 false || bits.getD 3 false))) = false) := by
  match bits, h with
  | b0 :: b1 :: b2 :: b3 :: r, _ =>
    cases b0 <;> cases b1 <;> cases b2 <;> cases b3 <;> simp [Tw.elems]
theorem end3 (bits : List Bool) (m m1 m2 : Nat) (h1 : m1 = m + 1) (h2 : m2 = m + 2) (h : bits.length = m + 3) : ((Tw.elems bits).drop m = [119, 110, 110]) = ((!bits.getD m false || (bits.getD m1 false || bits.getD m2 false)) = false) := by
  subst h1 h2
  have e : bits.drop m = [bits.getD m false, bits.getD (m + 1) false, bits.getD (m + 2) false] := by
    apply List.ext_getElem
    · simp; omega
    · intro i g1 g2
      simp at g2
      rw [List.getElem_drop]
      match i, g2 with
      | 0, _ => simp [List.getD_eq_getElem?_getD, List.getElem?_eq_getElem (show m < bits.length by omega)]
      | 1, _ => simp [List.getD_eq_getElem?_getD, List.getElem?_eq_getElem (show m + 1 < bits.length by omega)]
      | 2, _ => simp [List.getD_eq_getElem?_getD, List.getElem?_eq_getElem (show m + 2 < bits.length by omega)]
  unfold Tw.elems
  rw [← List.map_drop, e]
  cases bits.getD m false <;> cases bits.getD (m + 1) false <;> cases bits.getD (m + 2) false <;> simp
theorem ten (bits : List Bool) (t : Nat) (h : t + 10 ≤ bits.length) : (bits.drop t).take 10 = (List.range 10).map fun m => bits.getD (t + m) false := by
  apply List.ext_getElem
  · simp; omega
  · intro i g1 g2
    simp at g2
    rw [List.getElem_take, List.getElem_drop, List.getElem_map, List.getElem_range, List.getD_eq_getElem?_getD, List.getElem?_eq_getElem (show t + i < bits.length by omega)]
    rfl
def evB (bits : List Bool) (t k : Nat) : List Bool := (List.range k).map fun m => bits.getD (t + 2 * m) false
def odB (bits : List Bool) (t k : Nat) : List Bool := (List.range k).map fun m => bits.getD (t + 2 * m + 1) false
theorem ev_snoc (bits : List Bool) (t k : Nat) : evB bits t (k + 1) = evB bits t k ++ [bits.getD (t + 2 * k) false] := by unfold evB; rw [List.range_succ, List.map_append]; rfl
theorem od_snoc (bits : List Bool) (t k : Nat) : odB bits t (k + 1) = odB bits t k ++ [bits.getD (t + 2 * k + 1) false] := by unfold odB; rw [List.range_succ, List.map_append]; rfl
theorem ev_five (bits : List Bool) (i : Nat) (h : 4 + 10 * i + 10 ≤ bits.length) : Tw.evens (Tw.pairAt (Tw.elems bits) i) = Tw.elems (evB bits (4 + 10 * i) 5) := by
  unfold Tw.pairAt
  rw [elems_cut, ten bits _ h]
  rfl
theorem od_five (bits : List Bool) (i : Nat) (h : 4 + 10 * i + 10 ≤ bits.length) : Tw.odds (Tw.pairAt (Tw.elems bits) i) = Tw.elems (odB bits (4 + 10 * i) 5) := by
  unfold Tw.pairAt
  rw [elems_cut, ten bits _ h]
  rfl
theorem cItf_pos : ∀ i : Fin 10, (((Tw.cItf.getD i.val 0).toNat : Int) == 0) = false := by decide
theorem dig_zero (p : List UInt8) : (((Tw.chr Tw.cItf Tw.pItf 5 p).1.toNat : Int) == 0) = !(Tw.chr Tw.cItf Tw.pItf 5 p).2 := by
  rcases chr_cases Tw.cItf Tw.pItf 5 p with e | ⟨i, hi, _, e⟩
  · rw [e]; rfl
  · rw [e]; exact cItf_pos ⟨i, hi⟩
theorem flat_succ (f : Nat → List UInt8) (i : Nat) : (List.range (i + 1)).flatMap f = (List.range i).flatMap f ++ f i := by
  rw [List.range_succ, List.flatMap_append]; simp
theorem append_bool_at {w : World} {ops : Array Oper} {rest : List Oper} {o : Oper} {a : Act} {Q : Exit → Act → World → Prop} (hgd : o.guard = none) (s x : Operand)
    (ho : o.op = .call { callee := .builtin .append, args := #[s, x], argTypes := #[56, 56] })
    (B : Nat) (v : Value) (l : List Bool) (hs : a.eval s = v) (hown : Own 4 w B v (l.map encT)) (b : Nat) (u : Bool) (hx : a.eval x = .slice (some ⟨b, 0, none⟩) 1 1)
    (hc : w.cell? ⟨b, 0, none⟩ = some (encT u)) (hn : l.length ≤ 999999999) (hB : B ≤ w.heap.size)
    (h : ∀ v' w', Own 4 w' B v' ((l ++ [u]).map encT) → w.grownBy w' v.ownBlock → (v'.ownBlock = v.ownBlock ∨ v'.ownBlock = some w.heap.size) → wpList Tryz.prog ops Q rest (a.put o.dst v') w') : wpList Tryz.prog ops Q (o :: rest) a w :=
  wpList_append_at hgd s x 56 4 (.bool false) 1 ho Tryz.underlying56 info_bool rfl (by decide) B v _ hs hown b 0 1 1 [encT u] hx rfl
    (fun j u' hj => by
      match j with
      | 0 => simp only [List.getElem?_cons_zero, Option.some.injEq] at hj; subst hj; exact hc
      | j + 1 => simp at hj)
    (fun u' hu => by simp only [List.mem_singleton] at hu; subst hu; rfl) (by rw [List.length_map]; omega) hB
    (fun v' w' h1 h2 h3 => h v' w' (by rw [List.map_append]; exact h1) h2 h3)

set_option maxRecDepth 100000 in
set_option maxHeartbeats 3000000 in
theorem rpairs_any (v : Value) (bits : List Bool) (w : World) (B h : Nat) (hv : Own 4 w B v (bits.map encT)) (hh : h ≤ 1000) (hn : bits.length = 10 * h + 7) (hh1 : 1 ≤ h) :
    Calls Tryz.prog 26 #[v] w (DecR (Tw.readItf (Tw.elems bits)) w) := by
  obtain ⟨g, cap, rfl, hlc, hcm, hg, hcell⟩ := hv.open_ (by rw [List.length_map]; omega)
  rw [List.length_map] at hlc hcell ⊢
  have HC : Hid (∀ w', Ext w w' → ∀ i, i < bits.length → w'.cell? ⟨g, i, none⟩ = some (.bool (bits.getD i false))) := Lib.hid (fun w' hx i hi => by
    rw [hx.cell (p := ⟨g, i, none⟩) hg, hcell i hi, List.getElem?_map, List.getD_eq_getElem?_getD, List.getElem?_eq_getElem hi]; rfl)
  have HT := Lib.hid (Tw.readItf.eq_1 (Tw.elems bits))
  rw [elems_len, show (bits.length - 7) / 10 = h by omega] at HT
  have HS4 := Lib.hid (start4 bits (by omega))
  have h0 := HC.out w (Ext.refl _) 0 (by omega)
  have h1 := HC.out w (Ext.refl _) 1 (by omega)
  have h2 := HC.out w (Ext.refl _) 2 (by omega)
  have h3 := HC.out w (Ext.refl _) 3 (by omega)
  have hl17 : 17 ≤ bits.length := by omega
  clear hcell hv
  generalize Tw.readItf (Tw.elems bits) = res at *
  generalize bits.getD 0 false = b0 at *
  generalize bits.getD 1 false = b1 at *
  generalize bits.getD 2 false = b2 at *
  generalize bits.getD 3 false = b3 at *
  by_cases hst : (b0 || (b1 || (b2 || b3))) = true
  · have HR : Hid (res = ([], 19)) := Lib.hid (by rw [HT.out, if_pos (by intro e; rw [HS4.out, hst] at e; exact Bool.noConfusion e)])
    clear HT HS4
    cases b0
    · cases b1
      · cases b2
        · cases b3
          · exact absurd hst Bool.noConfusion
          · go_enter Tryz.func26, Tryz.ntmps26
            go_wp2
            go_ret2
            exact ⟨by rw [HR.out]; rfl, Ext.refl _⟩
        · go_enter Tryz.func26, Tryz.ntmps26
          go_wp2
          go_ret2
          exact ⟨by rw [HR.out]; rfl, Ext.refl _⟩
      · go_enter Tryz.func26, Tryz.ntmps26
        go_wp2
        go_ret2
        exact ⟨by rw [HR.out]; rfl, Ext.refl _⟩
    · go_enter Tryz.func26, Tryz.ntmps26
      go_wp2
      go_ret2
      exact ⟨by rw [HR.out]; rfl, Ext.refl _⟩
  have hst' : (b0 || (b1 || (b2 || b3))) = false := by simpa using hst
  rw [if_neg (by rw [Ne, Decidable.not_not, HS4.out]; exact hst')] at HT
  obtain ⟨rfl, rfl, rfl, rfl⟩ : b0 = false ∧ b1 = false ∧ b2 = false ∧ b3 = false := by
    cases b0 <;> cases b1 <;> cases b2 <;> cases b3 <;> first | exact ⟨rfl, rfl, rfl, rfl⟩ | exact absurd hst' Bool.noConfusion
  have HN := Lib.hid hn
  clear hst hst' HS4 hn hlc hcm
  go_enter Tryz.func26, Tryz.ntmps26
  go_wp2
  clear h0 h1 h2 h3
  go_loopw [5, 4] (fun i s wr => ∃ (j t : Nat) (G : ByteArray), j ≤ h ∧ t = 4 + 10 * j ∧ i = .int .i64 (t : Int) ∧ s = .string G ∧ Hid (G.data.toList = (List.range j).flatMap fun i => [(Tw.digA (Tw.elems bits) i).1, (Tw.digB (Tw.elems bits) i).1]) ∧ G.size = 2 * j ∧ Hid (∀ i, i < j → Tw.pairOk (Tw.elems bits) i = true) ∧ Ext w wr) (fun i _ _ => 10 * h + 20 - (intOf i).toNat)
  case atStart => exact ⟨0, 4, ⟨#[]⟩, Nat.zero_le _, rfl, rfl, rfl, Lib.hid rfl, rfl, Lib.hid (fun i h => by omega), Ext.refl _⟩
  case round =>
    obtain ⟨j, t, G, hj, ht, rfl, rfl, HG, hGs, HB, hxr⟩ := hrel
    have hn := HN.out
    have hlb : bits.length ≤ 20000 := by omega
    have htb : t ≤ 20000 := by omega
    by_cases hlt : j < h
    · have dlt : (t : Int) + 10 < (bits.length : Int) := by omega
      have HEV := Lib.hid (ev_five bits j (by omega))
      have HOD := Lib.hid (od_five bits j (by omega))
      rw [← ht] at HEV HOD
      have ht10 : t + 10 ≤ bits.length := by omega
      have HJ : Hid (t = 4 + 10 * j) := Lib.hid ht
      clear ht hn
      have HSN : Hid (∀ H : ByteArray, H.data.toList = G.data.toList ++ [(Tw.digA (Tw.elems bits) j).1, (Tw.digB (Tw.elems bits) j).1] → H.data.toList = (List.range (j + 1)).flatMap fun i => [(Tw.digA (Tw.elems bits) i).1, (Tw.digB (Tw.elems bits) i).1]) := Lib.hid (fun H hH => by rw [hH, HG.out, flat_succ])
      have HPO : Hid (Tw.pairOk (Tw.elems bits) j = ((Tw.digA (Tw.elems bits) j).2 && (Tw.digB (Tw.elems bits) j).2)) := Lib.hid rfl
      have HBN : Hid (Tw.pairOk (Tw.elems bits) j = true → Hid (∀ i, i < j + 1 → Tw.pairOk (Tw.elems bits) i = true)) := Lib.hid (fun h => Lib.hid (fun i hi => by
        rcases Nat.lt_or_eq_of_le (Nat.le_of_lt_succ hi) with h1 | rfl
        · exact HB.out i h1
        · exact h))
      have HBAD : Hid (Tw.pairOk (Tw.elems bits) j = false → res = ([], 18)) := Lib.hid (fun hf => by
        rw [HT.out, if_pos]
        rw [List.all_eq_false]
        exact ⟨j, by simpa using hlt, by rw [hf]; exact Bool.noConfusion⟩)
      have HDA : Hid (Tw.digA (Tw.elems bits) j = Tw.chrK 2 (Tw.elems (evB bits t 5))) := Lib.hid (by unfold Tw.digA; rw [HEV.out]; rfl)
      have HDB : Hid (Tw.digB (Tw.elems bits) j = Tw.chrK 2 (Tw.elems (odB bits t 5))) := Lib.hid (by unfold Tw.digB; rw [HOD.out]; rfl)
      have dza : (((Tw.digA (Tw.elems bits) j).1.toNat : Int) == 0) = !(Tw.digA (Tw.elems bits) j).2 := dig_zero _
      have dzb : (((Tw.digB (Tw.elems bits) j).1.toNat : Int) == 0) = !(Tw.digB (Tw.elems bits) j).2 := dig_zero _
      have hle5 : (evB bits t 5).length ≤ 1000 := by simp [evB]
      have hlo5 : (odB bits t 5).length ≤ 1000 := by simp [odB]
      have HL5 := Lib.hid hle5
      have HM5 := Lib.hid hlo5
      clear HEV HOD HT HB HG hle5 hlo5
      generalize Tw.digA (Tw.elems bits) j = DA at *
      generalize Tw.digB (Tw.elems bits) j = DB at *
      obtain ⟨da, fa⟩ := DA
      obtain ⟨db, fb⟩ := DB
      dsimp only at dza dzb
      obtain ⟨wo, rfl⟩ : ∃ wo : World, wo = wr := ⟨_, rfl⟩
      go_wp2
      go_loopw [8, 6, 7] (fun i ca cb wq => ∃ k : Nat, k ≤ 5 ∧ i = .int .i64 (k : Int) ∧ Own 4 wq wo.heap.size ca ((evB bits t k).map encT) ∧ Own 4 wq wo.heap.size cb ((odB bits t k).map encT) ∧ Apart ca cb ∧ Ext wo wq) (fun i _ _ _ => 5 - (intOf i).toNat)
      case atStart => exact ⟨0, Nat.zero_le _, rfl, Own.nil _ _ _, Own.nil _ _ _, Apart.nil_left _, Ext.refl _⟩
      case round =>
        obtain ⟨k, hk, rfl, howa, howb, hap, hxq⟩ := hrel
        by_cases hk5 : k < 5
        · obtain ⟨u, hu⟩ : ∃ u, u = t + 2 * k := ⟨_, rfl⟩
          obtain ⟨u1, hu1⟩ : ∃ u1, u1 = u + 1 := ⟨_, rfl⟩
          have hui : (t : Int) + 2 * (k : Int) = (u : Int) := by omega
          have hu1i : (u : Int) + 1 = (u1 : Int) := by omega
          have hul : u < bits.length := by omega
          have hu1l : u1 < bits.length := by omega
          have hcu := HC.out wr (hxr.trans hxq) u hul
          have HES := Lib.hid (ev_snoc bits t k)
          have HOS := Lib.hid (od_snoc bits t k)
          rw [← hu] at HES HOS
          rw [← hu1] at HOS
          have hga : (evB bits t k).length ≤ 5 := by simp [evB]; omega
          have hgb : (odB bits t k).length ≤ 5 := by simp [odB]; omega
          have HCU := Lib.hid (fun w' hx => HC.out w' hx u1 hu1l)
          have hwo := hxq.size
          generalize evB bits t k = ga at *
          generalize odB bits t k = gb at *
          generalize bits.getD u false = xa at *
          generalize bits.getD u1 false = xb at *
          clear hu hu1
          go_wp2_with (at_builtin; refine append_bool_at rfl _ _ rfl wo.heap.size _ ga rfl (howa.alloc _) _ xa rfl ?c1 ?c2 ?c3 ?_)
          case c1 => simp [go_sem, encT]
          case c2 => omega
          case c3 => first | omega | (simp; omega)
          intro v5 w5 how5 hg5 hat5
          have howb5 := (howb.alloc _).beside hg5 hap
          have hap5 := Apart.grow hap (howb.alloc (.cells #[.bool xa] 4)) (wr.heap.size + 1) (by simp) hat5
          have hx5 := (hxq.alloc _).ofGrown hg5 howa.low
          have hcu1 := HCU.out w5 (hxr.trans hx5)
          have hwo5 := hx5.size
          replace how5 : Own 4 w5 wo.heap.size v5 ((ga ++ [xa]).map encT) := by rw [List.map_append]; exact how5
          clear howa howb hap hg5 hat5 hxq hcu
          go_wp2_with (at_builtin; refine append_bool_at rfl _ _ rfl wo.heap.size _ gb rfl (howb5.alloc _) _ xb rfl ?d1 ?d2 ?d3 ?_)
          case d1 => simp [go_sem, encT]
          case d2 => omega
          case d3 => first | omega | (simp; omega)
          intro v6 w6 how6 hg6 hat6
          have howa6 := (how5.alloc _).beside hg6 hap5.symm
          have hap6 := (Apart.grow hap5.symm (how5.alloc (.cells #[.bool xb] 4)) (w5.heap.size + 1) (by simp) hat6).symm
          have hx6 := (hx5.alloc _).ofGrown hg6 howb5.low
          clear how5 howb5 hap5 hg6 hat6 hx5 hcu1
          go_wp2
          go_roundw
          case rel => exact ⟨k + 1, by omega, by go_num, by rw [HES.out]; exact howa6, by rw [HOS.out, List.map_append]; exact how6, hap6, hx6⟩
          case measure => simp [intOf]; omega
        · obtain rfl : k = 5 := by omega
          have HFA := Lib.hid (find_7 _ _ wr howa.sl HL5.out)
          have HFB := Lib.hid (fun w' hx => find_7 _ _ w' (howb.ext hx).sl HM5.out)
          rw [← HDA.out] at HFA
          rw [← HDB.out] at HFB
          clear howa howb hap hk hk5
          dsimp only at HFA HFB
          cases fa
          · have HR := Lib.hid (HBAD.out (by rw [HPO.out]; rfl))
            go_wp2_with fail
            refine HFA.out.mono ?_
            rintro e w2 ⟨rfl, hx2⟩
            go_wp2_with fail
            refine (HFB.out _ hx2).mono ?_
            rintro e w3 ⟨rfl, hx3⟩
            go_wp2
            go_ret2
            exact ⟨by rw [HR.out]; rfl, ((hxr.trans hxq).trans hx2).trans hx3⟩
          · cases fb
            · have HR := Lib.hid (HBAD.out (by rw [HPO.out]; rfl))
              go_wp2_with fail
              refine HFA.out.mono ?_
              rintro e w2 ⟨rfl, hx2⟩
              go_wp2_with fail
              refine (HFB.out _ hx2).mono ?_
              rintro e w3 ⟨rfl, hx3⟩
              go_wp2
              go_ret2
              exact ⟨by rw [HR.out]; rfl, ((hxr.trans hxq).trans hx2).trans hx3⟩
            · have hcv := run_str2
              have hsz : (strOfNums [(da.toNat : Int), (db.toNat : Int)]).size = 2 := strOfNums_size _
              have HAA : Hid ((G ++ strOfNums [(da.toNat : Int), (db.toNat : Int)]).data.toList = G.data.toList ++ [da, db]) := Lib.hid (by rw [app2, strOfNums_data]; simp)
              have HAS : Hid ((G ++ strOfNums [(da.toNat : Int), (db.toNat : Int)]).size = 2 * (j + 1)) := Lib.hid (by rw [size_of_toList HAA.out, List.length_append, len_data, hGs]; simp; omega)
              have HBO := HBN.out (by rw [HPO.out]; rfl)
              go_wp2_with fail
              refine HFA.out.mono ?_
              rintro e w2 ⟨rfl, hx2⟩
              go_wp2_with fail
              refine (HFB.out _ hx2).mono ?_
              rintro e w3 ⟨rfl, hx3⟩
              go_wp2
              go_roundw
              case rel => exact ⟨j + 1, t + 10, G ++ strOfNums [(da.toNat : Int), (db.toNat : Int)], by omega, by have := HJ.out; omega, by go_num, rfl, Lib.hid (HSN.out _ HAA.out), HAS.out, HBO, by exact (((hxr.trans hxq).trans hx2).trans hx3).alloc _⟩
              case measure => simp [intOf]; have := HJ.out; omega
    · obtain rfl : j = h := by omega
      have hall : ¬ ((List.range j).all (Tw.pairOk (Tw.elems bits)) = false) := by
        rw [Bool.not_eq_false, List.all_eq_true]
        intro i hi
        exact HB.out i (by simpa using hi)
      rw [if_neg hall, ← HG.out] at HT
      obtain ⟨m1, hm1⟩ : ∃ m1, m1 = t + 1 := ⟨_, rfl⟩
      obtain ⟨m2, hm2⟩ : ∃ m2, m2 = t + 2 := ⟨_, rfl⟩
      have hE3 := end3 bits t m1 m2 hm1 hm2 (by omega)
      rw [show bits.length - 3 = t by omega] at HT
      have hti : (bits.length : Int) - 3 = (t : Int) := by omega
      have h1i : (t : Int) + 1 = (m1 : Int) := by omega
      have h2i : (t : Int) + 2 = (m2 : Int) := by omega
      have htl : t < bits.length := by omega
      have h1l : m1 < bits.length := by omega
      have h2l : m2 < bits.length := by omega
      have c0 := HC.out wr hxr t htl
      have c1 := HC.out wr hxr m1 h1l
      have c2 := HC.out wr hxr m2 h2l
      have dlt : (bits.length : Int) ≤ (t : Int) + 10 := by omega
      have HE3 := Lib.hid hE3
      generalize bits.getD t false = x0 at *
      generalize bits.getD m1 false = x1 at *
      generalize bits.getD m2 false = x2 at *
      clear hj hlt hall HB HG hE3 hm1 hm2 ht hn
      have key : ∀ y, (!x0 || (x1 || x2)) = y → Hid (res = if y then ([], 20) else (G.data.toList, 0)) := fun y hy => Lib.hid (by
        cases y
        · rw [HT.out, if_neg (by rw [Ne, Decidable.not_not, HE3.out]; exact hy)]; rfl
        · rw [HT.out, if_pos (by intro e; rw [HE3.out, hy] at e; exact Bool.noConfusion e)]; rfl)
      clear HT HE3
      cases x0
      · have HR := key true (by rfl)
        clear key
        go_wp2
        go_ret2
        exact ⟨by rw [HR.out]; rfl, hxr⟩
      · cases x1
        · cases x2
          · have HR := key false (by rfl)
            clear key
            go_wp2
            go_ret2
            exact ⟨by rw [HR.out]; exact ret_pair' rfl rfl, hxr⟩
          · have HR := key true (by rfl)
            clear key
            go_wp2
            go_ret2
            exact ⟨by rw [HR.out]; rfl, hxr⟩
        · have HR := key true (by rfl)
          clear key
          go_wp2
          go_ret2
          exact ⟨by rw [HR.out]; rfl, hxr⟩
end Go.Proofs.YthjlnpcaclfopaaGreat
