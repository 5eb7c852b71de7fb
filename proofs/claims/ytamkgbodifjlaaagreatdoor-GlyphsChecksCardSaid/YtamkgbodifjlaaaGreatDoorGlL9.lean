/-
  Chapter 48, the law GlyphsChecks.
  No condition.
-/
import Derived.Test.YtamkgbodifjlaaaGreatDoorGlL8
import Derived.Test.YtamkgbodifjlaaaGreatDoorGlZa
import Derived.Test.YtamkgbodifjlaaaGreatDoorCdRa
import Derived.BigRegion
namespace Go.Proofs.YtamkgbodifjlaaaGreatDoor
set_option linter.unusedVariables false
open Go.RowKit Go.ChangeShapes Go.WideShapes

theorem bytes_came' {w : World} {a : Option Addr} {len cap : Nat} {zs : List Int}
    (h : (a = none ∧ len = 0 ∧ cap = 0 ∧ zs = []) ∨ ∃ x, a = some x ∧ len ≤ cap ∧ cap ≤ maxLen ∧ zs.length = cap ∧ (∀ i, i < zs.length → w.cell? (x.add i) = some (.int .u8 (zs.getD i 0))) ∧ ∀ n ∈ zs, (Lit.int .u8 n).wf = true) :
    ∃ bs : List UInt8, bs.length = len ∧ Sl w (.slice a len cap) (bs.map encB) ∧ len ≤ maxLen := by
  obtain ⟨us, h1, h2, h3, h4⟩ := u8s_sl h
  refine ⟨us.map UInt8.ofNat, by rw [List.length_map, h1], h2.congr ?_, h4⟩
  rw [List.map_map]
  refine List.map_congr_left fun u hu => ?_
  have := h3 u hu
  simp only [encU, Function.comp, encB, UInt8.toNat_ofNat']
  rw [Nat.mod_eq_of_lt (by omega)]
/-- A glyph as the law makes it. -/
abbrev Gz := Gl.Bx × Gl.Ch × Sv
def encZ (x : Gz) : List Value := [encI x.1.1, encI x.1.2.1, encI x.1.2.2.1, encI x.1.2.2.2, encB x.2.1.1, encI x.2.1.2, .slice x.2.2.1 x.2.2.2.1 x.2.2.2.2]
theorem encZ_len (x : Gz) : (encZ x).length = 7 := rfl
theorem encZ_one (x : Gz) : ∀ v ∈ encZ x, v.oneCell' = true := by
  intro v hv
  simp only [encZ, List.mem_cons, List.not_mem_nil, or_false] at hv
  rcases hv with rfl | rfl | rfl | rfl | rfl | rfl | rfl <;> rfl
def gzV (x : Gz) : Gv := (x.1, x.2.1, .slice x.2.2.1 x.2.2.2.1 x.2.2.2.2)
theorem gzV_enc (x : Gz) : encV (gzV x) = encZ x := rfl
def glz (c : UInt8) : Gz := ((0, 0, 0, 0), (c, 0), (none, 0, 0))
theorem Gl.chs_one (c : UInt8) : Gl.chs [(c, 0)] 120 = [(c, 0)] := by
  unfold Gl.chs
  have h1 : Gl.srt [(c, 0)] = [(c, 0)] := by unfold Gl.srt; rw [List.mergeSort_singleton]
  rw [h1]
  rfl
/-- Resolve of a checked text one glyph of which has several choices of one cost. -/
theorem resolve_off (l d : List UInt8) (os : List UInt8) (k kk : Nat) (n : Nat) (c : UInt8) (vo : Sv) (v : Value) (w : World) (hC : Gl.Checked kk d l) (hk : l[k]? = some c) (hn : n ≤ 35) (ho : os.length ≤ 60) (hv : KSl 7 encZ w v ((l.map glz).set k ((0, 0, 0, 0), (c, (n : Int)), vo))) (hvo : KSl 2 encC w (.slice vo.1 vo.2.1 vo.2.2) (os.map fun o => (o, (n : Int)))) :
    Calls Tryz.prog 26 #[v, .string (bS (List.replicate l.length 120)), .int .i64 (kk : Int)] w fun e w' => e = .returned (.tuple #[.string (bS l), .int .i64 (n : Int), .int .i64 0]) ∧ Ext w w' := by
  obtain ⟨l1, l2, l3⟩ := hC.len
  have hkl : k < l.length := (List.getElem?_eq_some_iff.1 hk).1
  obtain ⟨gs, hgs⟩ : ∃ gs, ((l.map glz).set k ((0, 0, 0, 0), (c, (n : Int)), vo)).map gzV = gs := ⟨_, rfl⟩
  obtain ⟨xss, hxss⟩ : ∃ xss : List (List Gl.Ch), (l.map fun _ => ([] : List Gl.Ch)).set k (os.map fun o => (o, (n : Int))) = xss := ⟨_, rfl⟩
  have hglen : gs.length = l.length := by rw [← hgs]; simp
  have hxlen : xss.length = gs.length := by rw [← hxss, hglen]; simp
  have hpos : Gl.posb (n : Int) = true := by unfold Gl.posb; simp only [Bool.and_eq_true, decide_eq_true_eq]; omega
  have hgk : gs[k]? = some ((0, 0, 0, 0), (c, (n : Int)), .slice vo.1 vo.2.1 vo.2.2) := by
    rw [← hgs, List.getElem?_map, List.getElem?_set_self (by simp; exact hkl)]; rfl
  have hgo : ∀ i x, i ≠ k → l[i]? = some x → gs[i]? = some ((0, 0, 0, 0), (x, 0), .slice none 0 0) := fun i x hi hx => by
    rw [← hgs, List.getElem?_map, List.getElem?_set_ne (Ne.symm hi), List.getElem?_map, hx]; rfl
  have hxk : xss[k]? = some (os.map fun o => (o, (n : Int))) := by
    rw [← hxss, List.getElem?_set_self (by simp; exact hkl)]
  have hxo : ∀ i x, i ≠ k → l[i]? = some x → xss[i]? = some [] := fun i x hi hx => by
    rw [← hxss, List.getElem?_set_ne (Ne.symm hi), List.getElem?_map, hx]; rfl
  have hr : AllR w gs xss := ⟨hxlen, fun i x xs hx hxs => by
    have hil : i < l.length := by rw [← hglen]; exact (List.getElem?_eq_some_iff.1 hx).1
    by_cases e : i = k
    · subst e
      rw [hgk] at hx
      rw [hxk] at hxs
      have hx := Option.some.inj hx
      have hxs := Option.some.inj hxs
      subst hx hxs
      exact ⟨hvo, by rw [List.length_map]; omega, hpos, fun y hy => by obtain ⟨o, _, rfl⟩ := List.mem_map.1 hy; exact hpos⟩
    · have hli : l[i]? = some l[i] := List.getElem?_eq_getElem hil
      rw [hgo i _ e hli] at hx
      rw [hxo i _ e hli] at hxs
      have hx := Option.some.inj hx
      have hxs := Option.some.inj hxs
      subst hx hxs
      exact ⟨KSl.nil _ _ _, Nat.zero_le _, rfl, fun y hy => by cases hy⟩⟩
  have hpl : (List.replicate l.length (120 : UInt8)).length = gs.length := by rw [List.length_replicate, hglen]
  have hO : Gl.OneOff (Gl.optsOf gs xss (List.replicate l.length 120)) l k (n : Int) := by
    refine ⟨by rw [Gl.optsOf_len hxlen hpl, hglen], hkl, fun i x hi hx => ?_, ?_⟩
    · rw [Gl.optsOf_at (hgo i x hi hx) (hxo i x hi hx) (k := 120) (by rw [List.getElem?_replicate, if_pos (List.getElem?_eq_some_iff.1 hx).1])]
      rw [Gl.chs_one]
    · refine ⟨_, Gl.optsOf_at hgk hxk (k := 120) (by rw [List.getElem?_replicate, if_pos hkl]), fun x hx => ?_, fun y hy => ?_⟩
      · rw [hk] at hx
        have hx := Option.some.inj hx
        subst hx
        obtain ⟨y, hy, e1, e2⟩ := Gl.chs_least (all := (c, (n : Int)) :: os.map fun o => (o, (n : Int))) (k := 120) (x := (c, (n : Int))) (List.mem_cons_self ..) rfl
        have h3 := (Gl.chs_sub hy).1
        have h4 : y.2 = (n : Int) := by
          rcases List.mem_cons.1 h3 with rfl | h3
          · rfl
          · obtain ⟨o, _, rfl⟩ := List.mem_map.1 h3; rfl
        have : y = (c, (n : Int)) := Prod.ext e1 h4
        rw [this] at hy
        exact hy
      · have h3 := (Gl.chs_sub hy).1
        rcases List.mem_cons.1 h3 with rfl | h3
        · rfl
        · obtain ⟨o, _, rfl⟩ := List.mem_map.1 h3; rfl
  have hk1 := hC.one
  have hk8 := hC.eight
  have hfw := hC.few
  exact resolve1_any (kk : Int) gs xss (List.replicate l.length 120) d.length (Gl.offT l k (n : Int)) (l, (n : Int)) v w (by omega) (by rw [← hgs]; exact hv.map gzV gzV_enc) hr (by omega) hpl (fun c hc => .inr (.inr (List.eq_of_mem_replicate hc))) (by rw [Int.toNat_natCast]; omega) l2 (hO.wins hC) (hO.ends hC) (opts_cost hr) (opts_many hr)
/-- The blocks of a walk over the other choices. -/
def OtherR (l os : List UInt8) (T k n g cg B : Nat) (c : UInt8) (w : World) (j : Nat) (wr : World) : Prop :=
  ∃ vo : Sv, KOwn 54 7 encZ wr B (.slice (some ⟨g, 0, none⟩) T cg) ((l.map glz).set k ((0, 0, 0, 0), (c, (n : Int)), vo)) ∧ KOwn 67 2 encC wr B (.slice vo.1 vo.2.1 vo.2.2) ((os.take j).map fun o => (o, (n : Int))) ∧ (Value.slice vo.1 vo.2.1 vo.2.2).ownBlock ≠ some g ∧ Ext w wr
theorem exampleR (w w1 : World) (hx : Ext w w1) : Calls Tryz.prog 11 #[] w1 fun e w' => e = .returned (.bool true) ∧ Ext w w' := (example_any w1).mono fun e w' h => ⟨h.1, hx.trans h.2⟩
set_option maxRecDepth 100000 in
set_option maxHeartbeats 8000000 in
theorem law_checks (s : ByteArray) (c0 a0 : Int) (a : Option Addr) (len cap : Nat) (os : List UInt8) (n0 : Int) (w : World) (hs : s.size ≤ maxLen) (hc : 0 ≤ c0 ∧ c0 ≤ 255) (ha : 0 ≤ a0 ∧ a0 ≤ 255) (hn : 0 ≤ n0 ∧ n0 ≤ 255) (hz : Sl w (.slice a len cap) (os.map encB)) (hzl : os.length = len) (hlen : len ≤ maxLen) :
    Calls Tryz.prog 9 #[.string s, .int .u8 c0, .int .u8 a0, .slice a len cap, .int .u8 n0] w fun e w' => e = .returned (.bool true) ∧ Ext w w' := by
  obtain ⟨c0, rfl⟩ : ∃ m : Nat, c0 = m := ⟨c0.toNat, by omega⟩
  obtain ⟨a0, rfl⟩ : ∃ m : Nat, a0 = m := ⟨a0.toNat, by omega⟩
  obtain ⟨n0, rfl⟩ : ∃ m : Nat, n0 = m := ⟨n0.toNat, by omega⟩
  obtain ⟨c1, hc1⟩ : ∃ c1, c0 % 8 = c1 := ⟨_, rfl⟩
  have ec1 : (c0 : Int) % 8 = (c1 : Int) := by omega
  obtain ⟨kk, hkk⟩ : ∃ kk, 1 + c1 = kk := ⟨_, rfl⟩
  have ekk : 1 + (c1 : Int) = (kk : Int) := by omega
  obtain ⟨n, hnn⟩ : ∃ n, n0 % 36 = n := ⟨_, rfl⟩
  have en : (n0 : Int) % 36 = (n : Int) := by omega
  have hkb : 1 ≤ kk ∧ kk ≤ 8 := by omega
  have hc1b : c1 ≤ 7 := by omega
  have hnb : n ≤ 35 := by omega
  have ha0b : a0 ≤ 255 := by omega
  have hc0b : c0 ≤ 255 := by omega
  have hn0b : n0 ≤ 255 := by omega
  have HEX := Lib.hid exampleR
  have HA := Lib.hid (fun w' => rappend_any (kk : Int) s w' (by unfold maxLen at hs; omega))
  have hlen9 : len ≤ 9223372036854775807 := by unfold maxLen at hlen; omega
  clear hc1 hkk hnn hs hlen hc ha hn
  by_cases h0 : (Cd.app (kk : Int) s.data.toList).2 = 0
  · obtain ⟨k', hk', hn1, hn8, hne, hd, hf, hll, happ⟩ := Cd.app_ok (kk : Int) s.data.toList h0
    obtain rfl : kk = k' := by omega
    rw [h0, happ] at HA
    obtain ⟨t, ht⟩ : ∃ t : ByteArray, (⟨(s.data.toList ++ Cd.cmp kk s.data.toList).toArray⟩ : ByteArray) = t := ⟨_, rfl⟩
    rw [ht] at HA
    have htl : t.data.toList = s.data.toList ++ Cd.cmp kk s.data.toList := by rw [← ht]
    have hts : t.size = s.size + Cd.size kk := by rw [size_of_toList htl, List.length_append, Cd.cmp_size kk _ hn1 hn8, len_data]
    have hz2 := Cd.size_bd kk
    have hll' : s.size + Cd.size kk ≤ 4096 := by rw [← len_data s]; exact hll
    have hcomp := Gl.comp_ok hne (by omega) hd hf
    have hts1 : 1 ≤ t.size := by omega
    have hts2 : t.size ≤ 4096 := by omega
    by_cases h30 : 30 < t.size
    · have hb : decide ((30 : Int) < (t.size : Int)) = true := decide_eq_true (by omega)
      clear hcomp htl ht happ h0 hne hd hf hll hk' hz hzl
      go_enter Tryz.func9, Tryz.ntmps9
      go_wp2_with fail
      refine (HA.out _).mono ?_
      rintro e w1 ⟨rfl, rfl⟩
      go_wp2_with fail
      refine (HEX.out w _ (Ext.refl _)).mono ?_
      rintro e w2 ⟨rfl, hx2⟩
      go_wp2
      go_ret
      exact ⟨rfl, hx2⟩
    have hb30 : decide ((30 : Int) < (t.size : Int)) = false := decide_eq_false (by omega)
    by_cases h60 : 60 < len
    · have hb : decide ((60 : Int) < (len : Int)) = true := decide_eq_true (by omega)
      clear hcomp htl ht happ h0 hne hd hf hll hk' hz hzl
      go_enter Tryz.func9, Tryz.ntmps9
      go_wp2_with fail
      refine (HA.out _).mono ?_
      rintro e w1 ⟨rfl, rfl⟩
      go_wp2_with fail
      refine (HEX.out w _ (Ext.refl _)).mono ?_
      rintro e w2 ⟨rfl, hx2⟩
      go_wp2
      go_ret
      exact ⟨rfl, hx2⟩
    have hb60 : decide ((60 : Int) < (len : Int)) = false := decide_eq_false (by omega)
    have hCk : Gl.Checked kk s.data.toList t.data.toList := ⟨hn1, hn8, by rw [hcomp], htl, by rw [len_data]; omega⟩
    have HRS := Lib.hid (fun k c vo v w' (hk : t.data.toList[k]? = some c) hv hvo => resolve_off t.data.toList s.data.toList os k kk n c vo v w' hCk hk hnb (by omega) hv hvo)
    rw [len_data, show bS t.data.toList = t from mk_toList t] at HRS
    have hlen60 : len ≤ 60 := by omega
    have HZ := Lib.hid hz
    have HZL := Lib.hid hzl
    obtain ⟨l, hl⟩ : ∃ l, t.data.toList = l := ⟨_, rfl⟩
    have hll2 : l.length = t.size := by rw [← hl]; exact len_data t
    have HIX : Hid (∀ i (h : i < t.size), l[i]? = some t[i]) := Lib.hid (fun i h => by rw [← hl]; exact List.getElem?_eq_getElem (by rw [len_data]; exact h))
    rw [hl] at HRS
    have HLL := Lib.hid hll2
    obtain ⟨k, hkq⟩ : ∃ k, a0 % t.size = k := ⟨_, rfl⟩
    have ek : (a0 : Int) % (t.size : Int) = (k : Int) := by rw [← hkq]; rfl
    have hkt : k < t.size := by rw [← hkq]; exact Nat.mod_lt _ (by omega)
    have hktI : (k : Int) < (t.size : Int) := by omega
    clear hcomp htl ht happ h0 hne hd hf hll hk' hz hzl hCk hl hll2 hkq hts hz2 hll' h30 h60
    go_enter Tryz.func9, Tryz.ntmps9
    go_wp2_with fail
    refine (HA.out _).mono ?_
    rintro e w1 ⟨rfl, rfl⟩
    go_wp2
    go_loopw [14, 15, 16] (fun v14 v15 v16 wr => ∃ (i : Nat) (P : ByteArray), i ≤ t.size ∧ v16 = .int .i64 (i : Int) ∧ v15 = .string P ∧ Hid (P = bS (List.replicate i 120)) ∧ KOwn 54 7 encZ wr w.heap.size v14 ((l.take i).map glz) ∧ Ext w wr) (fun _ _ v16 _ => t.size - (intOf v16).toNat)
    case atStart => exact ⟨0, ⟨#[]⟩, Nat.zero_le _, rfl, rfl, Lib.hid rfl, KOwn.nil _ _ _ _ _, Ext.refl _⟩
    case round =>
      obtain ⟨i, P, hi, rfl, rfl, HP, hown, hxr⟩ := hrel
      by_cases hlt : i < t.size
      · have hltI : (i : Int) < (t.size : Int) := by omega
        have hPs : P.size ≤ 4096 := by rw [HP.out, bS_size, List.length_replicate]; omega
        have HT : Hid ((l.take (i + 1)).map glz = (l.take i).map glz ++ [glz t[i]]) := Lib.hid (by rw [List.take_add_one, HIX.out i hlt, Option.toList_some, List.map_append]; rfl)
        have hlg : ((l.take i).map glz).length ≤ 4096 := by rw [List.length_map]; exact Nat.le_trans (List.length_take_le ..) (by omega)
        generalize (l.take i).map glz = got at *
        have hszr := hxr.size
        go_wp2_with (at_builtin; refine append_k rfl _ _ 43 54 (.agg #[.int .i64 0, .int .i64 0, .int .i64 0, .int .i64 0, .int .u8 0, .int .i64 0, .slice none 0 0]) 72 rfl Tryz.underlying43 info_glyph rfl (by decide) (by decide) encZ_len encZ_one w.heap.size _ got rfl (hown.ext ((Ext.refl _).alloc _)) _ (glz t[i]) rfl ?c1 ?c2 ?c3 ?_)
        case c1 =>
          intro j r hj
          match j with
          | 0 => simp only [encZ, glz, List.getElem?_cons_zero, Option.some.injEq] at hj; subst hj; simp [go_sem, encI]
          | 1 => simp only [encZ, glz, List.getElem?_cons_succ, List.getElem?_cons_zero, Option.some.injEq] at hj; subst hj; simp [go_sem, encI]
          | 2 => simp only [encZ, glz, List.getElem?_cons_succ, List.getElem?_cons_zero, Option.some.injEq] at hj; subst hj; simp [go_sem, encI]
          | 3 => simp only [encZ, glz, List.getElem?_cons_succ, List.getElem?_cons_zero, Option.some.injEq] at hj; subst hj; simp [go_sem, encI]
          | 4 => simp only [encZ, glz, List.getElem?_cons_succ, List.getElem?_cons_zero, Option.some.injEq] at hj; subst hj; simp [go_sem, encB]
          | 5 => simp only [encZ, glz, List.getElem?_cons_succ, List.getElem?_cons_zero, Option.some.injEq] at hj; subst hj; simp [go_sem, encI]
          | 6 => simp only [encZ, glz, List.getElem?_cons_succ, List.getElem?_cons_zero, Option.some.injEq] at hj; subst hj; simp [go_sem]
          | j + 7 => simp [encZ] at hj
        case c2 => omega
        case c3 => (try simp); omega
        intro v' w5 hown5 hg5
        have hx5 := (hxr.alloc _).ofGrown hg5 hown.low
        clear hown hg5 hxr hszr hlg
        go_wp2
        go_roundw
        case rel => exact ⟨i + 1, _, hlt, by go_num, rfl, Lib.hid (by rw [HP.out, List.replicate_succ', ← bS_app]; rfl), by rw [HT.out]; exact hown5, hx5⟩
        case measure => simp [intOf]; omega
      · obtain rfl : i = t.size := by omega
        have hall : l.take t.size = l := by rw [← HLL.out, List.take_length]
        rw [hall] at hown
        have hlm : (l.map glz).length = t.size := by rw [List.length_map, HLL.out]
        rcases hown.form with ⟨h0, _⟩ | ⟨g, cg, rfl, hg1, hg2⟩
        · rw [h0] at hlm; simp at hlm; omega
        rw [hlm] at hown ⊢
        have hkI := HIX.out k hkt
        have hgk : (l.map glz)[k]? = some (glz t[k]) := by rw [List.getElem?_map, hkI]; rfl
        obtain ⟨b3, o3, he3, _, hcl⟩ := (hown.sl encZ_len).at_ hgk
        simp only [Option.some.injEq, Addr.mk.injEq, and_true] at he3
        obtain ⟨rfl, rfl⟩ := he3
        have k5 : wr.cell? ⟨g, k * 7 + 5, none⟩ = some (.int .i64 0) := by have := hcl 5 (by omega); rw [Nat.zero_add] at this; exact this
        have kf : wr.frozen? ⟨g, k * 7 + 5, none⟩ = false := by
          have hh := hown
          unfold KOwn at hh
          rw [hlm] at hh
          exact World.ownsRow.frozenAt hh _
        obtain ⟨c, hcc⟩ : ∃ c, t[k] = c := ⟨_, rfl⟩
        rw [hcc] at hkI hgk
        have HKI := Lib.hid hkI
        have HGK := Lib.hid hgk
        have HO := Lib.hid hown
        have HX := Lib.hid hxr
        have HLM := Lib.hid hlm
        have hgw : w.heap.size ≤ g := hg1
        have hPe := HP.out
        subst hPe
        clear hall hlm hown hxr hkI hgk hcl hcc hi hlt HIX HP
        go_wp2
        go_loopw [19] (fun v19 wq => ∃ j : Nat, j ≤ len ∧ v19 = .int .i64 (j : Int) ∧ OtherR l os t.size k n g cg w.heap.size c w j wq) (fun v19 _ => len - (intOf v19).toNat)
        case atStart =>
          refine ⟨0, Nat.zero_le _, rfl, (none, 0, 0), ?_, KOwn.nil _ _ _ _ _, by simp [Value.ownBlock], HX.out.setCell (p := ⟨g, k * 7 + 5, none⟩) hgw _⟩
          exact (KOwn.stored encZ_len HO.out HGK.out (show 5 < 7 by omega) (.int .i64 (n : Int)) (y := ((0, 0, 0, 0), (c, (n : Int)), (none, 0, 0))) rfl).1
        case round =>
          obtain ⟨j, hj, rfl, ⟨vo1, vo2, vo3⟩, hG, hC, hne, hxq⟩ := hrel
          dsimp only at hC hne
          clear k5 kf
          by_cases hlt : j < len
          · have hltI : (j : Int) < (len : Int) := by omega
            obtain ⟨o, ho⟩ : ∃ o, os[j]? = some o := ⟨_, List.getElem?_eq_getElem (by rw [HZL.out]; exact hlt)⟩
            obtain ⟨bz, oz, rfl, hbz, hz1⟩ := (HZ.out.ext hxq).at_ (k := j) (by rw [List.length_map, HZL.out]; exact hlt)
            have z1 : wr.cell? ⟨bz, oz + j, none⟩ = some (.int .u8 (o.toNat : Int)) := by
              rw [List.getElem_map, (List.getElem?_eq_some_iff.1 ho).2] at hz1
              exact hz1
            have hset : ((l.map glz).set k ((0, 0, 0, 0), (c, (n : Int)), ((vo1, vo2, vo3) : Sv)))[k]? = some (((0, 0, 0, 0), (c, (n : Int)), ((vo1, vo2, vo3) : Sv)) : Gz) := by rw [List.getElem?_set_self (by rw [HLM.out]; exact hkt)]
            have hcl6 : ∀ W, KOwn 54 7 encZ W w.heap.size (.slice (some ⟨g, 0, none⟩) t.size cg) ((l.map glz).set k ((0, 0, 0, 0), (c, (n : Int)), ((vo1, vo2, vo3) : Sv))) → W.cell? ⟨g, k * 7 + 6, none⟩ = some (.slice vo1 vo2 vo3) ∧ W.frozen? ⟨g, k * 7 + 6, none⟩ = false := fun W hW => by
              obtain ⟨b3, o3, he3, _, hcl⟩ := (hW.sl encZ_len).at_ hset
              simp only [Option.some.injEq, Addr.mk.injEq, and_true] at he3
              obtain ⟨rfl, rfl⟩ := he3
              refine ⟨by have := hcl 6 (by omega); rw [Nat.zero_add] at this; exact this, ?_⟩
              have hh := hW
              unfold KOwn at hh
              rw [List.length_set, HLM.out] at hh
              exact World.ownsRow.frozenAt hh _
            obtain ⟨p6, f6⟩ := hcl6 wr hG
            have hol : ((os.take j).map fun o => (o, (n : Int))).length = j := by rw [List.length_map, List.length_take, HZL.out]; omega
            have hcells : ∀ (q : Nat) r, (encC (o, (n : Int)))[q]? = some r → ((wr.alloc (.cells #[.int .u8 (o.toNat : Int), .int .i64 (n : Int)] 67)).drew).cell? ⟨wr.heap.size, q, none⟩ = some r := fun q r hr =>
              cell_at (heap_alloc_new wr _) (by simpa [encC, encI, encB] using hr)
            have hxd := ((Ext.refl wr).alloc (.cells #[.int .u8 (o.toNat : Int), .int .i64 (n : Int)] 67)).drew
            have hgl : g < wr.heap.size := (hG.block rfl).2
            obtain ⟨v', w5, hrun, hown5, hg5, hblk5⟩ := run_append_k_at (w := (wr.alloc (.cells #[.int .u8 (o.toNat : Int), .int .i64 (n : Int)] 67)).drew) 35 67 35 (.agg #[.int .u8 0, .int .i64 0]) 16 Tryz.underlying35 info_choice rfl (by decide) (by decide) encC_len encC_one w.heap.size _ ((os.take j).map fun o => (o, (n : Int))) (hC.ext hxd) wr.heap.size (o, (n : Int)) hcells (by omega) (hxq.trans hxd).size
            obtain ⟨a5, c5, hv5⟩ := (hown5.sl encC_len).form
            rw [List.length_append, hol] at hv5
            have hv5 : v' = .slice a5 (j + 1) c5 := hv5
            subst hv5
            have hG5 := (hG.ext hxd).kept hg5 (.inr fun e => hne e.symm)
            obtain ⟨q6, qf6⟩ := hcl6 w5 hG5
            simp [go_sem] at hrun
            have HG5 := Lib.hid hG5
            have HO5 := Lib.hid hown5
            have HX5 := Lib.hid ((hxq.trans hxd).ofGrown hg5 hC.low)
            have HB5 := Lib.hid hblk5
            have HNE := Lib.hid hne
            have HSET := Lib.hid hset
            have HT : Hid ((os.take (j + 1)).map (fun o => (o, (n : Int))) = (os.take j).map (fun o => (o, (n : Int))) ++ [(o, (n : Int))]) := Lib.hid (by rw [List.take_add_one, ho, Option.toList_some, List.map_append]; rfl)
            have hg5l := lt_at (b := g) (w := w5) (o := w5.heap[g]'(by have := hg5.size; have := hxd.size; omega)) (Array.getElem?_eq_getElem _)
            clear hG hC hne hz1 ho hset hcl6 hol hcells hxd hown5 hg5 hblk5 hG5 hxq
            go_wp2
            go_region
            go_wp2
            go_roundw
            case rel =>
              refine ⟨j + 1, hlt, by go_num, (a5, j + 1, c5), ?_, ?_, ?_, HX5.out.setCell (p := ⟨g, k * 7 + 6, none⟩) hgw _⟩
              · have := (KOwn.stored encZ_len HG5.out HSET.out (show 6 < 7 by omega) (.slice a5 (j + 1) c5) (y := ((0, 0, 0, 0), (c, (n : Int)), ((a5, j + 1, c5) : Sv))) rfl).1
                rw [List.set_set] at this
                exact this
              · rw [HT.out]
                refine HO5.out.kept (grown_set w5 g (k * 7 + 6) _) (.inr fun e => ?_)
                rcases HB5.out with h | h
                · rw [h] at e; exact HNE.out e
                · rw [h] at e; simp at e; omega
              · intro e
                rcases HB5.out with h | h
                · rw [h] at e; exact HNE.out e
                · rw [h] at e; simp at e; omega
            case measure => simp [intOf]; omega
          · obtain rfl : j = len := by omega
            have hta : os.take j = os := by rw [← HZL.out, List.take_length]
            rw [hta] at hC
            have HRR := Lib.hid (HRS.out k c (vo1, vo2, vo3) (.slice (some ⟨g, 0, none⟩) t.size cg) wr HKI.out (hG.sl encZ_len) (hC.sl encC_len))
            have HX2 := Lib.hid hxq
            clear hG hC hne hxq hta hlt hj
            go_wp2_with fail
            refine HRR.out.mono ?_
            rintro e w4 ⟨rfl, hx4⟩
            have HX4 := Lib.hid (HX2.out.trans hx4)
            clear hx4
            go_wp2_with fail
            refine (HEX.out w _ HX4.out).mono ?_
            rintro e w5 ⟨rfl, hx5⟩
            go_wp2
            go_ret
            exact ⟨rfl, hx5⟩
  · have hb : ((Cd.app (kk : Int) s.data.toList).2 != 0) = true := by simpa using h0
    obtain ⟨t, ht⟩ : ∃ t : ByteArray, (⟨(Cd.app (kk : Int) s.data.toList).1.toArray⟩ : ByteArray) = t := ⟨_, rfl⟩
    obtain ⟨er, her⟩ : ∃ er, (Cd.app (kk : Int) s.data.toList).2 = er := ⟨_, rfl⟩
    rw [ht, her] at HA
    rw [her] at hb
    clear h0 ht her hz hzl
    go_enter Tryz.func9, Tryz.ntmps9
    go_wp2_with fail
    refine (HA.out _).mono ?_
    rintro e w1 ⟨rfl, rfl⟩
    go_wp2_with fail
    refine (HEX.out w _ (Ext.refl _)).mono ?_
    rintro e w2 ⟨rfl, hx2⟩
    go_wp2
    go_ret
    exact ⟨rfl, hx2⟩
theorem law_checks' (s : ByteArray) (c0 a0 : Int) (a : Option Addr) (len cap : Nat) (zs : List Int) (n0 : Int) (w : World) (hs : s.size ≤ maxLen) (hc : 0 ≤ c0 ∧ c0 ≤ 255) (ha : 0 ≤ a0 ∧ a0 ≤ 255)
    (hz : (a = none ∧ len = 0 ∧ cap = 0 ∧ zs = []) ∨ ∃ x, a = some x ∧ len ≤ cap ∧ cap ≤ maxLen ∧ zs.length = cap ∧ (∀ i, i < zs.length → w.cell? (x.add i) = some (.int .u8 (zs.getD i 0))) ∧ ∀ n ∈ zs, (Lit.int .u8 n).wf = true) (hn : 0 ≤ n0 ∧ n0 ≤ 255) :
    Calls Tryz.prog 9 #[.string s, .int .u8 c0, .int .u8 a0, .slice a len cap, .int .u8 n0] w fun e w' => e = .returned (.bool true) ∧ Ext w w' := by
  obtain ⟨os, h1, h2, h3⟩ := bytes_came' hz
  exact law_checks s c0 a0 a len cap os n0 w hs hc ha hn h2 h1 h3
end Go.Proofs.YtamkgbodifjlaaaGreatDoor
