/-
  Regions that draw their order and hold calls, where one operation (an address) may come up at any time: 'x.f = append(x.f, g(..))'.
  No condition.
-/
import Derived.Test.YtamkgbodifjlaaaGreatDoorRelA
namespace Go.Proofs.YtamkgbodifjlaaaGreatDoor
open Go.RowKit

def listedF (n m f : Nat) : Array Bool := (listedTo n m).setIfInBounds f true
/-- Operations 0 to m - 1 come ahead of operation m in every order, and this ahead of all others. -/
def relCheckF (ops : Array Oper) (m f : Nat) (ds : List Nat) (deps : List (List Nat)) : Bool :=
  decide (m < ops.size) && decide (ds.length = m) && decide ds.Nodup &&
  ((List.range m).all fun i => match ops[i]? with
    | some o => o.guard.isNone && o.dst == some (ds.getD i 0) && (deps.getD i []).all fun j => decide (j < i) && hasEdge ops i j
    | none => false) &&
  ((List.range ops.size).all fun i => match ops[i]? with
    | some o => o.after.all fun e => !Region.binds .any e || decide (e.on < i)
    | none => false) &&
  ((List.range m).all fun i => (List.range (m + 1)).any fun k => decide (i < k) && hasEdge ops k i) &&
  ((List.range ops.size).all fun i => decide (i ≤ m) || i == f || (List.range ops.size).any fun k => decide (m ≤ k) && (k != f) && hasEdge ops i k) &&
  decide (cnt ops.size (listedF ops.size m f) = ops.size - m - 1) && decide (cnt ops.size ((Array.replicate ops.size false).setIfInBounds f true) = ops.size - 1) && decide (m < f) && decide (f < ops.size) && (List.range ops.size).all fun i => !hasEdge ops f i


section
variable {P : Program} {ops : Array Oper} {Q : Exit → Act → World → Prop} {W : World} {a : Act} {m : Nat} {ds : List Nat} {deps : List (List Nat)} {R : Nat → Value → World → Prop}

structure RelInvF (f : Nat) (ops : Array Oper) (W : World) (a : Act) (m : Nat) (ds : List Nat) (R : Nat → Value → World → Prop) (listed : Array Bool) (b : Act) (w : World) (V : Nat → Value) : Prop where
  size : listed.size = ops.size
  fill : b = fillA V ds a
  ext : Ext W w
  tail : ∀ i, i < ops.size → listed.getD i false = true → i < m ∨ i = f
  flt : listed.getD f false = true
  fact : ∀ i, i < m → listed.getD i false = true → R i (V (ds.getD i 0)) w
  down : ∀ k i, k < ops.size → listed.getD k false = true → hasEdge ops k i = true → listed.getD i false = true

theorem wpAny_relF {f : Nat} (hchk : relCheckF ops m f ds deps = true)
    (hst : ∀ i v w w', R i v w → Ext w w' → R i v w')
    (hstep : ∀ i o, i < m → ops[i]? = some o → ∀ V w, Ext W w → (∀ j ∈ deps.getD i [], R j (V (ds.getD j 0)) w) → relAt P o (fillA V ds a) w fun v w' => Ext w w' ∧ R i v w')
    (hend : ∀ V w, Ext W w → (∀ j, j < m → R j (V (ds.getD j 0)) w) → wpAny P .any ops Q (ops.size - m - 1) (listedF ops.size m f) (fillA V ds a) w) :
    ∀ (fuel : Nat) (listed : Array Bool) (b : Act) (w : World) (V : Nat → Value), cnt ops.size listed = fuel → RelInvF f ops W a m ds R listed b w V → wpAny P .any ops Q fuel listed b w := by
  simp only [relCheckF, Bool.and_eq_true, decide_eq_true_eq] at hchk
  obtain ⟨⟨⟨⟨⟨⟨⟨⟨⟨⟨⟨c1, c2⟩, c3⟩, c4⟩, c5⟩, c6⟩, c7⟩, c8⟩, c9⟩, cf⟩, cfs⟩, c10⟩ := hchk
  rw [List.all_eq_true] at c4 c5 c6 c7
  intro fuel
  induction fuel with
  | zero =>
    intro listed b w V hc I
    -- operation m is not listed
    exfalso
    have hm : listed.getD m true = false := by
      rw [getD_tf (by rw [I.size]; exact c1)]
      cases h : listed.getD m false with
      | false => rfl
      | true => rcases I.tail m c1 h with h | h <;> omega
    have := cnt_set I.size hm
    omega
  | succ fuel ih =>
    intro listed b w V hc I
    -- when operation m is ready, all before it are listed
    have hall : m ∈ Region.ready .any ops listed → listed = listedF ops.size m f := fun hr => by
      obtain ⟨hmf, o, ho, hdep⟩ := mem_ready.1 hr
      have hl : ∀ d i, i < m → m - i = d → listed.getD i false = true := by
        intro d
        induction d using Nat.strongRecOn with
        | _ d ihd =>
          intro i hi hd
          have h6 := c6 i (List.mem_range.2 hi)
          rw [List.any_eq_true] at h6
          obtain ⟨k, hk, hik⟩ := h6
          rw [List.mem_range] at hk
          rw [Bool.and_eq_true, decide_eq_true_eq] at hik
          by_cases hkm : k = m
          · subst hkm
            obtain ⟨e, he, hb, hon⟩ := hasEdge_on ho hik.2
            rw [← hon]; exact hdep e he hb
          · have hk' : listed.getD k false = true := ihd (m - k) (by omega) k (by omega) rfl
            exact I.down k i (by omega) hk' hik.2
      apply Array.ext
      · rw [I.size]; simp [listedF, listedTo]; omega
      · intro i h1 h2
        have h1' : i < ops.size := by rw [← I.size]; exact h1
        by_cases hif : f = i
        · subst hif
          have := I.flt
          simp [h1] at this
          simp [listedF, this]
        · by_cases him : i < m
          · have := hl _ i him rfl
            simp [h1] at this
            simp [listedF, listedTo, Array.getElem_setIfInBounds, hif, him, this]
          · have : listed.getD i false = false := by
              cases h : listed.getD i false with
              | false => rfl
              | true => rcases I.tail i h1' h with h | h <;> omega
            simp [h1] at this
            simp [listedF, listedTo, Array.getElem_setIfInBounds, hif, List.getElem_append, him, this]
    have hmf : listed.getD m false = false := by
      cases h : listed.getD m false with
      | false => rfl
      | true => rcases I.tail m c1 h with h | h <;> omega
    -- some operation is ready
    have hsome : Region.ready .any ops listed ≠ [] := by
      intro hnil
      have key : ∀ i, i ≤ m → listed.getD i false = true := by
        intro i
        induction i using Nat.strongRecOn with
        | _ i ihi =>
          intro him
          cases h : listed.getD i false with
          | true => rfl
          | false =>
            exfalso
            have hin : i < ops.size := by omega
            have h5 := c5 i (List.mem_range.2 hin)
            obtain ⟨o, ho⟩ : ∃ o, ops[i]? = some o := ⟨_, Array.getElem?_eq_getElem hin⟩
            rw [ho] at h5
            simp only [Array.all_eq_true_iff_forall_mem, Bool.or_eq_true, Bool.not_eq_true', decide_eq_true_eq] at h5
            have : i ∈ Region.ready .any ops listed := by
              rw [mem_ready]
              refine ⟨by rw [getD_tf (by rw [I.size]; exact hin)]; exact h, o, ho, fun e he hb => ?_⟩
              rcases h5 e he with h5 | h5
              · rw [hb] at h5; cases h5
              · exact ihi e.on h5 (by omega)
            rw [hnil] at this
            cases this
      rw [key m (Nat.le_refl _)] at hmf
      cases hmf
    by_cases hmr : m ∈ Region.ready .any ops listed
    · -- the tail
      have he := hall hmr
      subst he
      rw [← hc, c8, I.fill]
      refine hend V w I.ext (fun j hj => I.fact j hj ?_)
      have : j < ops.size := by omega
      have hjf : f ≠ j := by omega
      unfold listedF
      rw [getD_set_ne false hjf]
      simp [listedTo, List.getElem?_append, hj]
    refine ⟨fun h => absurd h hsome, fun i hi => ?_⟩
    obtain ⟨hiu, o, ho, hdep⟩ := mem_ready.1 hi
    have hin : i < ops.size := (Array.getElem?_eq_some_iff.1 ho).1
    have him : i < m := by
      rcases Nat.lt_trichotomy i m with h | h | h
      · exact h
      · exact absurd (h ▸ hi) hmr
      · exfalso
        have h7 := c7 i (List.mem_range.2 hin)
        rw [Bool.or_eq_true, Bool.or_eq_true, decide_eq_true_eq, List.any_eq_true, beq_iff_eq] at h7
        rcases h7 with (h7 | h7) | ⟨k, hk, hik⟩
        · omega
        · subst h7
          have := I.flt
          rw [← getD_tf (by rw [I.size]; exact hin)] at this
          rw [this] at hiu
          cases hiu
        · rw [List.mem_range] at hk
          rw [Bool.and_eq_true, Bool.and_eq_true, decide_eq_true_eq, bne_iff_ne] at hik
          obtain ⟨e, he, hb, hon⟩ := hasEdge_on ho hik.2
          have := hdep e he hb
          rw [hon] at this
          rcases I.tail k hk this with h8 | h8
          · omega
          · exact hik.1.2 h8
    have h4 := c4 i (List.mem_range.2 him)
    rw [ho] at h4
    simp only [Bool.and_eq_true, beq_iff_eq, List.all_eq_true, decide_eq_true_eq] at h4
    obtain ⟨⟨hg, hd⟩, hdd⟩ := h4
    have hgn : o.guard = none := by cases h : o.guard with
      | none => rfl
      | some x => rw [h] at hg; cases hg
    have hw : Region.wanted o (yielded ops b.tmps) = true := by simp [Region.wanted, hgn]
    unfold wpOp
    rw [ho]
    simp only [hw, if_true]
    refine .inl ?_
    have hs := hstep i o him ho V w I.ext (fun j hj => by
      obtain ⟨h1, h2⟩ := hdd j hj
      obtain ⟨e, he, hb, hon⟩ := hasEdge_on ho h2
      exact I.fact j (by omega) (by rw [← hon]; exact hdep e he hb))
    rw [I.fill]
    refine wp_of_relAt hs (fun v w' ⟨hx, hR⟩ => ?_)
    have hmem : ds.getD i 0 ∈ ds := by
      rw [List.getD_eq_getElem?_getD, List.getElem?_eq_getElem (by omega)]
      exact List.getElem_mem _
    rw [hd, fillA_hit V _ v ds a c3 hmem]
    refine ih _ _ _ _ ?_ ⟨?_, rfl, I.ext.trans hx, ?_, ?_, ?_, ?_⟩
    · have := cnt_set I.size hiu; omega
    · rw [Array.size_setIfInBounds]; exact I.size
    · intro k hk hl
      by_cases hki : i = k
      · omega
      · rw [getD_set_ne false hki] at hl; exact I.tail k hk hl
    · by_cases hki : i = f
      · omega
      · rw [getD_set_ne false hki]; exact I.flt
    · intro k hk hl
      by_cases hki : i = k
      · subst hki
        rw [if_pos rfl]; exact hR
      · rw [getD_set_ne false hki] at hl
        have hne : ds.getD k 0 ≠ ds.getD i 0 := by
          rw [List.getD_eq_getElem?_getD, List.getD_eq_getElem?_getD, List.getElem?_eq_getElem (show k < ds.length by omega), List.getElem?_eq_getElem (show i < ds.length by omega)]
          simp only [Option.getD_some]
          intro h
          exact hki ((List.getElem_inj c3).1 h).symm
        rw [if_neg hne]
        exact hst k _ _ _ (I.fact k hk hl) hx
    · intro k j hk hl hj
      by_cases hki : i = k
      · subst hki
        obtain ⟨e, he, hb, hon⟩ := hasEdge_on ho hj
        exact getD_set_true (by rw [← hon]; exact hdep e he hb)
      · rw [getD_set_ne false hki] at hl
        exact getD_set_true (I.down k j hk hl hj)

theorem wp_region_relF0 {id f df : Nat} {of : Oper} {vf : Value} (hm : P.follows .mixedOrders = true) (hchk : relCheckF ops m f ds deps = true) (hof : ops[f]? = some of) (hdf : of.dst = some df) (hs : Region.noSelect ops = true) (hfree : Region.free .any ops (Array.replicate ops.size false) f = true) (hrd : (Region.ready .any ops (Array.replicate ops.size false)).contains f = true) (hQ : ∀ c a w, Q (.panic c) (a.put (some df) vf) w → Q (.panic c) a w) (hy : Yields P ops of vf a)
    (hst : ∀ i v w w', R i v w → Ext w w' → R i v w')
    (hstep : ∀ i o, i < m → ops[i]? = some o → ∀ V w, Ext W w → (∀ j ∈ deps.getD i [], R j (V (ds.getD j 0)) w) → relAt P o (fillA V ds (a.put (some df) vf)) w fun v w' => Ext w w' ∧ R i v w')
    (hend : ∀ V w, Ext W w → (∀ j, j < m → R j (V (ds.getD j 0)) w) → wpAny P .any ops Q (ops.size - m - 1) (listedF ops.size m f) (fillA V ds (a.put (some df) vf)) w) :
    (Code.region id ops true).wp P Q a W := by
  refine wp_region_any hm ?_
  have hck := hchk
  simp only [relCheckF, Bool.and_eq_true, decide_eq_true_eq] at hck
  obtain ⟨⟨⟨⟨_, hc⟩, hmf⟩, hfs⟩, hne⟩ := hck
  obtain ⟨n, hn⟩ : ∃ n, ops.size = n + 1 := ⟨ops.size - 1, by omega⟩
  rw [show wpAny P .any ops Q ops.size (Array.replicate ops.size false) a { W with drawn := W.drawn + 1 } = wpAny P .any ops Q (n + 1) (Array.replicate ops.size false) a { W with drawn := W.drawn + 1 } by rw [← hn]]
  refine wpAny_take hof hs hfree hrd (by rw [hdf]; exact hQ) hy ?_
  rw [hdf]
  have hf : ∀ i, f ≠ i → ((Array.replicate ops.size false).setIfInBounds f true).getD i false = false := fun i hi => by
    rw [getD_set_ne false hi, Array.getD_eq_getD_getElem?, Array.getElem?_replicate]; split <;> rfl
  refine wpAny_relF hchk hst hstep hend _ _ _ _ (fun d => (a.put (some df) vf).tmps.getD d undef) (by rw [hc]; omega) ⟨by simp, (fillA_self ds _).symm, (Ext.refl W).drew, ?_, ?_, ?_, ?_⟩
  · intro i _ h
    by_cases hi : f = i
    · exact .inr hi.symm
    · rw [hf i hi] at h; cases h
  · simp [hfs]
  · intro i hi h
    rw [hf i (by omega)] at h; cases h
  · intro k i hk h he
    by_cases hi : f = k
    · subst hi
      rw [List.all_eq_true] at hne
      by_cases hin : i < ops.size
      · have := hne i (List.mem_range.2 hin)
        rw [he] at this
        cases this
      · obtain ⟨e, h1, h2, h3⟩ := hasEdge_on hof he
        exfalso
        have hz : f ∈ Region.ready .any ops (Array.replicate ops.size false) := by simpa using hrd
        obtain ⟨_, o', ho', hd'⟩ := mem_ready.1 hz
        rw [hof] at ho'
        injection ho' with ho'
        subst ho'
        have := hd' e h1 h2
        rw [h3] at this
        have h4 : (Array.replicate ops.size false).getD i false = false := by
          rw [Array.getD_eq_getD_getElem?, Array.getElem?_replicate]; split <;> rfl
        rw [h4] at this
        cases this
    · rw [hf k hi] at h; cases h
end
/-- **The law**: whatever order the region draws. -/
theorem wp_region_relF {P : Program} {Q : Exit → Act → World → Prop} {W : World} {a : Act} {id : Nat} {ops : Array Oper} (m n f df : Nat) (of : Oper) (vf : Value) (hn : ops.size = m + n + 1) (ds : List Nat) (deps : List (List Nat)) (hm : P.follows .mixedOrders = true) (hchk : relCheckF ops m f ds deps = true) (hof : ops[f]? = some of) (hdf : of.dst = some df) (hs : Region.noSelect ops = true) (hfree : Region.free .any ops (Array.replicate ops.size false) f = true) (hrd : (Region.ready .any ops (Array.replicate ops.size false)).contains f = true) (hQ : ∀ c a w, Q (.panic c) (a.put (some df) vf) w → Q (.panic c) a w) (hy : Yields P ops of vf a)
    (h : relPlan P W (a.put (some df) vf) ds deps (fun acc => ∀ V w, Ext W w → factsOf acc m ds V w (List.range m) → wpAny P .any ops Q n (listedF (m + n + 1) m f) (fillA V ds (a.put (some df) vf)) w) (ops.toList.take m) 0 []) :
    (Code.region id ops true).wp P Q a W := by
  obtain ⟨all, a1, _, a3, a4, a5⟩ := relPlan_get _ 0 [] rfl (fun R h => by cases h) h
  have hmz : m < ops.size := by
    simp only [relCheckF, Bool.and_eq_true, decide_eq_true_eq] at hchk
    exact hchk.1.1.1.1.1.1.1.1.1.1.1
  have hlen : all.length = m := by rw [a1, List.length_take, Array.length_toList]; omega
  have hdm : ∀ i, i < m → ∀ j ∈ deps.getD i [], j < i := by
    simp only [relCheckF, Bool.and_eq_true, decide_eq_true_eq] at hchk
    have c4 := hchk.1.1.1.1.1.1.1.1.2
    rw [List.all_eq_true] at c4
    intro i hi j hj
    have h4 := c4 i (List.mem_range.2 hi)
    cases ho : ops[i]? with
    | none => rw [ho] at h4; cases h4
    | some o =>
      rw [ho] at h4
      simp only [Bool.and_eq_true, List.all_eq_true, decide_eq_true_eq] at h4
      exact (h4.2 j hj).1
  refine wp_region_relF0 (f := f) (of := of) (R := fun i => all.getD i fun _ _ => True) (m := m) (ds := ds) (deps := deps) hm hchk hof hdf hs hfree hrd hQ hy ?_ ?_ ?_
  · intro i v w w' h hx
    rw [List.getD_eq_getElem?_getD] at h ⊢
    cases hi : all[i]? with
    | none => rw [hi] at h; trivial
    | some R =>
      rw [hi] at h
      exact a3 R (List.mem_of_getElem? hi) v w w' h hx
  · intro i o hi ho V w hx hf
    have h1 : (ops.toList.take m)[i]? = some o := by rw [List.getElem?_take, if_pos hi, Array.getElem?_toList]; exact ho
    have := a5 i o h1 V w hx (by
      intro j hj
      rw [Nat.zero_add] at hj ⊢
      exact ⟨hdm i hi j hj, hf j hj⟩)
    rw [Nat.zero_add] at this
    exact this
  · intro V w hx hf
    have h0 := a4 V w hx (by
      rw [factsOf_mem]
      intro j hj
      have hjm := List.mem_range.1 hj
      have := hf j hjm
      rw [List.getD_eq_getElem?_getD] at this ⊢
      rw [List.getElem?_reverse (by omega), hlen, show m - 1 - (m - 1 - j) = j by omega]
      exact this)
    rw [hn, show m + n + 1 - m - 1 = n by omega]
    exact h0
end Go.Proofs.YtamkgbodifjlaaaGreatDoor
