/-
  Regions that draw their order and hold calls whose results are known only by what they satisfy: a law for every order at once.
  No condition.
-/
import Derived.Test.YtkpfehfcgpapiaaGreatDoorKit
import Derived.Orders
import Derived.BigQuiet
import Derived.IntWalk
import Derived.RegionTactic

/-
  Regions that draw their order and hold calls whose results are known only by what they satisfy: a law for every order at once.
  No condition.
-/
namespace Go.Proofs.YtkpfehfcgpapiaaGreatDoor
open Go.RowKit

/-- What an operation leaves: its value, and the world behind it. -/
def relUpon (P : Program) (K : Value → World → Prop) : Result Next → Prop
  | .ok (.value v) w' => K v w'
  | .ok .skip w' => K undef w'
  | .ok (.enter f args) w' => Calls P f args w' fun e w'' => ∃ v, e = .returned v ∧ K v w''
  | _ => False
def relAt (P : Program) (o : Oper) (a : Act) (w : World) (K : Value → World → Prop) : Prop := relUpon P K ((execOp a.eval o).run P w)
theorem wp_of_relAt {P : Program} {o : Oper} {a : Act} {w : World} {K : Value → World → Prop} {K' : Act → World → Prop} {Q : Exit → Act → World → Prop}
    (h : relAt P o a w K) (hk : ∀ v w', K v w' → K' (a.put o.dst v) w') : o.wp P a w K' Q := by
  unfold relAt at h
  unfold Oper.wp
  generalize (execOp a.eval o).run P w = r at *
  cases r with
  | ok n w' =>
    cases n <;> simp only [relUpon] at h <;> simp only [Oper.upon]
    case value u => exact hk _ _ h
    case skip => exact hk _ _ h
    case enter f args => exact h.mono fun e w'' ⟨v, he, hv⟩ => by subst he; exact hk _ _ hv
  | halt x w' => simp only [relUpon] at h
/-- The slots of a list, filled. -/
def fillA (V : Nat → Value) (ds : List Nat) (a : Act) : Act := ds.foldl (fun a d => a.put (some d) (V d)) a
theorem put_self (a : Act) (d : Nat) : a.put (some d) (a.tmps.getD d undef) = a := by
  cases a with
  | mk t df =>
    unfold Act.put
    simp only
    congr 1
    apply Array.ext
    · simp
    · intro i h1 h2
      rw [Array.getElem_setIfInBounds]
      split
      · rename_i he; subst he; simp at h1; simp [h1]
      · rfl
theorem put_put (a : Act) (d : Nat) (u v : Value) : (a.put (some d) u).put (some d) v = a.put (some d) v := by
  unfold Act.put; simp [Array.setIfInBounds_setIfInBounds]
theorem fillA_self (ds : List Nat) : ∀ a : Act, fillA (fun d => a.tmps.getD d undef) ds a = a := by
  intro a
  have : ∀ (ds : List Nat) (b : Act), b = a → ds.foldl (fun b d => b.put (some d) (a.tmps.getD d undef)) b = a := by
    intro ds
    induction ds with
    | nil => intro b hb; exact hb
    | cons d ds ih =>
      intro b hb
      rw [List.foldl_cons]
      apply ih
      subst hb
      exact put_self _ d
  exact this ds a rfl
theorem fillA_miss (V : Nat → Value) (d : Nat) (v : Value) : ∀ (ds : List Nat) (a : Act), d ∉ ds → (fillA V ds a).put (some d) v = fillA (fun x => if x = d then v else V x) ds (a.put (some d) v) := by
  intro ds
  induction ds with
  | nil => intro a _; rfl
  | cons c ds ih =>
    intro a hd
    simp only [List.mem_cons, not_or] at hd
    show (fillA V ds (a.put (some c) (V c))).put (some d) v = fillA _ ds ((a.put (some d) v).put (some c) (if c = d then v else V c))
    rw [ih _ hd.2, if_neg (fun h => hd.1 h.symm), Act.put_comm a (x := some c) (y := some d) (V c) v (fun x hx => by injection hx with hx; subst hx; intro h; injection h with h; exact hd.1 h)]
theorem fillA_hit (V : Nat → Value) (d : Nat) (v : Value) : ∀ (ds : List Nat) (a : Act), ds.Nodup → d ∈ ds → (fillA V ds a).put (some d) v = fillA (fun x => if x = d then v else V x) ds a := by
  intro ds
  induction ds with
  | nil => intro a _ h; cases h
  | cons c ds ih =>
    intro a hn hd
    rw [List.nodup_cons] at hn
    rcases List.mem_cons.1 hd with rfl | hd
    · show (fillA V ds (a.put (some d) (V d))).put (some d) v = fillA _ ds (a.put (some d) (if d = d then v else V d))
      rw [fillA_miss V d v ds _ hn.1, put_put, if_pos rfl]
    · have hne : c ≠ d := fun h => hn.1 (h ▸ hd)
      show (fillA V ds (a.put (some c) (V c))).put (some d) v = fillA _ ds (a.put (some c) (if c = d then v else V c))
      rw [ih _ hn.2 hd, if_neg hne]

def hasEdge (ops : Array Oper) (k i : Nat) : Bool := match ops[k]? with
  | some o => o.after.any fun e => Region.binds .any e && e.on == i
  | none => false
def listedTo (n m : Nat) : Array Bool := (List.replicate m true ++ List.replicate (n - m) false).toArray
def cnt (n : Nat) (l : Array Bool) : Nat := (List.range n).countP fun i => !l.getD i true
/-- Operations 0 to m - 1 come ahead of operation m in every order, and this ahead of all others. -/
def relCheck (ops : Array Oper) (m : Nat) (ds : List Nat) (deps : List (List Nat)) : Bool :=
  decide (m < ops.size) && decide (ds.length = m) && decide ds.Nodup &&
  ((List.range m).all fun i => match ops[i]? with
    | some o => o.guard.isNone && o.dst == some (ds.getD i 0) && (deps.getD i []).all fun j => decide (j < i) && hasEdge ops i j
    | none => false) &&
  ((List.range ops.size).all fun i => match ops[i]? with
    | some o => o.after.all fun e => !Region.binds .any e || decide (e.on < i)
    | none => false) &&
  ((List.range m).all fun i => (List.range (m + 1)).any fun k => decide (i < k) && hasEdge ops k i) &&
  ((List.range ops.size).all fun i => decide (i ≤ m) || (List.range ops.size).any fun k => decide (m ≤ k) && hasEdge ops i k) &&
  decide (cnt ops.size (listedTo ops.size m) = ops.size - m) && decide (cnt ops.size (Array.replicate ops.size false) = ops.size)

theorem countP_one {l : List Nat} (hn : l.Nodup) {p q : Nat → Bool} {i : Nat} (hi : i ∈ l) (hp : p i = true) (hq : q i = false) (h : ∀ j, j ≠ i → q j = p j) : l.countP q + 1 = l.countP p := by
  induction l with
  | nil => cases hi
  | cons c l ih =>
    rw [List.nodup_cons] at hn
    rcases List.mem_cons.1 hi with rfl | hi
    · rw [List.countP_cons, List.countP_cons, hp, hq]
      have : l.countP q = l.countP p := List.countP_congr (fun x hx => by rw [h x (fun e => hn.1 (e ▸ hx))])
      simp [this]
    · have hc : c ≠ i := fun e => hn.1 (e ▸ hi)
      have := ih hn.2 hi
      rw [List.countP_cons, List.countP_cons, h c hc]
      omega
theorem cnt_set {n : Nat} {l : Array Bool} {i : Nat} (hs : l.size = n) (h : l.getD i true = false) : cnt n (l.setIfInBounds i true) + 1 = cnt n l := by
  have hi : i < n := by
    rcases Nat.lt_or_ge i n with h' | h'
    · exact h'
    · rw [← hs] at h'; simp [Array.getElem?_eq_none h'] at h
  refine countP_one List.nodup_range (List.mem_range.2 hi) (by rw [h]; rfl) ?_ ?_
  · simp [hs, hi]
  · intro j hj
    rw [getD_set_ne true (Ne.symm hj)]

theorem hasEdge_on {ops : Array Oper} {k i : Nat} {o : Oper} (ho : ops[k]? = some o) (h : hasEdge ops k i = true) : ∃ e ∈ o.after, Region.binds .any e = true ∧ e.on = i := by
  unfold hasEdge at h
  rw [ho] at h
  simp only [Array.any_eq_true', Bool.and_eq_true, beq_iff_eq] at h
  obtain ⟨e, he, hb, h⟩ := h
  exact ⟨e, he, hb, h⟩
theorem hasEdge_of {ops : Array Oper} {k : Nat} {o : Oper} {e : Edge} (ho : ops[k]? = some o) (he : e ∈ o.after) (hb : Region.binds .any e = true) : hasEdge ops k e.on = true := by
  unfold hasEdge
  rw [ho]
  simp only [Array.any_eq_true', Bool.and_eq_true, beq_iff_eq]
  exact ⟨e, he, hb, rfl⟩

section
variable {P : Program} {ops : Array Oper} {Q : Exit → Act → World → Prop} {W : World} {a : Act} {m : Nat} {ds : List Nat} {deps : List (List Nat)} {R : Nat → Value → World → Prop}

structure RelInv (ops : Array Oper) (W : World) (a : Act) (m : Nat) (ds : List Nat) (R : Nat → Value → World → Prop) (listed : Array Bool) (b : Act) (w : World) (V : Nat → Value) : Prop where
  size : listed.size = ops.size
  fill : b = fillA V ds a
  ext : Ext W w
  tail : ∀ i, i < ops.size → listed.getD i false = true → i < m
  fact : ∀ i, i < m → listed.getD i false = true → R i (V (ds.getD i 0)) w
  down : ∀ k i, k < ops.size → listed.getD k false = true → hasEdge ops k i = true → listed.getD i false = true

theorem getD_tf {l : Array Bool} {i : Nat} (h : i < l.size) : l.getD i true = l.getD i false := by simp [h]

theorem wpAny_rel (hchk : relCheck ops m ds deps = true)
    (hst : ∀ i v w w', R i v w → Ext w w' → R i v w')
    (hstep : ∀ i o, i < m → ops[i]? = some o → ∀ V w, Ext W w → (∀ j ∈ deps.getD i [], R j (V (ds.getD j 0)) w) → relAt P o (fillA V ds a) w fun v w' => Ext w w' ∧ R i v w')
    (hend : ∀ V w, Ext W w → (∀ j, j < m → R j (V (ds.getD j 0)) w) → wpAny P .any ops Q (ops.size - m) (listedTo ops.size m) (fillA V ds a) w) :
    ∀ (fuel : Nat) (listed : Array Bool) (b : Act) (w : World) (V : Nat → Value), cnt ops.size listed = fuel → RelInv ops W a m ds R listed b w V → wpAny P .any ops Q fuel listed b w := by
  simp only [relCheck, Bool.and_eq_true, decide_eq_true_eq] at hchk
  obtain ⟨⟨⟨⟨⟨⟨⟨⟨c1, c2⟩, c3⟩, c4⟩, c5⟩, c6⟩, c7⟩, c8⟩, c9⟩ := hchk
  rw [List.all_eq_true] at c4 c5 c6 c7
  intro fuel
  induction fuel with
  | zero =>
    intro listed b w V hc I
    -- operation m is not listed
    exfalso
    have hm : listed.getD m true = false := by
      rw [getD_tf (by rw [I.size]; exact c1)]
      cases h : listed.getD m false with
      | false => rfl
      | true => exact absurd (I.tail m c1 h) (Nat.lt_irrefl _)
    have := cnt_set I.size hm
    omega
  | succ fuel ih =>
    intro listed b w V hc I
    -- when operation m is ready, all before it are listed
    have hall : m ∈ Region.ready .any ops listed → listed = listedTo ops.size m := fun hr => by
      obtain ⟨hmf, o, ho, hdep⟩ := mem_ready.1 hr
      have hl : ∀ d i, i < m → m - i = d → listed.getD i false = true := by
        intro d
        induction d using Nat.strongRecOn with
        | _ d ihd =>
          intro i hi hd
          have h6 := c6 i (List.mem_range.2 hi)
          rw [List.any_eq_true] at h6
          obtain ⟨k, hk, hik⟩ := h6
          rw [List.mem_range] at hk
          rw [Bool.and_eq_true, decide_eq_true_eq] at hik
          by_cases hkm : k = m
          · subst hkm
            obtain ⟨e, he, hb, hon⟩ := hasEdge_on ho hik.2
            rw [← hon]; exact hdep e he hb
          · have hk' : listed.getD k false = true := ihd (m - k) (by omega) k (by omega) rfl
            exact I.down k i (by omega) hk' hik.2
      apply Array.ext
      · rw [I.size]; simp [listedTo]; omega
      · intro i h1 h2
        have h1' : i < ops.size := by rw [← I.size]; exact h1
        by_cases him : i < m
        · have := hl _ i him rfl
          simp [h1] at this
          simp [listedTo, him, this]
        · have : listed.getD i false = false := by
            cases h : listed.getD i false with
            | false => rfl
            | true => exact absurd (I.tail i h1' h) him
          simp [h1] at this
          simp [listedTo, List.getElem_append, him, this]
    have hmf : listed.getD m false = false := by
      cases h : listed.getD m false with
      | false => rfl
      | true => exact absurd (I.tail m c1 h) (Nat.lt_irrefl _)
    -- some operation is ready
    have hsome : Region.ready .any ops listed ≠ [] := by
      intro hnil
      have key : ∀ i, i ≤ m → listed.getD i false = true := by
        intro i
        induction i using Nat.strongRecOn with
        | _ i ihi =>
          intro him
          cases h : listed.getD i false with
          | true => rfl
          | false =>
            exfalso
            have hin : i < ops.size := by omega
            have h5 := c5 i (List.mem_range.2 hin)
            obtain ⟨o, ho⟩ : ∃ o, ops[i]? = some o := ⟨_, Array.getElem?_eq_getElem hin⟩
            rw [ho] at h5
            simp only [Array.all_eq_true_iff_forall_mem, Bool.or_eq_true, Bool.not_eq_true', decide_eq_true_eq] at h5
            have : i ∈ Region.ready .any ops listed := by
              rw [mem_ready]
              refine ⟨by rw [getD_tf (by rw [I.size]; exact hin)]; exact h, o, ho, fun e he hb => ?_⟩
              rcases h5 e he with h5 | h5
              · rw [hb] at h5; cases h5
              · exact ihi e.on h5 (by omega)
            rw [hnil] at this
            cases this
      rw [key m (Nat.le_refl _)] at hmf
      cases hmf
    by_cases hmr : m ∈ Region.ready .any ops listed
    · -- the tail
      have he := hall hmr
      subst he
      rw [← hc, c8, I.fill]
      refine hend V w I.ext (fun j hj => I.fact j hj ?_)
      have : j < ops.size := by omega
      simp [listedTo, List.getElem?_append, hj]
    refine ⟨fun h => absurd h hsome, fun i hi => ?_⟩
    obtain ⟨hiu, o, ho, hdep⟩ := mem_ready.1 hi
    have hin : i < ops.size := (Array.getElem?_eq_some_iff.1 ho).1
    have him : i < m := by
      rcases Nat.lt_trichotomy i m with h | h | h
      · exact h
      · exact absurd (h ▸ hi) hmr
      · exfalso
        have h7 := c7 i (List.mem_range.2 hin)
        rw [Bool.or_eq_true, decide_eq_true_eq, List.any_eq_true] at h7
        rcases h7 with h7 | ⟨k, hk, hik⟩
        · omega
        · rw [List.mem_range] at hk
          rw [Bool.and_eq_true, decide_eq_true_eq] at hik
          obtain ⟨e, he, hb, hon⟩ := hasEdge_on ho hik.2
          have := hdep e he hb
          rw [hon] at this
          exact absurd (I.tail k hk this) (by omega)
    have h4 := c4 i (List.mem_range.2 him)
    rw [ho] at h4
    simp only [Bool.and_eq_true, beq_iff_eq, List.all_eq_true, decide_eq_true_eq] at h4
    obtain ⟨⟨hg, hd⟩, hdd⟩ := h4
    have hgn : o.guard = none := by cases h : o.guard with
      | none => rfl
      | some x => rw [h] at hg; cases hg
    have hw : Region.wanted o (yielded ops b.tmps) = true := by simp [Region.wanted, hgn]
    unfold wpOp
    rw [ho]
    simp only [hw, if_true]
    refine .inl ?_
    have hs := hstep i o him ho V w I.ext (fun j hj => by
      obtain ⟨h1, h2⟩ := hdd j hj
      obtain ⟨e, he, hb, hon⟩ := hasEdge_on ho h2
      exact I.fact j (by omega) (by rw [← hon]; exact hdep e he hb))
    rw [I.fill]
    refine wp_of_relAt hs (fun v w' ⟨hx, hR⟩ => ?_)
    have hmem : ds.getD i 0 ∈ ds := by
      rw [List.getD_eq_getElem?_getD, List.getElem?_eq_getElem (by omega)]
      exact List.getElem_mem _
    rw [hd, fillA_hit V _ v ds a c3 hmem]
    refine ih _ _ _ _ ?_ ⟨?_, rfl, I.ext.trans hx, ?_, ?_, ?_⟩
    · have := cnt_set I.size hiu; omega
    · rw [Array.size_setIfInBounds]; exact I.size
    · intro k hk hl
      by_cases hki : i = k
      · omega
      · rw [getD_set_ne false hki] at hl; exact I.tail k hk hl
    · intro k hk hl
      by_cases hki : i = k
      · subst hki
        rw [if_pos rfl]; exact hR
      · rw [getD_set_ne false hki] at hl
        have hne : ds.getD k 0 ≠ ds.getD i 0 := by
          rw [List.getD_eq_getElem?_getD, List.getD_eq_getElem?_getD, List.getElem?_eq_getElem (show k < ds.length by omega), List.getElem?_eq_getElem (show i < ds.length by omega)]
          simp only [Option.getD_some]
          intro h
          exact hki ((List.getElem_inj c3).1 h).symm
        rw [if_neg hne]
        exact hst k _ _ _ (I.fact k hk hl) hx
    · intro k j hk hl hj
      by_cases hki : i = k
      · subst hki
        obtain ⟨e, he, hb, hon⟩ := hasEdge_on ho hj
        exact getD_set_true (by rw [← hon]; exact hdep e he hb)
      · rw [getD_set_ne false hki] at hl
        exact getD_set_true (I.down k j hk hl hj)

theorem wp_region_rel0 {id : Nat} (hm : P.follows .mixedOrders = true) (hchk : relCheck ops m ds deps = true)
    (hst : ∀ i v w w', R i v w → Ext w w' → R i v w')
    (hstep : ∀ i o, i < m → ops[i]? = some o → ∀ V w, Ext W w → (∀ j ∈ deps.getD i [], R j (V (ds.getD j 0)) w) → relAt P o (fillA V ds a) w fun v w' => Ext w w' ∧ R i v w')
    (hend : ∀ V w, Ext W w → (∀ j, j < m → R j (V (ds.getD j 0)) w) → wpAny P .any ops Q (ops.size - m) (listedTo ops.size m) (fillA V ds a) w) :
    (Code.region id ops true).wp P Q a W := by
  refine wp_region_any hm ?_
  have hc : cnt ops.size (Array.replicate ops.size false) = ops.size := by
    simp only [relCheck, Bool.and_eq_true, decide_eq_true_eq] at hchk
    exact hchk.2
  have hf : ∀ i, (Array.replicate ops.size false).getD i false = false := fun i => by
    rw [Array.getD_eq_getD_getElem?, Array.getElem?_replicate]; split <;> rfl
  refine wpAny_rel hchk hst hstep hend _ _ _ _ (fun d => a.tmps.getD d undef) hc ⟨by simp, (fillA_self ds a).symm, (Ext.refl W).drew, ?_, ?_, ?_⟩
  · intro i _ h; rw [hf] at h; cases h
  · intro i _ h; rw [hf] at h; cases h
  · intro k i _ h; rw [hf] at h; cases h
end

/-! ### Step by step -/
abbrev Rel := Value → World → Prop
def eqv (t : Value) : Rel := fun v _ => v = t
def Rel.Stable (R : Rel) : Prop := ∀ v w w', R v w → Ext w w' → R v w'
theorem eqv_stable (t : Value) : Rel.Stable (eqv t) := fun _ _ _ h _ => h
/-- What is known of the slots of some operations (the newest first: 'acc' holds those of operations k - 1 .. 0). -/
def factsOf (acc : List Rel) (k : Nat) (ds : List Nat) (V : Nat → Value) (w : World) : List Nat → Prop
  | [] => True
  | j :: l => (acc.getD (k - 1 - j) fun _ _ => True) (V (ds.getD j 0)) w ∧ factsOf acc k ds V w l
theorem factsOf_mem {acc : List Rel} {k : Nat} {ds : List Nat} {V : Nat → Value} {w : World} {l : List Nat} : factsOf acc k ds V w l ↔ ∀ j ∈ l, (acc.getD (k - 1 - j) fun _ _ => True) (V (ds.getD j 0)) w := by
  induction l with
  | nil => simp [factsOf]
  | cons j l ih => simp [factsOf, ih]
/-- The operations ahead of the tail, in the order of the text. -/
def relPlan (P : Program) (W : World) (a : Act) (ds : List Nat) (deps : List (List Nat)) (fin : List Rel → Prop) : List Oper → Nat → List Rel → Prop
  | [], _, acc => fin acc
  | o :: rest, k, acc => ∃ R : Rel, R.Stable ∧ (∀ V w, Ext W w → factsOf acc k ds V w (deps.getD k []) → relAt P o (fillA V ds a) w fun v w' => Ext w w' ∧ R v w') ∧ relPlan P W a ds deps fin rest (k + 1) (R :: acc)
theorem relPlan_get {P : Program} {W : World} {a : Act} {ds : List Nat} {deps : List (List Nat)} {fin : List Rel → Prop} : ∀ (l : List Oper) (k : Nat) (acc : List Rel), acc.length = k → (∀ R ∈ acc, Rel.Stable R) → relPlan P W a ds deps fin l k acc →
    ∃ all : List Rel, all.length = k + l.length ∧ (∀ i, i < k → all[i]? = acc.reverse[i]?) ∧ (∀ R ∈ all, Rel.Stable R) ∧ fin all.reverse ∧
      ∀ i o, l[i]? = some o → ∀ V w, Ext W w → (∀ j ∈ deps.getD (k + i) [], j < k + i ∧ (all.getD j fun _ _ => True) (V (ds.getD j 0)) w) → relAt P o (fillA V ds a) w fun v w' => Ext w w' ∧ (all.getD (k + i) fun _ _ => True) v w'
  | [], k, acc, hk, hs, h => ⟨acc.reverse, by simpa using hk, fun _ _ => rfl, fun R hR => hs R (List.mem_reverse.1 hR), by rw [List.reverse_reverse]; exact h, fun i o hi => by simp at hi⟩
  | o :: rest, k, acc, hk, hs, h => by
    obtain ⟨R, hR, h1, h2⟩ := h
    obtain ⟨all, a1, a2, a3, a4, a5⟩ := relPlan_get rest (k + 1) (R :: acc) (by rw [List.length_cons, hk]) (fun X hX => by
      rcases List.mem_cons.1 hX with h | h
      · rw [h]; exact hR
      · exact hs X h) h2
    rw [List.reverse_cons] at a2
    have hlr : acc.reverse.length = k := by rw [List.length_reverse, hk]
    refine ⟨all, by rw [a1, List.length_cons]; omega, fun i hi => ?_, a3, a4, fun i o' hi V w hx hf => ?_⟩
    · rw [a2 i (by omega), List.getElem?_append_left (by omega)]
    · cases i with
      | zero =>
        simp only [List.getElem?_cons_zero, Option.some.injEq] at hi
        subst hi
        have hget : all[k]? = some R := by rw [a2 k (by omega), List.getElem?_append_right (by omega), hlr]; simp
        rw [Nat.add_zero] at hf
        have := h1 V w hx (factsOf_mem.2 fun j hj => by
          obtain ⟨hjk, hh⟩ := hf j hj
          rw [List.getD_eq_getElem?_getD, a2 j (by omega), List.getElem?_append_left (by omega), List.getElem?_reverse (by omega), hk] at hh
          rw [List.getD_eq_getElem?_getD]
          exact hh)
        rw [Nat.add_zero, List.getD_eq_getElem?_getD, hget]
        exact this
      | succ i =>
        rw [List.getElem?_cons_succ] at hi
        have := a5 i o' hi V w hx (by rw [show k + 1 + i = k + (i + 1) by omega]; exact hf)
        rw [show k + 1 + i = k + (i + 1) by omega] at this
        exact this
/-- **The law**: whatever order the region draws. -/
theorem wp_region_rel {P : Program} {Q : Exit → Act → World → Prop} {W : World} {a : Act} {id : Nat} {ops : Array Oper} (m n : Nat) (hn : ops.size = m + n) (ds : List Nat) (deps : List (List Nat)) (hm : P.follows .mixedOrders = true) (hchk : relCheck ops m ds deps = true)
    (h : relPlan P W a ds deps (fun acc => ∀ V w, Ext W w → factsOf acc m ds V w (List.range m) → wpAny P .any ops Q n (listedTo (m + n) m) (fillA V ds a) w) (ops.toList.take m) 0 []) :
    (Code.region id ops true).wp P Q a W := by
  obtain ⟨all, a1, _, a3, a4, a5⟩ := relPlan_get _ 0 [] rfl (fun R h => by cases h) h
  have hmz : m < ops.size := by
    simp only [relCheck, Bool.and_eq_true, decide_eq_true_eq] at hchk
    exact hchk.1.1.1.1.1.1.1.1
  have hlen : all.length = m := by rw [a1, List.length_take, Array.length_toList]; omega
  have hdm : ∀ i, i < m → ∀ j ∈ deps.getD i [], j < i := by
    simp only [relCheck, Bool.and_eq_true, decide_eq_true_eq] at hchk
    have c4 := hchk.1.1.1.1.1.2
    rw [List.all_eq_true] at c4
    intro i hi j hj
    have h4 := c4 i (List.mem_range.2 hi)
    cases ho : ops[i]? with
    | none => rw [ho] at h4; cases h4
    | some o =>
      rw [ho] at h4
      simp only [Bool.and_eq_true, List.all_eq_true, decide_eq_true_eq] at h4
      exact (h4.2 j hj).1
  refine wp_region_rel0 (R := fun i => all.getD i fun _ _ => True) (m := m) (ds := ds) (deps := deps) hm hchk ?_ ?_ ?_
  · intro i v w w' h hx
    rw [List.getD_eq_getElem?_getD] at h ⊢
    cases hi : all[i]? with
    | none => rw [hi] at h; trivial
    | some R =>
      rw [hi] at h
      exact a3 R (List.mem_of_getElem? hi) v w w' h hx
  · intro i o hi ho V w hx hf
    have h1 : (ops.toList.take m)[i]? = some o := by rw [List.getElem?_take, if_pos hi, Array.getElem?_toList]; exact ho
    have := a5 i o h1 V w hx (by
      intro j hj
      rw [Nat.zero_add] at hj ⊢
      exact ⟨hdm i hi j hj, hf j hj⟩)
    rw [Nat.zero_add] at this
    exact this
  · intro V w hx hf
    have h0 := a4 V w hx (by
      rw [factsOf_mem]
      intro j hj
      have hjm := List.mem_range.1 hj
      have := hf j hjm
      rw [List.getD_eq_getElem?_getD] at this ⊢
      rw [List.getElem?_reverse (by omega), hlen, show m - 1 - (m - 1 - j) = j by omega]
      exact this)
    rw [hn, show m + n - m = n by omega]
    exact h0
/-- An operation whose value is known. -/
theorem relPlan_eq {P : Program} {W : World} {a : Act} {ds : List Nat} {deps : List (List Nat)} {fin : List Rel → Prop} {o : Oper} {rest : List Oper} {k : Nat} {acc : List Rel}
    (h : ∃ t, (∀ V w, Ext W w → factsOf acc k ds V w (deps.getD k []) → relAt P o (fillA V ds a) w fun v w' => Ext w w' ∧ v = t) ∧ relPlan P W a ds deps fin rest (k + 1) (eqv t :: acc)) : relPlan P W a ds deps fin (o :: rest) k acc :=
  let ⟨t, h1, h2⟩ := h
  ⟨eqv t, eqv_stable t, h1, h2⟩
theorem relPlan_eq' {P : Program} {W : World} {a : Act} {ds : List Nat} {deps : List (List Nat)} {fin : List Rel → Prop} {o : Oper} {rest : List Oper} {k : Nat} {acc : List Rel} {t : Value}
    (h1 : ∀ V w, Ext W w → factsOf acc k ds V w (deps.getD k []) → relAt P o (fillA V ds a) w fun v w' => Ext w w' ∧ v = t) (h2 : relPlan P W a ds deps fin rest (k + 1) (eqv t :: acc)) : relPlan P W a ds deps fin (o :: rest) k acc :=
  ⟨eqv t, eqv_stable t, h1, h2⟩
/-- .. or known by what it satisfies. -/
theorem relPlan_by {P : Program} {W : World} {a : Act} {ds : List Nat} {deps : List (List Nat)} {fin : List Rel → Prop} {o : Oper} {rest : List Oper} {k : Nat} {acc : List Rel} (R : Rel) (hR : R.Stable)
    (h1 : ∀ V w, Ext W w → factsOf acc k ds V w (deps.getD k []) → relAt P o (fillA V ds a) w fun v w' => Ext w w' ∧ R v w') (h2 : relPlan P W a ds deps fin rest (k + 1) (R :: acc)) : relPlan P W a ds deps fin (o :: rest) k acc :=
  ⟨R, hR, h1, h2⟩
/-- The frame under a name, and what its slots hold. -/
theorem relAt_gen {P : Program} {o : Oper} {V : Nat → Value} {ds : List Nat} {a : Act} {w : World} {K : Value → World → Prop} (h : ∀ A, A = fillA V ds a → relAt P o A w K) : relAt P o (fillA V ds a) w K := h _ rfl
theorem fillA_other (V : Nat → Value) (d : Nat) : ∀ (ds : List Nat) (a : Act), ds.contains d = false → (fillA V ds a).tmps.getD d undef = a.tmps.getD d undef := by
  intro ds
  induction ds with
  | nil => intro a _; rfl
  | cons c ds ih =>
    intro a h
    simp only [List.contains_cons, Bool.or_eq_false_iff, beq_eq_false_iff_ne] at h
    show (fillA V ds (a.put (some c) (V c))).tmps.getD d undef = _
    rw [ih _ (by simpa using h.2)]
    unfold Act.put
    simp [Array.getElem?_setIfInBounds_ne (show c ≠ d from fun e => h.1 e.symm)]
theorem fillA_size (V : Nat → Value) : ∀ (ds : List Nat) (a : Act), (fillA V ds a).tmps.size = a.tmps.size := by
  intro ds
  induction ds with
  | nil => intro a; rfl
  | cons c ds ih => intro a; show (fillA V ds (a.put (some c) (V c))).tmps.size = _; rw [ih]; simp [Act.put]
theorem fillA_here (V : Nat → Value) (d : Nat) : ∀ (ds : List Nat) (a : Act), ds.contains d = true → d < a.tmps.size → (fillA V ds a).tmps.getD d undef = V d := by
  intro ds
  induction ds with
  | nil => intro a h; cases h
  | cons c ds ih =>
    intro a h hs
    show (fillA V ds (a.put (some c) (V c))).tmps.getD d undef = _
    by_cases hd : ds.contains d = true
    · exact ih _ hd (by simp [Act.put]; exact hs)
    · have hd' : ds.contains d = false := by simpa using hd
      rw [fillA_other V d ds _ hd']
      simp only [List.contains_cons, hd', Bool.or_false, beq_iff_eq] at h
      subst h
      simp [Act.put, hs]
theorem evalHit {A : Act} {V : Nat → Value} {ds : List Nat} {a : Act} (hA : A = fillA V ds a) (d : Nat) (h : (ds.contains d && decide (d < a.tmps.size)) = true) : A.eval (.tmp d) = V d := by
  rw [Bool.and_eq_true, decide_eq_true_eq] at h
  subst hA
  exact fillA_here V d ds a h.1 h.2
theorem evalMiss {A : Act} {V : Nat → Value} {ds : List Nat} {a : Act} (hA : A = fillA V ds a) (d : Nat) (h : ds.contains d = false) : A.eval (.tmp d) = a.eval (.tmp d) := by
  subst hA
  exact fillA_other V d ds a h
/-- The frame and its operands under names. -/
theorem relAt_ops {P : Program} {o : Oper} {V : Nat → Value} {ds : List Nat} {a : Act} {w : World} {K : Value → World → Prop}
    (h : ∀ (A : Act) (ρ : Operand → Value), A = fillA V ds a → ρ = A.eval → (∀ v, ρ (.const v) = v) → (∀ f, ρ (.func f) = .func (.func f) #[] #[]) → relUpon P K ((execOp ρ o).run P w)) : relAt P o (fillA V ds a) w K :=
  h _ _ rfl rfl (fun _ => rfl) (fun _ => rfl)
theorem relUpon_move {P : Program} {o : Oper} {ρ : Operand → Value} {w : World} {K : Value → World → Prop} {x : Operand} (h : o.op = .move x ∨ o.op = .assign x := by first | exact .inl rfl | exact .inr rfl) (hk : K (ρ x) w) : relUpon P K ((execOp ρ o).run P w) := by
  rcases h with h | h
  · rw [BigFrame.run_move x h]; exact hk
  · rw [BigFrame.run_assign x h]; exact hk
theorem relAt_move {P : Program} {o : Oper} {a : Act} {w : World} {K : Value → World → Prop} {x : Operand} (h : o.op = .move x ∨ o.op = .assign x := by first | exact .inl rfl | exact .inr rfl) (hk : K (a.eval x) w) : relAt P o a w K := by
  unfold relAt
  rcases h with h | h
  · rw [BigFrame.run_move x h]; exact hk
  · rw [BigFrame.run_assign x h]; exact hk
/-- The tail: one operation after another. -/
theorem wpAny_tail {P : Program} {ops : Array Oper} {Q : Exit → Act → World → Prop} {fuel : Nat} {listed : Array Bool} {a : Act} {w : World} (i : Nat) (o : Oper) (hr : Region.ready .any ops listed = [i]) (ho : ops[i]? = some o) (hg : o.guard = none)
    (h : o.wp P a w (wpAny P .any ops Q fuel (listed.setIfInBounds i true)) Q) : wpAny P .any ops Q (fuel + 1) listed a w := by
  refine ⟨fun h => (by rw [hr] at h; cases h), fun j hj => ?_⟩
  rw [hr, List.mem_singleton] at hj
  subst hj
  unfold wpOp
  rw [ho]
  simp only [show Region.wanted o (yielded ops a.tmps) = true by simp [Region.wanted, hg], if_true]
  exact .inl h
theorem eval_put {a : Act} {d : Nat} {v : Value} (h : d < a.tmps.size) : (a.put (some d) v).eval (.tmp d) = v := by
  simp [Act.put, Act.eval, h]
/-- The tail of an operation and an assignment of its value. -/
theorem wpAny_tail2 {P : Program} {ops : Array Oper} {Q : Exit → Act → World → Prop} {listed : Array Bool} {V : Nat → Value} {ds : List Nat} {a : Act} {w : World} (i d d2 : Nat) (o p : Oper) (hr : Region.ready .any ops listed = [i]) (ho : ops[i]? = some o) (hg : o.guard = none)
    (hr2 : Region.ready .any ops (listed.setIfInBounds i true) = [i + 1]) (hp : ops[i + 1]? = some p) (hgp : p.guard = none) (hpx : p.op = .move (.tmp d) ∨ p.op = .assign (.tmp d)) (hr3 : Region.ready .any ops ((listed.setIfInBounds i true).setIfInBounds (i + 1) true) = [])
    (hod : o.dst = some d) (hpd : p.dst = some d2) (hsz : decide (d < a.tmps.size) = true)
    (h : ∀ K : Act → World → Prop, (∀ v w', Q .normal (((fillA V ds a).put (some d) v).put (some d2) v) w' → K ((fillA V ds a).put o.dst v) w') → o.wp P (fillA V ds a) w K Q) : wpAny P .any ops Q 2 listed (fillA V ds a) w := by
  refine wpAny_tail (fuel := 1) i o hr ho hg (h _ (fun v w' hq => ?_))
  refine wpAny_tail (fuel := 0) (i + 1) p hr2 hp hgp ?_
  refine wp_of_relAt (K := fun u x => u = v ∧ x = w') (relAt_move (x := .tmp d) hpx ⟨?_, rfl⟩) (fun u x ⟨hv, hu⟩ => ⟨hr3, ?_⟩)
  · rw [hod]
    exact eval_put (by rw [fillA_size]; exact of_decide_eq_true hsz)
  · subst hv; subst hu
    rw [hod, hpd]; exact hq
/-- The tail of an assignment alone. -/
theorem wpAny_tail1 {P : Program} {ops : Array Oper} {Q : Exit → Act → World → Prop} {listed : Array Bool} {V : Nat → Value} {ds : List Nat} {a : Act} {w : World} (i d d2 : Nat) (p : Oper) (hr : Region.ready .any ops listed = [i]) (hp : ops[i]? = some p) (hgp : p.guard = none)
    (hpx : p.op = .move (.tmp d) ∨ p.op = .assign (.tmp d)) (hr3 : Region.ready .any ops (listed.setIfInBounds i true) = []) (hpd : p.dst = some d2) (hsz : (ds.contains d && decide (d < a.tmps.size)) = true)
    (h : Q .normal ((fillA V ds a).put (some d2) (V d)) w) : wpAny P .any ops Q 1 listed (fillA V ds a) w := by
  refine wpAny_tail (fuel := 0) i p hr hp hgp ?_
  refine wp_of_relAt (K := fun u x => u = V d ∧ x = w) (relAt_move (x := .tmp d) hpx ⟨evalHit rfl d hsz, rfl⟩) (fun u x ⟨hv, hu⟩ => ⟨hr3, ?_⟩)
  subst hv; subst hu
  rw [hpd]; exact h
end Go.Proofs.YtkpfehfcgpapiaaGreatDoor

/-
  Regions that draw their order and hold calls, where one operation may come behind the one that all others come ahead of: 'v, ok := f(..)' with v in a cell.
  No condition.
-/
namespace Go.Proofs.YtkpfehfcgpapiaaGreatDoor
open Go.RowKit

def listedL (n m l : Nat) : Array Bool := (listedTo n m).setIfInBounds l false
/-- Operations 0 to m - 1 but l come ahead of operation m in every order, and this ahead of all others. -/
def relCheckL (ops : Array Oper) (m l : Nat) (ds : List Nat) (deps : List (List Nat)) : Bool :=
  decide (m < ops.size) && decide (ds.length = m) && decide ds.Nodup &&
  ((List.range m).all fun i => match ops[i]? with
    | some o => o.guard.isNone && o.dst == some (ds.getD i 0) && (deps.getD i []).all fun j => decide (j < i) && hasEdge ops i j
    | none => false) &&
  ((List.range ops.size).all fun i => match ops[i]? with
    | some o => o.after.all fun e => !Region.binds .any e || decide (e.on < i)
    | none => false) &&
  ((List.range m).all fun i => i == l || (List.range (m + 1)).any fun k => decide (i < k) && (k != l) && hasEdge ops k i) &&
  ((List.range ops.size).all fun i => decide (i ≤ m) || (List.range ops.size).any fun k => decide (m ≤ k) && hasEdge ops i k) &&
  decide (cnt ops.size (listedTo ops.size m) = ops.size - m) && decide (cnt ops.size (Array.replicate ops.size false) = ops.size) && decide (l < m) && decide (cnt ops.size (listedL ops.size m l) = ops.size - m + 1)

section
variable {P : Program} {ops : Array Oper} {Q : Exit → Act → World → Prop} {W : World} {a : Act} {m l : Nat} {ds : List Nat} {deps : List (List Nat)} {R : Nat → Value → World → Prop}

theorem wpAny_relL (hchk : relCheckL ops m l ds deps = true)
    (hst : ∀ i v w w', R i v w → Ext w w' → R i v w')
    (hstep : ∀ i o, i < m → ops[i]? = some o → ∀ V w, Ext W w → (∀ j ∈ deps.getD i [], R j (V (ds.getD j 0)) w) → relAt P o (fillA V ds a) w fun v w' => Ext w w' ∧ R i v w')
    (hend : ∀ V w, Ext W w → (∀ j, j < m → R j (V (ds.getD j 0)) w) → wpAny P .any ops Q (ops.size - m) (listedTo ops.size m) (fillA V ds a) w)
    (hend2 : ∀ V w, Ext W w → (∀ j, j < m → j ≠ l → R j (V (ds.getD j 0)) w) → wpAny P .any ops Q (ops.size - m + 1) (listedL ops.size m l) (fillA V ds a) w) :
    ∀ (fuel : Nat) (listed : Array Bool) (b : Act) (w : World) (V : Nat → Value), cnt ops.size listed = fuel → RelInv ops W a m ds R listed b w V → wpAny P .any ops Q fuel listed b w := by
  simp only [relCheckL, Bool.and_eq_true, decide_eq_true_eq] at hchk
  obtain ⟨⟨⟨⟨⟨⟨⟨⟨⟨⟨c1, c2⟩, c3⟩, c4⟩, c5⟩, c6⟩, c7⟩, c8⟩, c9⟩, c10⟩, c11⟩ := hchk
  rw [List.all_eq_true] at c4 c5 c6 c7
  intro fuel
  induction fuel with
  | zero =>
    intro listed b w V hc I
    -- operation m is not listed
    exfalso
    have hm : listed.getD m true = false := by
      rw [getD_tf (by rw [I.size]; exact c1)]
      cases h : listed.getD m false with
      | false => rfl
      | true => exact absurd (I.tail m c1 h) (Nat.lt_irrefl _)
    have := cnt_set I.size hm
    omega
  | succ fuel ih =>
    intro listed b w V hc I
    -- when operation m is ready, all before it are listed
    have hall : m ∈ Region.ready .any ops listed → listed = listedTo ops.size m ∨ listed = listedL ops.size m l := fun hr => by
      obtain ⟨hmf, o, ho, hdep⟩ := mem_ready.1 hr
      have hl : ∀ d i, i < m → i ≠ l → m - i = d → listed.getD i false = true := by
        intro d
        induction d using Nat.strongRecOn with
        | _ d ihd =>
          intro i hi hil hd
          have h6 := c6 i (List.mem_range.2 hi)
          rw [Bool.or_eq_true, beq_iff_eq] at h6
          have h6 := h6.resolve_left hil
          rw [List.any_eq_true] at h6
          obtain ⟨k, hk, hik⟩ := h6
          rw [List.mem_range] at hk
          rw [Bool.and_eq_true, Bool.and_eq_true, decide_eq_true_eq, bne_iff_ne] at hik
          by_cases hkm : k = m
          · subst hkm
            obtain ⟨e, he, hb, hon⟩ := hasEdge_on ho hik.2
            rw [← hon]; exact hdep e he hb
          · have hk' : listed.getD k false = true := ihd (m - k) (by omega) k (by omega) hik.1.2 rfl
            exact I.down k i (by omega) hk' hik.2
      have hrest : ∀ i, i < ops.size → ¬ i < m → listed.getD i false = false := fun i h1' him => by
        cases h : listed.getD i false with
        | false => rfl
        | true => exact absurd (I.tail i h1' h) him
      cases hll : listed.getD l false with
      | true =>
        left
        apply Array.ext
        · rw [I.size]; simp [listedTo]; omega
        · intro i h1 h2
          have h1' : i < ops.size := by rw [← I.size]; exact h1
          by_cases him : i < m
          · have : listed.getD i false = true := by
              by_cases e : i = l
              · rw [e]; exact hll
              · exact hl _ i him e rfl
            simp [h1] at this
            simp [listedTo, him, this]
          · have := hrest i h1' him
            simp [h1] at this
            simp [listedTo, List.getElem_append, him, this]
      | false =>
        right
        apply Array.ext
        · rw [I.size]; simp [listedL, listedTo]; omega
        · intro i h1 h2
          have h1' : i < ops.size := by rw [← I.size]; exact h1
          by_cases e : l = i
          · subst e
            simp [h1] at hll
            simp [listedL, hll]
          · by_cases him : i < m
            · have := hl _ i him (fun h => e h.symm) rfl
              simp [h1] at this
              simp [listedL, listedTo, Array.getElem_setIfInBounds, e, him, this]
            · have := hrest i h1' him
              simp [h1] at this
              simp [listedL, listedTo, Array.getElem_setIfInBounds, e, List.getElem_append, him, this]
    have hmf : listed.getD m false = false := by
      cases h : listed.getD m false with
      | false => rfl
      | true => exact absurd (I.tail m c1 h) (Nat.lt_irrefl _)
    -- some operation is ready
    have hsome : Region.ready .any ops listed ≠ [] := by
      intro hnil
      have key : ∀ i, i ≤ m → listed.getD i false = true := by
        intro i
        induction i using Nat.strongRecOn with
        | _ i ihi =>
          intro him
          cases h : listed.getD i false with
          | true => rfl
          | false =>
            exfalso
            have hin : i < ops.size := by omega
            have h5 := c5 i (List.mem_range.2 hin)
            obtain ⟨o, ho⟩ : ∃ o, ops[i]? = some o := ⟨_, Array.getElem?_eq_getElem hin⟩
            rw [ho] at h5
            simp only [Array.all_eq_true_iff_forall_mem, Bool.or_eq_true, Bool.not_eq_true', decide_eq_true_eq] at h5
            have : i ∈ Region.ready .any ops listed := by
              rw [mem_ready]
              refine ⟨by rw [getD_tf (by rw [I.size]; exact hin)]; exact h, o, ho, fun e he hb => ?_⟩
              rcases h5 e he with h5 | h5
              · rw [hb] at h5; cases h5
              · exact ihi e.on h5 (by omega)
            rw [hnil] at this
            cases this
      rw [key m (Nat.le_refl _)] at hmf
      cases hmf
    by_cases hmr : m ∈ Region.ready .any ops listed
    · -- the tail
      rcases hall hmr with he | he
      · subst he
        rw [← hc, c8, I.fill]
        refine hend V w I.ext (fun j hj => I.fact j hj ?_)
        have : j < ops.size := by omega
        simp [listedTo, List.getElem?_append, hj]
      · subst he
        rw [← hc, c11, I.fill]
        refine hend2 V w I.ext (fun j hj hjl => I.fact j hj ?_)
        have : j < ops.size := by omega
        unfold listedL
        rw [Array.getD_eq_getD_getElem?, Array.getElem?_setIfInBounds_ne (fun h => hjl h.symm)]
        simp [listedTo, List.getElem?_append, hj]
    refine ⟨fun h => absurd h hsome, fun i hi => ?_⟩
    obtain ⟨hiu, o, ho, hdep⟩ := mem_ready.1 hi
    have hin : i < ops.size := (Array.getElem?_eq_some_iff.1 ho).1
    have him : i < m := by
      rcases Nat.lt_trichotomy i m with h | h | h
      · exact h
      · exact absurd (h ▸ hi) hmr
      · exfalso
        have h7 := c7 i (List.mem_range.2 hin)
        rw [Bool.or_eq_true, decide_eq_true_eq, List.any_eq_true] at h7
        rcases h7 with h7 | ⟨k, hk, hik⟩
        · omega
        · rw [List.mem_range] at hk
          rw [Bool.and_eq_true, decide_eq_true_eq] at hik
          obtain ⟨e, he, hb, hon⟩ := hasEdge_on ho hik.2
          have := hdep e he hb
          rw [hon] at this
          exact absurd (I.tail k hk this) (by omega)
    have h4 := c4 i (List.mem_range.2 him)
    rw [ho] at h4
    simp only [Bool.and_eq_true, beq_iff_eq, List.all_eq_true, decide_eq_true_eq] at h4
    obtain ⟨⟨hg, hd⟩, hdd⟩ := h4
    have hgn : o.guard = none := by cases h : o.guard with
      | none => rfl
      | some x => rw [h] at hg; cases hg
    have hw : Region.wanted o (yielded ops b.tmps) = true := by simp [Region.wanted, hgn]
    unfold wpOp
    rw [ho]
    simp only [hw, if_true]
    refine .inl ?_
    have hs := hstep i o him ho V w I.ext (fun j hj => by
      obtain ⟨h1, h2⟩ := hdd j hj
      obtain ⟨e, he, hb, hon⟩ := hasEdge_on ho h2
      exact I.fact j (by omega) (by rw [← hon]; exact hdep e he hb))
    rw [I.fill]
    refine wp_of_relAt hs (fun v w' ⟨hx, hR⟩ => ?_)
    have hmem : ds.getD i 0 ∈ ds := by
      rw [List.getD_eq_getElem?_getD, List.getElem?_eq_getElem (by omega)]
      exact List.getElem_mem _
    rw [hd, fillA_hit V _ v ds a c3 hmem]
    refine ih _ _ _ _ ?_ ⟨?_, rfl, I.ext.trans hx, ?_, ?_, ?_⟩
    · have := cnt_set I.size hiu; omega
    · rw [Array.size_setIfInBounds]; exact I.size
    · intro k hk hl
      by_cases hki : i = k
      · omega
      · rw [getD_set_ne false hki] at hl; exact I.tail k hk hl
    · intro k hk hl
      by_cases hki : i = k
      · subst hki
        rw [if_pos rfl]; exact hR
      · rw [getD_set_ne false hki] at hl
        have hne : ds.getD k 0 ≠ ds.getD i 0 := by
          rw [List.getD_eq_getElem?_getD, List.getD_eq_getElem?_getD, List.getElem?_eq_getElem (show k < ds.length by omega), List.getElem?_eq_getElem (show i < ds.length by omega)]
          simp only [Option.getD_some]
          intro h
          exact hki ((List.getElem_inj c3).1 h).symm
        rw [if_neg hne]
        exact hst k _ _ _ (I.fact k hk hl) hx
    · intro k j hk hl hj
      by_cases hki : i = k
      · subst hki
        obtain ⟨e, he, hb, hon⟩ := hasEdge_on ho hj
        exact getD_set_true (by rw [← hon]; exact hdep e he hb)
      · rw [getD_set_ne false hki] at hl
        exact getD_set_true (I.down k j hk hl hj)

theorem wp_region_relL0 {id : Nat} (hm : P.follows .mixedOrders = true) (hchk : relCheckL ops m l ds deps = true)
    (hst : ∀ i v w w', R i v w → Ext w w' → R i v w')
    (hstep : ∀ i o, i < m → ops[i]? = some o → ∀ V w, Ext W w → (∀ j ∈ deps.getD i [], R j (V (ds.getD j 0)) w) → relAt P o (fillA V ds a) w fun v w' => Ext w w' ∧ R i v w')
    (hend : ∀ V w, Ext W w → (∀ j, j < m → R j (V (ds.getD j 0)) w) → wpAny P .any ops Q (ops.size - m) (listedTo ops.size m) (fillA V ds a) w)
    (hend2 : ∀ V w, Ext W w → (∀ j, j < m → j ≠ l → R j (V (ds.getD j 0)) w) → wpAny P .any ops Q (ops.size - m + 1) (listedL ops.size m l) (fillA V ds a) w) :
    (Code.region id ops true).wp P Q a W := by
  refine wp_region_any hm ?_
  have hc : cnt ops.size (Array.replicate ops.size false) = ops.size := by
    simp only [relCheckL, Bool.and_eq_true, decide_eq_true_eq] at hchk
    exact hchk.1.1.2
  have hf : ∀ i, (Array.replicate ops.size false).getD i false = false := fun i => by
    rw [Array.getD_eq_getD_getElem?, Array.getElem?_replicate]; split <;> rfl
  refine wpAny_relL hchk hst hstep hend hend2 _ _ _ _ (fun d => a.tmps.getD d undef) hc ⟨by simp, (fillA_self ds a).symm, (Ext.refl W).drew, ?_, ?_, ?_⟩
  · intro i _ h; rw [hf] at h; cases h
  · intro i _ h; rw [hf] at h; cases h
  · intro k i _ h; rw [hf] at h; cases h
end

/-- **The law**: whatever order the region draws. -/
theorem wp_region_relL {P : Program} {Q : Exit → Act → World → Prop} {W : World} {a : Act} {id : Nat} {ops : Array Oper} (m n l : Nat) (hn : ops.size = m + n) (ds : List Nat) (deps : List (List Nat)) (hm : P.follows .mixedOrders = true) (hchk : relCheckL ops m l ds deps = true)
    (h : relPlan P W a ds deps (fun acc => (∀ V w, Ext W w → factsOf acc m ds V w (List.range m) → wpAny P .any ops Q n (listedTo (m + n) m) (fillA V ds a) w) ∧ (∀ V w, Ext W w → factsOf acc m ds V w ((List.range m).filter (· != l)) → wpAny P .any ops Q (n + 1) (listedL (m + n) m l) (fillA V ds a) w)) (ops.toList.take m) 0 []) :
    (Code.region id ops true).wp P Q a W := by
  obtain ⟨all, a1, _, a3, a4, a5⟩ := relPlan_get _ 0 [] rfl (fun R h => by cases h) h
  have hmz : m < ops.size := by
    simp only [relCheckL, Bool.and_eq_true, decide_eq_true_eq] at hchk
    exact hchk.1.1.1.1.1.1.1.1.1.1
  have hlen : all.length = m := by rw [a1, List.length_take, Array.length_toList]; omega
  have hdm : ∀ i, i < m → ∀ j ∈ deps.getD i [], j < i := by
    simp only [relCheckL, Bool.and_eq_true, decide_eq_true_eq] at hchk
    have c4 := hchk.1.1.1.1.1.1.1.2
    rw [List.all_eq_true] at c4
    intro i hi j hj
    have h4 := c4 i (List.mem_range.2 hi)
    cases ho : ops[i]? with
    | none => rw [ho] at h4; cases h4
    | some o =>
      rw [ho] at h4
      simp only [Bool.and_eq_true, List.all_eq_true, decide_eq_true_eq] at h4
      exact (h4.2 j hj).1
  refine wp_region_relL0 (l := l) (R := fun i => all.getD i fun _ _ => True) (m := m) (ds := ds) (deps := deps) hm hchk ?_ ?_ ?_ ?_
  · intro i v w w' h hx
    rw [List.getD_eq_getElem?_getD] at h ⊢
    cases hi : all[i]? with
    | none => rw [hi] at h; trivial
    | some R =>
      rw [hi] at h
      exact a3 R (List.mem_of_getElem? hi) v w w' h hx
  · intro i o hi ho V w hx hf
    have h1 : (ops.toList.take m)[i]? = some o := by rw [List.getElem?_take, if_pos hi, Array.getElem?_toList]; exact ho
    have := a5 i o h1 V w hx (by
      intro j hj
      rw [Nat.zero_add] at hj ⊢
      exact ⟨hdm i hi j hj, hf j hj⟩)
    rw [Nat.zero_add] at this
    exact this
  · intro V w hx hf
    have h0 := a4.1 V w hx (by
      rw [factsOf_mem]
      intro j hj
      have hjm := List.mem_range.1 hj
      have := hf j hjm
      rw [List.getD_eq_getElem?_getD] at this ⊢
      rw [List.getElem?_reverse (by omega), hlen, show m - 1 - (m - 1 - j) = j by omega]
      exact this)
    rw [hn, show m + n - m = n by omega]
    exact h0
  · intro V w hx hf
    have h0 := a4.2 V w hx (by
      rw [factsOf_mem]
      intro j hj
      obtain ⟨hj1, hj2⟩ := List.mem_filter.1 hj
      have hjm := List.mem_range.1 hj1
      have := hf j hjm (by simpa using hj2)
      rw [List.getD_eq_getElem?_getD] at this ⊢
      rw [List.getElem?_reverse (by omega), hlen, show m - 1 - (m - 1 - j) = j by omega]
      exact this)
    rw [hn, show m + n - m + 1 = n + 1 by omega]
    exact h0
end Go.Proofs.YtkpfehfcgpapiaaGreatDoor

/-
  The last operation of a drawn region, whatever it is, behind the ones whose order is drawn.
  No condition.
-/
namespace Go.Proofs.YtkpfehfcgpapiaaGreatDoor
open Go.RowKit

theorem wpAny_last {P : Program} {ops : Array Oper} {Q : Exit → Act → World → Prop} {listed : Array Bool} {V : Nat → Value} {ds : List Nat} {a : Act} {w : World} (i d : Nat) (o : Oper) (hr : Region.ready .any ops listed = [i]) (ho : ops[i]? = some o) (hg : o.guard = none)
    (hr3 : Region.ready .any ops (listed.setIfInBounds i true) = []) (hd : o.dst = some d) (R : Value → World → Prop) (hrel : relAt P o (fillA V ds a) w R)
    (h : ∀ v w', R v w' → Q .normal ((fillA V ds a).put (some d) v) w') : wpAny P .any ops Q 1 listed (fillA V ds a) w := by
  refine wpAny_tail (fuel := 0) i o hr ho hg ?_
  refine wp_of_relAt (K := R) hrel (fun v w' hv => ⟨hr3, ?_⟩)
  rw [hd]
  exact h v w' hv
theorem wpAny_one {P : Program} {ops : Array Oper} {Q : Exit → Act → World → Prop} {fuel : Nat} {listed : Array Bool} {a : Act} {w : World} (i : Nat) {o : Oper} (hr : Region.ready .any ops listed = [i]) (ho : ops[i]? = some o)
    (h : ∀ K' : Act → World → Prop, (∀ a w, wpAny P .any ops Q fuel (listed.setIfInBounds i true) a w → K' a w) → if Region.wanted o (yielded ops a.tmps) = true then Oper.wp P o a w K' Q else K' (a.put o.dst undef) w) : wpAny P .any ops Q (fuel + 1) listed a w :=
  wpAny_ready hr (by simp) (AllReady.cons ho h AllReady.nil)
end Go.Proofs.YtkpfehfcgpapiaaGreatDoor
