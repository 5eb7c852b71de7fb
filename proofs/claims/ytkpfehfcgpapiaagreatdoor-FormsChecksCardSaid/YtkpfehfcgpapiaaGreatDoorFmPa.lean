/-
  Chapter 51, plain: forms: their checks, values, texts.
  No condition.
-/
import Derived.Test.YtkpfehfcgpapiaaGreatDoorCd
import Derived.Lib.ItoaNum
import Derived.Lib.Join

/-
  Chapter 51, plain: forms: their checks, values, texts.
  No condition.
-/
namespace Go.Proofs.YtkpfehfcgpapiaaGreatDoor.Fm

abbrev S := List UInt8
structure Fld where
  name : S
  op : Int
  mn : Int
  mx : Int
  ck : Int
  chs : List S
  opt : Bool
structure Sm where
  total : S
  parts : List S
structure Frm where
  name : S
  fields : List Fld
  sums : List Sm

/-! ### Names and words -/
def up (c : UInt8) : Bool := decide (65 ≤ c.toNat) && decide (c.toNat ≤ 90)
def dg (c : UInt8) : Bool := decide (48 ≤ c.toNat) && decide (c.toNat ≤ 57)
/-- A letter, a digit, or one of the others. -/
def only (others : S) (s : S) : Bool := s.all fun c => up c || dg c || others.contains c
def isName (s : S) : Bool := decide (1 ≤ s.length) && decide (s.length ≤ 20) && up (s.headD 0) && only [95] s
def isWord (s : S) : Bool := decide (1 ≤ s.length) && decide (s.length ≤ 20) && only [45, 95] s
def within (lo a b hi : Int) : Bool := decide (lo ≤ a) && decide (a ≤ b) && decide (b ≤ hi)

/-! ### Check -/
def chsGo (met : List S) : List S → Int
  | [] => 0
  | s :: r => if isWord s then (if met.contains s then 30 else chsGo (met ++ [s]) r) else 36
def chsE (l : List S) : Int := if l.length = 0 then 5 else if 32 < l.length then 4 else chsGo [] l
def ckSize (ck : Int) : Int := if ck = 0 then 0 else Cd.size ck.toNat
def digE (f : Fld) : Int := if f.ck < 0 ∨ 8 < f.ck ∨ f.ck = 7 then 1 else if within 1 f.mn f.mx 60 && decide (ckSize f.ck < f.mn) then 0 else 3
def great : Int := 1000000000000000
/-- The bounds of a kind's members. -/
def bndB (f : Fld) : Bool := if f.op = 2 then within (-great) f.mn f.mx great else if f.op = 3 then within 0 f.mn f.mx 200 else within 1 f.mn f.mx 9999
def memE (f : Fld) : Int :=
  if f.op < 1 ∨ 5 < f.op then 1
  else if f.op = 1 then (if f.chs.length = 0 then digE f else 1)
  else if f.op = 4 then (if f.mn = 0 ∧ f.mx = 0 ∧ f.ck = 0 then chsE f.chs else 1)
  else if f.ck = 0 ∧ f.chs.length = 0 then (if bndB f then 0 else 3) else 1
def fldsGo (met : List S) : List Fld → Int
  | [] => 0
  | f :: r => if isName f.name then (if met.contains f.name then 30 else if memE f = 0 then fldsGo (met ++ [f.name]) r else memE f) else 36
def nums (fs : List Fld) : List S := (fs.filter (·.op == 2)).map (·.name)
def prtGo (ns met : List S) : List S → Int
  | [] => 0
  | p :: r => if ns.contains p then (if met.contains p then 30 else prtGo ns (met ++ [p]) r) else 29
def sumE (ns : List S) (r : Sm) : Int := if ns.contains r.total then (if r.parts.length = 0 then 5 else prtGo ns [r.total] r.parts) else 29
def sumsGo (ns : List S) : List Sm → Int
  | [] => 0
  | r :: l => if sumE ns r = 0 then sumsGo ns l else sumE ns r
def check (F : Frm) : Int :=
  if isName F.name = false then 36 else if F.fields.length = 0 then 5 else if 256 < F.fields.length ∨ 256 < F.sums.length then 4
  else if fldsGo [] F.fields = 0 then sumsGo (nums F.fields) F.sums else fldsGo [] F.fields

/-! ### Values -/
def natOf (s : S) : Nat := s.foldl (fun n c => 10 * n + (c.toNat - 48)) 0
def neg (s : S) : Bool := s.headD 0 == 45
def body (s : S) : S := if neg s then s.tail else s
/-- A number as a value is written. -/
def written (s : S) : Bool := decide (0 < (body s).length) && (body s).all dg && !((body s).headD 0 == 48 && (decide (1 < (body s).length) || neg s))
def valOf (s : S) : Int := if neg s then -(natOf (body s) : Int) else natOf (body s)
/-- What 'number' returns of a written number: the value, cut at one more than the greatest one. -/
def capOf (s : S) : Int := if neg s then -(min (great + 1) (natOf (body s) : Int)) else min (great + 1) (natOf (body s) : Int)
def core (f : Fld) (s : S) : S := if (f.ck = 3 ∨ f.ck = 8) ∧ s.getLast? = some 88 then s.dropLast else s
def digV (f : Fld) (s : S) : Int := if (s.length : Int) < f.mn ∨ f.mx < s.length then 7 else if (core f s).all dg then (if f.ck = 0 then 0 else Cd.verI f.ck s) else 6
def numV (f : Fld) (s : S) : Int := if written s then (if valOf s < f.mn ∨ f.mx < valOf s then 3 else 0) else 9
def txtV (f : Fld) (s : S) : Int := if (s.length : Int) < f.mn ∨ f.mx < s.length then 7 else if s.all fun c => decide (32 ≤ c.toNat) && decide (c.toNat ≤ 126) then 0 else 6
def leap (y : Int) : Bool := (y % 4 == 0 && !(y % 100 == 0)) || y % 400 == 0
def days (y m : Int) : Int := if m = 4 ∨ m = 6 ∨ m = 9 ∨ m = 11 then 30 else if m = 2 then (if leap y then 29 else 28) else 31
def dateB (s : S) : Bool := decide (s.length = 10) && s.getD 4 0 == 45 && s.getD 7 0 == 45 && (s.take 4 ++ (s.drop 5).take 2 ++ s.drop 8).all dg
def dateV (f : Fld) (s : S) : Int :=
  if dateB s then
    (if (natOf (s.take 4) : Int) < f.mn ∨ f.mx < (natOf (s.take 4) : Int) ∨ natOf ((s.drop 5).take 2) < 1 ∨ 12 < natOf ((s.drop 5).take 2) ∨ natOf (s.drop 8) < 1 ∨ days (natOf (s.take 4)) (natOf ((s.drop 5).take 2)) < (natOf (s.drop 8) : Int) then 3 else 0)
  else 9
def value (f : Fld) (s : S) : Int :=
  if isName f.name = false ∨ memE f ≠ 0 then 1
  else if s.length = 0 then (if f.opt = true ∨ (f.op = 3 ∧ f.mn = 0) then 0 else 5)
  else if f.op = 1 then digV f s else if f.op = 3 then txtV f s else if f.op = 5 then dateV f s else if f.op = 4 then (if f.chs.contains s then 0 else 29) else numV f s

/-! ### Verify -/
abbrev Iss := S × Int
def fldIss (f : Fld) (v : S) : List Iss := if value f v = 0 then [] else [(f.name, value f v)]
def issGo : List Fld → List S → List Iss
  | f :: fs, v :: vs => fldIss f v ++ issGo fs vs
  | _, _ => []
/-- The right numbers: the names of the number fields without an issue, with their numbers. -/
def rightGo : List Fld → List S → List (S × Int)
  | f :: fs, v :: vs => (if value f v = 0 ∧ f.op = 2 then [(f.name, if v.length = 0 then 0 else valOf v)] else []) ++ rightGo fs vs
  | _, _ => []
def look (l : List (S × Int)) (n : S) : Option Int := (l.find? (·.1 == n)).map (·.2)
def partGo (l : List (S × Int)) : Int → Bool → List S → Int × Bool
  | t, ok, [] => (t, ok)
  | t, ok, p :: r => partGo l (t - (look l p).getD 0) (ok && (look l p).isSome) r
def sumIss (l : List (S × Int)) (r : Sm) : List Iss :=
  if (partGo l ((look l r.total).getD 0) (look l r.total).isSome r.parts).2 = true ∧ (partGo l ((look l r.total).getD 0) (look l r.total).isSome r.parts).1 ≠ 0 then [(r.total, 8)] else []
def verify (F : Frm) (vs : List S) : List Iss × Int :=
  if check F = 0 then (if vs.length = F.fields.length then (issGo F.fields vs ++ F.sums.flatMap (sumIss (rightGo F.fields vs)), 0) else ([], 7)) else ([], check F)

/-! ### Fields -/
def cutAt (c : UInt8) : S → Option (S × S)
  | [] => none
  | x :: r => if x = c then some ([], r) else (cutAt c r).map fun p => (x :: p.1, p.2)
def trimL (s : S) : S := s.dropWhile (· == 32)
def trim (s : S) : S := (trimL (trimL s).reverse).reverse
/-- The name and the value of a line. -/
def lineOf (s : S) : Option (S × S) := (cutAt 58 s).map fun p => (trim p.1, trim p.2)
def idxOf (fs : List Fld) (n : S) : Option Nat := fs.findIdx? (·.name == n)
/-- The values that have been met. -/
def putGo (fs : List Fld) (out : List (Option S)) : List S → Option (List (Option S))
  | [] => some out
  | l :: r => match lineOf l with
    | none => putGo fs out r
    | some (n, v) => match idxOf fs n with
      | none => putGo fs out r
      | some i => if (out.getD i none).isSome then none else putGo fs (out.set i (some v)) r
def fields (F : Frm) (lines : List S) : List S × Int :=
  if check F = 0 then (if 4096 < lines.length then ([], 4) else match putGo F.fields (List.replicate F.fields.length none) lines with
    | none => ([], 30)
    | some out => (out.map fun o => o.getD [], 0)) else ([], check F)

/-! ### Repair -/
def rightOnes (f : Fld) (v : S) : List S := (Cd.cor f.ck v).1.filter fun t => value f t == 0
def fix (f : Fld) (v : S) : S :=
  if f.op = 1 ∧ f.ck ≠ 0 ∧ (value f v = 6 ∨ value f v = 8) then (match rightOnes f v with | [t] => t | _ => v) else v
def fixGo : List Fld → List S → List S
  | f :: fs, v :: vs => fix f v :: fixGo fs vs
  | _, _ => []
def repair (F : Frm) (vs : List S) : List S × Int :=
  if check F = 0 then (if vs.length = F.fields.length then (fixGo F.fields vs, 0) else ([], 7)) else ([], check F)

/-! ### Texts -/
def kindNm (op : Int) : S := if op = 1 then [100, 105, 103, 105, 116, 115] else if op = 2 then [110, 117, 109, 98, 101, 114] else if op = 3 then [116, 101, 120, 116] else if op = 4 then [99, 104, 111, 105, 99, 101] else if op = 5 then [100, 97, 116, 101] else []
def sysNm (k : Int) : S := if k = 1 then [103, 115, 49] else if k = 2 then [108, 117, 104, 110] else if k = 3 then [105, 115, 98, 110] else if k = 4 then [118, 101, 114, 104, 111, 101, 102, 102] else if k = 5 then [100, 97, 109, 109] else if k = 6 then [105, 115, 111, 57, 55] else if k = 7 then [99, 111, 100, 101, 51, 57] else if k = 8 then [105, 115, 111, 49, 49] else []
def tChk : S := [99, 104, 101, 99, 107]
def tOpt : S := [111, 112, 116, 105, 111, 110, 97, 108]
def tForm : S := [102, 111, 114, 109]
def tSum : S := [115, 117, 109]
/-- The words of the line of a field. -/
def fldWords (f : Fld) : List S := [kindNm f.op, f.name] ++ (if f.op = 4 then f.chs else [Lib.itoa f.mn, Lib.itoa f.mx]) ++ (if f.ck = 0 then [] else [tChk, sysNm f.ck]) ++ (if f.opt then [tOpt] else [])
def joinSp : List S → S
  | [] => []
  | [s] => s
  | s :: r => s ++ 32 :: joinSp r
def fldLine (f : Fld) : S := joinSp (fldWords f)
def sumLine (r : Sm) : S := tSum ++ 32 :: r.total ++ 32 :: joinSp r.parts
def lines (F : Frm) : List S := (tForm ++ 32 :: F.name) :: (F.fields.map fldLine ++ F.sums.map sumLine)
def text (F : Frm) : S := (lines F).flatMap fun l => l ++ [10]
def format (F : Frm) : S × Int := if check F = 0 then (text F, 0) else ([], check F)
end Go.Proofs.YtkpfehfcgpapiaaGreatDoor.Fm

/-
  Chapter 51, plain: numbers, words, lines; the text of a form is read again.
  No condition.
-/
namespace Go.Proofs.YtkpfehfcgpapiaaGreatDoor.Fm

/-! ### Numbers -/
theorem natOf_snoc (a : S) (c : UInt8) : natOf (a ++ [c]) = 10 * natOf a + (c.toNat - 48) := by unfold natOf; rw [List.foldl_append]; rfl
theorem dg_of {n : Nat} (h : n < 10) : dg (UInt8.ofNat (48 + n)) = true ∧ (UInt8.ofNat (48 + n)).toNat = 48 + n := by
  have e : (UInt8.ofNat (48 + n)).toNat = 48 + n := by rw [UInt8.toNat_ofNat', Nat.mod_eq_of_lt (by omega)]
  refine ⟨?_, e⟩
  unfold dg
  rw [e]
  simp only [Bool.and_eq_true, decide_eq_true_eq]
  omega
theorem dec_step (u : Nat) (h : ¬ u < 10) : Lib.decDigits u = Lib.decDigits (u / 10) ++ [UInt8.ofNat (48 + u % 10)] := by rw [Lib.decDigits, dif_neg h]
theorem dec_all (u : Nat) : natOf (Lib.decDigits u) = u ∧ (Lib.decDigits u).all dg = true ∧ 0 < (Lib.decDigits u).length ∧ ((Lib.decDigits u).headD 0 = 48 → u = 0) := by
  induction u using Nat.strongRecOn with
  | _ u ih =>
    by_cases h : u < 10
    · rw [Lib.decDigits_one h]
      obtain ⟨h1, h2⟩ := dg_of h
      refine ⟨?_, by rw [List.all_cons, h1]; rfl, by simp, fun h3 => ?_⟩
      · show 10 * 0 + ((UInt8.ofNat (48 + u)).toNat - 48) = u
        rw [h2]; omega
      · have h3 : UInt8.ofNat (48 + u) = 48 := h3
        rw [h3] at h2
        have : (48 : UInt8).toNat = 48 := rfl
        omega
    · obtain ⟨i1, i2, i3, i4⟩ := ih (u / 10) (Nat.div_lt_self (by omega) (by decide))
      obtain ⟨h1, h2⟩ := dg_of (Nat.mod_lt u (show 0 < 10 by decide))
      rw [dec_step u h]
      refine ⟨?_, ?_, ?_, fun h3 => ?_⟩
      · rw [natOf_snoc, i1, h2]; omega
      · rw [List.all_append, i2, List.all_cons, h1]; rfl
      · rw [List.length_append]; omega
      · cases hd : Lib.decDigits (u / 10) with
        | nil => rw [hd] at i3; cases i3
        | cons a l =>
          rw [hd] at h3 i4
          have := i4 h3
          omega
theorem neg_dec (u : Nat) : neg (Lib.decDigits u) = false := by
  obtain ⟨_, h2, h3, _⟩ := dec_all u
  cases hd : Lib.decDigits u with
  | nil => rw [hd] at h3; cases h3
  | cons a l =>
    rw [hd, List.all_cons, Bool.and_eq_true] at h2
    unfold neg
    rw [List.headD_cons, beq_eq_false_iff_ne]
    intro e
    rw [e] at h2
    exact absurd h2.1 (by decide)
theorem itoa_pos (u : Nat) : Lib.itoa (u : Int) = Lib.decDigits u := by unfold Lib.itoa; rw [if_neg (by omega)]; simp
theorem itoa_neg (u : Nat) (h : 1 ≤ u) : Lib.itoa (-(u : Int)) = 45 :: Lib.decDigits u := by unfold Lib.itoa; rw [if_pos (by omega)]; simp
/-- What is printed is a number as it is written, and the same number. -/
theorem itoa_ok (n : Int) : written (Lib.itoa n) = true ∧ valOf (Lib.itoa n) = n ∧ (Lib.itoa n).length ≤ 1 + (Lib.decDigits n.natAbs).length ∧ (∀ c ∈ Lib.itoa n, c ≠ 32 ∧ c ≠ 10) ∧ Lib.itoa n ≠ [] := by
  have hne : ∀ c, dg c = true → c ≠ 32 ∧ c ≠ 10 := fun c h => ⟨fun e => by rw [e] at h; exact absurd h (by decide), fun e => by rw [e] at h; exact absurd h (by decide)⟩
  rcases Int.lt_or_le n 0 with h | h
  · obtain ⟨u, rfl⟩ : ∃ u : Nat, n = -(u : Int) := ⟨n.natAbs, by omega⟩
    have hu : 1 ≤ u := by omega
    rw [itoa_neg u hu]
    obtain ⟨h1, h2, h3, h4⟩ := dec_all u
    have hng : neg (45 :: Lib.decDigits u) = true := rfl
    have hb : body (45 :: Lib.decDigits u) = Lib.decDigits u := by unfold body; rw [if_pos hng]; rfl
    refine ⟨?_, ?_, by simp; omega, fun c hc => ?_, by simp⟩
    · unfold written
      rw [hb, hng, decide_eq_true h3, h2]
      have : ((Lib.decDigits u).headD 0 == 48) = false := by rw [beq_eq_false_iff_ne]; intro e; have := h4 e; omega
      rw [this]
      simp
    · unfold valOf
      rw [hb, if_pos hng, h1]
    · rcases List.mem_cons.1 hc with rfl | hc
      · decide
      · exact hne c (List.all_eq_true.1 h2 c hc)
  · obtain ⟨u, rfl⟩ : ∃ u : Nat, n = (u : Int) := ⟨n.toNat, by omega⟩
    rw [itoa_pos u]
    obtain ⟨h1, h2, h3, h4⟩ := dec_all u
    have hng := neg_dec u
    have hb : body (Lib.decDigits u) = Lib.decDigits u := by unfold body; rw [hng]; rfl
    refine ⟨?_, ?_, by simp, fun c hc => hne c (List.all_eq_true.1 h2 c hc), fun e => by rw [e] at h3; cases h3⟩
    · unfold written
      rw [hb, hng, decide_eq_true h3, h2]
      cases hz : (Lib.decDigits u).headD 0 == 48 with
      | false => simp
      | true =>
        have := h4 (by simpa using hz)
        subst this
        rw [Lib.decDigits_one (by decide)]
        rfl
    · unfold valOf
      rw [hb, hng, h1]
      rfl
end Go.Proofs.YtkpfehfcgpapiaaGreatDoor.Fm

/-
  Chapter 51, plain: words and lines; what a text describes.
  No condition.
-/
namespace Go.Proofs.YtkpfehfcgpapiaaGreatDoor.Fm

/-! ### Words and lines -/
def wgo (cur : S) : S → List S
  | [] => if cur = [] then [] else [cur]
  | c :: r => if c = 32 then (if cur = [] then wgo [] r else cur :: wgo [] r) else wgo (cur ++ [c]) r
def words (s : S) : List S := wgo [] s
def lgo (cur : S) : S → List S
  | [] => [cur]
  | c :: r => if c = 10 then cur :: lgo [] r else lgo (cur ++ [c]) r
def linesOf (s : S) : List S := lgo [] s
theorem words_sp (r : S) : words (32 :: r) = words r := by unfold words; rw [wgo, if_pos rfl, if_pos rfl]
theorem wgo_in (cur : S) (c : UInt8) (r : S) (h : c ≠ 32) : wgo cur (c :: r) = wgo (cur ++ [c]) r := by rw [wgo, if_neg h]
theorem wgo_end (cur : S) (h : cur ≠ []) : wgo cur [] = [cur] := by rw [wgo, if_neg h]
theorem wgo_stop (cur : S) (h : cur ≠ []) (r : S) : wgo cur (32 :: r) = cur :: words r := by rw [wgo, if_pos rfl, if_neg h]; rfl
theorem wgo_word (w : S) (h : ∀ c ∈ w, c ≠ 32) : ∀ (cur r : S), wgo cur (w ++ r) = wgo (cur ++ w) r := by
  induction w with
  | nil => intro cur r; rw [List.nil_append, List.append_nil]
  | cons c w ih =>
    intro cur r
    rw [List.cons_append, wgo_in _ _ _ (h c (List.mem_cons_self ..)), ih (fun d hd => h d (List.mem_cons_of_mem _ hd))]
    rw [List.append_assoc]; rfl
theorem words_join : ∀ (ws : List S), (∀ w ∈ ws, w ≠ [] ∧ ∀ c ∈ w, c ≠ 32) → words (joinSp ws) = ws
  | [], _ => by unfold words joinSp wgo; rfl
  | [w], h => by
    obtain ⟨h1, h2⟩ := h w (List.mem_cons_self ..)
    show words w = [w]
    have := wgo_word w h2 [] []
    rw [List.append_nil, List.nil_append] at this
    unfold words
    rw [this, wgo_end w h1]
  | w :: w' :: r, h => by
    obtain ⟨h1, h2⟩ := h w (List.mem_cons_self ..)
    show words (w ++ 32 :: joinSp (w' :: r)) = _
    unfold words
    rw [wgo_word w h2, List.nil_append, wgo_stop w h1, words_join (w' :: r) (fun x hx => h x (List.mem_cons_of_mem _ hx))]
theorem lgo_line (l : S) (h : ∀ c ∈ l, c ≠ 10) : ∀ (cur r : S), lgo cur (l ++ 10 :: r) = (cur ++ l) :: linesOf r := by
  induction l with
  | nil => intro cur r; rw [List.nil_append, lgo, if_pos rfl, List.append_nil]; rfl
  | cons c l ih =>
    intro cur r
    rw [List.cons_append, lgo, if_neg (h c (List.mem_cons_self ..)), ih (fun d hd => h d (List.mem_cons_of_mem _ hd))]
    rw [List.append_assoc]; rfl
theorem lines_all (ls : List S) (h : ∀ l ∈ ls, ∀ c ∈ l, c ≠ 10) (r : S) : linesOf (ls.flatMap (fun l => l ++ [10]) ++ r) = ls ++ linesOf r := by
  induction ls with
  | nil => rfl
  | cons l ls ih =>
    rw [List.flatMap_cons, List.append_assoc, List.append_assoc]
    unfold linesOf
    rw [List.singleton_append, lgo_line l (h l (List.mem_cons_self ..)), List.nil_append]
    unfold linesOf at ih
    rw [show linesOf _ = lgo [] _ from rfl, ih (fun x hx => h x (List.mem_cons_of_mem _ hx))]
    rfl

/-! ### What a line describes -/
def pick (nm : Int → S) (w : S) : Nat → Int
  | 0 => 0
  | k + 1 => if pick nm w k = 0 then (if nm (k + 1 : Nat) = w then (k + 1 : Nat) else 0) else pick nm w k
def kindOf (w : S) : Int := pick kindNm w 5
def sysOf (w : S) : Int := pick sysNm w 8
def inB (f : Fld) : Bool := decide (-great ≤ f.mn) && decide (f.mn ≤ great) && decide (-great ≤ f.mx) && decide (f.mx ≤ great)
def bndOf (nm : S) (op : Int) (opt : Bool) (ws : List S) : Option Fld :=
  match ws with
  | [a, b] => if written a && written b && inB ⟨nm, op, capOf a, capOf b, 0, [], opt⟩ then some ⟨nm, op, capOf a, capOf b, 0, [], opt⟩ else none
  | [a, b, c, y] => if written a && written b && (op == 1) && (c == tChk) && !(sysOf y == 0) && inB ⟨nm, op, capOf a, capOf b, 0, [], opt⟩ then some ⟨nm, op, capOf a, capOf b, sysOf y, [], opt⟩ else none
  | _ => none
def isOpt (l : List S) : Bool := l.getLast? == some tOpt
def cutOpt (l : List S) : List S := if isOpt l then l.dropLast else l
def fldOf (op : Int) (ws : List S) : Option Fld :=
  match ws with
  | nm :: l => if l = [] then none else if op = 4 then (if cutOpt l = [] then none else some ⟨nm, 4, 0, 0, 0, cutOpt l, isOpt l⟩) else bndOf nm op (isOpt l) (cutOpt l)
  | [] => none
abbrev St := Option S × List Fld × List Sm
def stepL (st : St) (ws : List S) : Option St :=
  match ws with
  | [] => some st
  | w :: r =>
    if w.headD 0 = 35 then some st
    else match st.1 with
      | none => if w = tForm ∧ r.length = 1 then some (some (r.headD []), st.2) else none
      | some nm =>
        if w = tSum then (match r with | t :: p :: ps => some (some nm, st.2.1, st.2.2 ++ [⟨t, p :: ps⟩]) | _ => none)
        else if kindOf w = 0 then none else (fldOf (kindOf w) r).map fun f => (some nm, st.2.1 ++ [f], st.2.2)
def runL (st : St) : List S → Option St
  | [] => some st
  | l :: r => match stepL st (words l) with | none => none | some st' => runL st' r
/-- The form that a text describes. -/
def parseS (s : S) : Option Frm := match runL (none, [], []) (linesOf s) with | some (some nm, fs, ss) => some ⟨nm, fs, ss⟩ | _ => none
theorem runL_app (a b : List S) : ∀ st, runL st (a ++ b) = (runL st a).bind fun st' => runL st' b := by
  induction a with
  | nil => intro st; rfl
  | cons l a ih =>
    intro st
    rw [List.cons_append, runL, runL]
    cases stepL st (words l) with
    | none => rfl
    | some st' =>
      dsimp only
      exact ih st'
end Go.Proofs.YtkpfehfcgpapiaaGreatDoor.Fm

/-
  Chapter 51, plain: the text of a valid form describes the form.
  No condition.
-/
namespace Go.Proofs.YtkpfehfcgpapiaaGreatDoor.Fm

def plainC (c : UInt8) : Bool := c != 32 && c != 10 && c != 35
theorem only_plain : ∀ n : Fin 256, (up (UInt8.ofNat n.1) || dg (UInt8.ofNat n.1) || [45, 95].contains (UInt8.ofNat n.1)) = true → plainC (UInt8.ofNat n.1) = true := by decide +kernel
theorem only_big : ∀ n : Fin 256, (up (UInt8.ofNat n.1) || dg (UInt8.ofNat n.1) || [45, 95].contains (UInt8.ofNat n.1)) = true → UInt8.ofNat n.1 ≠ 111 := by decide +kernel
theorem char_of (P : UInt8 → Prop) (h : ∀ n : Fin 256, P (UInt8.ofNat n.1)) (c : UInt8) : P c := by
  have := h ⟨c.toNat, c.toNat_lt⟩
  simpa using this
theorem only_mono {s : S} (h : only [95] s = true) : only [45, 95] s = true := by
  unfold only at h ⊢
  rw [List.all_eq_true] at h ⊢
  intro c hc
  have := h c hc
  simp only [List.contains_cons, List.contains_nil, Bool.or_eq_true, Bool.or_false] at this ⊢
  rcases this with h | h
  · exact .inl h
  · exact .inr (.inr h)
/-- A word of letters and digits. -/
structure Good (s : S) : Prop where
  ne : s ≠ []
  plain : ∀ c ∈ s, plainC c = true
  low : ∀ c ∈ s, c ≠ 111
theorem Good.sp {s : S} (h : Good s) : ∀ c ∈ s, c ≠ 32 := fun c hc e => by have := h.plain c hc; rw [e] at this; exact absurd this (by decide)
theorem Good.nl {s : S} (h : Good s) : ∀ c ∈ s, c ≠ 10 := fun c hc e => by have := h.plain c hc; rw [e] at this; exact absurd this (by decide)
theorem good_only {s : S} (h1 : 1 ≤ s.length) (h : only [45, 95] s = true) : Good s := by
  unfold only at h
  rw [List.all_eq_true] at h
  exact ⟨fun e => by rw [e] at h1; exact absurd h1 (by decide), fun c hc => char_of (fun c => (up c || dg c || [45, 95].contains c) = true → plainC c = true) only_plain c (h c hc), fun c hc => char_of (fun c => (up c || dg c || [45, 95].contains c) = true → c ≠ 111) only_big c (h c hc)⟩
theorem good_word {s : S} (h : isWord s = true) : Good s := by
  unfold isWord at h
  simp only [Bool.and_eq_true, decide_eq_true_eq] at h
  exact good_only h.1.1 h.2
theorem good_name {s : S} (h : isName s = true) : Good s := by
  unfold isName at h
  simp only [Bool.and_eq_true, decide_eq_true_eq] at h
  exact good_only h.1.1.1 (only_mono h.2)
theorem good_itoa (n : Int) : Good (Lib.itoa n) := by
  have hd : ∀ c, dg c = true → plainC c = true ∧ c ≠ 111 := fun c => char_of (fun c => dg c = true → plainC c = true ∧ c ≠ 111) (by decide +kernel) c
  have hall : ∀ u, ∀ c ∈ Lib.decDigits u, plainC c = true ∧ c ≠ 111 := fun u c hc => hd c (List.all_eq_true.1 (dec_all u).2.1 c hc)
  refine ⟨(itoa_ok n).2.2.2.2, fun c hc => ?_, fun c hc => ?_⟩
  all_goals
    unfold Lib.itoa at hc
    split at hc
  · rcases List.mem_cons.1 hc with rfl | hc
    · decide
    · exact (hall _ c hc).1
  · exact (hall _ c hc).1
  · rcases List.mem_cons.1 hc with rfl | hc
    · decide
    · exact (hall _ c hc).2
  · exact (hall _ c hc).2
theorem Good.opt {s : S} (h : Good s) : s ≠ tOpt := fun e => by
  have := h.low 111 (by rw [e]; decide)
  exact this rfl

/-! ### What a valid form is made of -/
theorem chsGo_ok : ∀ (l met : List S), chsGo met l = 0 → ∀ s ∈ l, isWord s = true
  | [], _, _, _, h => by cases h
  | s :: r, met, h, x, hx => by
    unfold chsGo at h
    cases hw : isWord s with
    | false => rw [hw] at h; simp at h
    | true =>
      rw [hw, if_pos rfl] at h
      cases hm : met.contains s with
      | true => rw [hm] at h; simp at h
      | false =>
        rw [hm] at h
        rcases List.mem_cons.1 hx with rfl | hx
        · exact hw
        · exact chsGo_ok r _ h x hx
theorem fldsGo_ok : ∀ (l : List Fld) (met : List S), fldsGo met l = 0 → ∀ f ∈ l, isName f.name = true ∧ memE f = 0
  | [], _, _, _, h => by cases h
  | f :: r, met, h, x, hx => by
    unfold fldsGo at h
    cases hw : isName f.name with
    | false => rw [hw] at h; simp at h
    | true =>
      rw [hw, if_pos rfl] at h
      cases hm : met.contains f.name with
      | true => rw [hm] at h; simp at h
      | false =>
        rw [hm] at h
        simp only [Bool.false_eq_true, if_false] at h
        by_cases h0 : memE f = 0
        · rw [if_pos h0] at h
          rcases List.mem_cons.1 hx with rfl | hx
          · exact ⟨hw, h0⟩
          · exact fldsGo_ok r _ h x hx
        · rw [if_neg h0] at h; exact absurd h h0
theorem prtGo_ok (ns : List S) : ∀ (l met : List S), prtGo ns met l = 0 → ∀ p ∈ l, p ∈ ns
  | [], _, _, _, h => by cases h
  | p :: r, met, h, x, hx => by
    unfold prtGo at h
    cases hw : ns.contains p with
    | false => rw [hw] at h; simp at h
    | true =>
      rw [hw, if_pos rfl] at h
      cases hm : met.contains p with
      | true => rw [hm] at h; simp at h
      | false =>
        rw [hm] at h
        rcases List.mem_cons.1 hx with rfl | hx
        · simpa using hw
        · exact prtGo_ok ns r _ h x hx
theorem sumsGo_ok (ns : List S) : ∀ (l : List Sm), sumsGo ns l = 0 → ∀ r ∈ l, r.total ∈ ns ∧ r.parts ≠ [] ∧ ∀ p ∈ r.parts, p ∈ ns
  | [], _, _, h => by cases h
  | r :: l, h, x, hx => by
    unfold sumsGo at h
    by_cases h0 : sumE ns r = 0
    · rw [if_pos h0] at h
      rcases List.mem_cons.1 hx with rfl | hx
      · unfold sumE at h0
        cases hw : ns.contains x.total with
        | false => rw [hw] at h0; simp at h0
        | true =>
          rw [hw, if_pos rfl] at h0
          by_cases h1 : x.parts.length = 0
          · rw [if_pos h1] at h0; simp at h0
          · rw [if_neg h1] at h0
            exact ⟨by simpa using hw, fun e => h1 (by rw [e]; rfl), prtGo_ok ns _ _ h0⟩
      · exact sumsGo_ok ns l h x hx
    · rw [if_neg h0] at h; exact absurd h h0
theorem nums_name {fs : List Fld} (h : ∀ f ∈ fs, isName f.name = true ∧ memE f = 0) : ∀ n ∈ nums fs, isName n = true := fun n hn => by
  unfold nums at hn
  obtain ⟨f, hf, rfl⟩ := List.mem_map.1 hn
  exact (h f (List.mem_filter.1 hf).1).1
/-- A valid form. -/
structure Valid (F : Frm) : Prop where
  name : isName F.name = true
  some : 0 < F.fields.length
  few : F.fields.length ≤ 256 ∧ F.sums.length ≤ 256
  flds : ∀ f ∈ F.fields, isName f.name = true ∧ memE f = 0
  sums : ∀ r ∈ F.sums, r.total ∈ nums F.fields ∧ r.parts ≠ [] ∧ ∀ p ∈ r.parts, p ∈ nums F.fields
theorem valid_of {F : Frm} (h : check F = 0) : Valid F := by
  unfold check at h
  cases hn : isName F.name with
  | false => rw [if_pos hn] at h; cases h
  | true =>
    rw [if_neg (by rw [hn]; simp)] at h
    by_cases h0 : F.fields.length = 0
    · rw [if_pos h0] at h; cases h
    · rw [if_neg h0] at h
      by_cases h1 : 256 < F.fields.length ∨ 256 < F.sums.length
      · rw [if_pos h1] at h; cases h
      · rw [if_neg h1] at h
        by_cases h2 : fldsGo [] F.fields = 0
        · rw [if_pos h2] at h
          exact ⟨hn, by omega, by omega, fldsGo_ok _ _ h2, sumsGo_ok _ _ h⟩
        · rw [if_neg h2] at h; exact absurd h h2
end Go.Proofs.YtkpfehfcgpapiaaGreatDoor.Fm

/-
  Chapter 51, plain: the text of a valid form describes the form (lines).
  No condition.
-/
namespace Go.Proofs.YtkpfehfcgpapiaaGreatDoor.Fm

theorem good_lit {s : S} (h : (decide (s ≠ []) && s.all plainC) = true) : s ≠ [] ∧ ∀ c ∈ s, c ≠ 32 := by
  simp only [Bool.and_eq_true, decide_eq_true_eq] at h
  refine ⟨h.1, fun c hc e => ?_⟩
  have := List.all_eq_true.1 h.2 c hc
  rw [e] at this
  exact absurd this (by decide)
theorem Good.word {s : S} (h : Good s) : s ≠ [] ∧ ∀ c ∈ s, c ≠ 32 := ⟨h.ne, h.sp⟩
theorem kind_ok : ∀ op : Fin 5, kindOf (kindNm ((op.1 : Int) + 1)) = (op.1 : Int) + 1 ∧ (decide (kindNm ((op.1 : Int) + 1) ≠ []) && (kindNm ((op.1 : Int) + 1)).all plainC) = true ∧ kindNm ((op.1 : Int) + 1) ≠ tSum := by decide +kernel
theorem sys_ok : ∀ k : Fin 8, sysOf (sysNm ((k.1 : Int) + 1)) = (k.1 : Int) + 1 ∧ (decide (sysNm ((k.1 : Int) + 1) ≠ []) && (sysNm ((k.1 : Int) + 1)).all plainC) = true ∧ sysNm ((k.1 : Int) + 1) ≠ tOpt := by decide +kernel
theorem kind_at {op : Int} (h1 : 1 ≤ op) (h5 : op ≤ 5) : kindOf (kindNm op) = op ∧ (decide (kindNm op ≠ []) && (kindNm op).all plainC) = true ∧ kindNm op ≠ tSum := by
  have h := kind_ok ⟨(op - 1).toNat, by omega⟩
  have e : ((op - 1).toNat : Int) + 1 = op := by omega
  dsimp only at h
  rw [e] at h
  exact h
theorem sys_at {k : Int} (h1 : 1 ≤ k) (h8 : k ≤ 8) : sysOf (sysNm k) = k ∧ (decide (sysNm k ≠ []) && (sysNm k).all plainC) = true ∧ sysNm k ≠ tOpt := by
  have h := sys_ok ⟨(k - 1).toNat, by omega⟩
  have e : ((k - 1).toNat : Int) + 1 = k := by omega
  dsimp only at h
  rw [e] at h
  exact h
theorem head_plain {s : S} (h : s ≠ []) (h2 : ∀ c ∈ s, plainC c = true) : s.headD 0 ≠ 35 := by
  cases s with
  | nil => exact absurd rfl h
  | cons c r =>
    intro e
    have := h2 c (List.mem_cons_self ..)
    rw [show c = 35 from e] at this
    exact absurd this (by decide)
theorem cap_itoa {n : Int} (h1 : -great ≤ n) (h2 : n ≤ great) : capOf (Lib.itoa n) = n := by
  obtain ⟨_, hv, _⟩ := itoa_ok n
  unfold valOf at hv
  unfold capOf
  unfold great at *
  split at hv
  · rename_i hn
    rw [if_pos hn]; omega
  · rename_i hn
    rw [if_neg hn]; omega
/-- The words behind a field's name. -/
def tailW (f : Fld) : List S := (if f.op = 4 then f.chs else [Lib.itoa f.mn, Lib.itoa f.mx]) ++ (if f.ck = 0 then [] else [tChk, sysNm f.ck])
theorem fldWords_eq (f : Fld) : fldWords f = kindNm f.op :: f.name :: (tailW f ++ if f.opt then [tOpt] else []) := by unfold fldWords tailW; simp
/-- What the members of a valid field are. -/
theorem mem_parts {f : Fld} (h : memE f = 0) : 1 ≤ f.op ∧ f.op ≤ 5 ∧
    ((f.op = 4 ∧ f.mn = 0 ∧ f.mx = 0 ∧ f.ck = 0 ∧ f.chs ≠ [] ∧ f.chs.length ≤ 32 ∧ ∀ s ∈ f.chs, isWord s = true) ∨
     (f.op ≠ 4 ∧ f.chs = [] ∧ -great ≤ f.mn ∧ f.mn ≤ f.mx ∧ f.mx ≤ great ∧ (f.ck = 0 ∨ (f.op = 1 ∧ 1 ≤ f.ck ∧ f.ck ≤ 8)))) := by
  unfold memE at h
  by_cases h0 : f.op < 1 ∨ 5 < f.op
  · rw [if_pos h0] at h; cases h
  rw [if_neg h0] at h
  refine ⟨by omega, by omega, ?_⟩
  by_cases h1 : f.op = 1
  · rw [if_pos h1] at h
    right
    by_cases hc : f.chs.length = 0
    · rw [if_pos hc] at h
      unfold digE at h
      by_cases hk : f.ck < 0 ∨ 8 < f.ck ∨ f.ck = 7
      · rw [if_pos hk] at h; cases h
      · rw [if_neg hk] at h
        cases hw : within 1 f.mn f.mx 60 && decide (ckSize f.ck < f.mn) with
        | false => rw [hw] at h; simp at h
        | true =>
          unfold within at hw
          simp only [Bool.and_eq_true, decide_eq_true_eq] at hw
          refine ⟨by omega, List.eq_nil_of_length_eq_zero hc, ?_, ?_, ?_, ?_⟩
          · unfold great; omega
          · omega
          · unfold great; omega
          · by_cases hz : f.ck = 0
            · exact .inl hz
            · exact .inr ⟨h1, by omega, by omega⟩
    · rw [if_neg hc] at h; cases h
  · rw [if_neg h1] at h
    by_cases h4 : f.op = 4
    · rw [if_pos h4] at h
      left
      by_cases hz : f.mn = 0 ∧ f.mx = 0 ∧ f.ck = 0
      · rw [if_pos hz] at h
        unfold chsE at h
        by_cases hc : f.chs.length = 0
        · rw [if_pos hc] at h; cases h
        · rw [if_neg hc] at h
          by_cases hl : 32 < f.chs.length
          · rw [if_pos hl] at h; cases h
          · rw [if_neg hl] at h
            exact ⟨h4, hz.1, hz.2.1, hz.2.2, fun e => hc (by rw [e]; rfl), by omega, chsGo_ok _ _ h⟩
      · rw [if_neg hz] at h; cases h
    · rw [if_neg h4] at h
      right
      by_cases hz : f.ck = 0 ∧ f.chs.length = 0
      · rw [if_pos hz] at h
        cases hb : bndB f with
        | false => rw [hb] at h; simp at h
        | true =>
          refine ⟨h4, List.eq_nil_of_length_eq_zero hz.2, ?_, ?_, ?_, .inl hz.1⟩
          all_goals
            unfold bndB within at hb
            unfold great at *
            split at hb
            · simp only [Bool.and_eq_true, decide_eq_true_eq] at hb; omega
            · split at hb
              · simp only [Bool.and_eq_true, decide_eq_true_eq] at hb; omega
              · simp only [Bool.and_eq_true, decide_eq_true_eq] at hb; omega
      · rw [if_neg hz] at h; cases h
theorem tail_last {f : Fld} (h : memE f = 0) : tailW f ≠ [] ∧ (tailW f).getLast? ≠ some tOpt ∧ ∀ w ∈ tailW f, w ≠ [] ∧ ∀ c ∈ w, c ≠ 32 := by
  obtain ⟨h1, h5, hp⟩ := mem_parts h
  rcases hp with ⟨h4, _, _, hk, hne, _, hw⟩ | ⟨h4, _, _, _, _, hk⟩
  · have e : tailW f = f.chs := by unfold tailW; rw [if_pos h4, if_pos hk, List.append_nil]
    rw [e]
    refine ⟨hne, fun hl => ?_, fun w hww => (good_word (hw w hww)).word⟩
    exact (good_word (hw tOpt (List.mem_of_getLast? hl))).opt rfl
  · rcases hk with hk | ⟨_, hk1, hk8⟩
    · have e : tailW f = [Lib.itoa f.mn, Lib.itoa f.mx] := by unfold tailW; rw [if_neg h4, if_pos hk]; rfl
      rw [e]
      refine ⟨by simp, fun hl => ?_, fun w hww => ?_⟩
      · simp at hl
        exact (good_itoa f.mx).opt hl
      · simp only [List.mem_cons, List.not_mem_nil, or_false] at hww
        rcases hww with rfl | rfl
        · exact (good_itoa _).word
        · exact (good_itoa _).word
    · have e : tailW f = [Lib.itoa f.mn, Lib.itoa f.mx, tChk, sysNm f.ck] := by unfold tailW; rw [if_neg h4, if_neg (by omega)]; rfl
      obtain ⟨_, s2, s3⟩ := sys_at hk1 hk8
      rw [e]
      refine ⟨by simp, fun hl => ?_, fun w hww => ?_⟩
      · simp at hl
        exact s3 hl
      · simp only [List.mem_cons, List.not_mem_nil, or_false] at hww
        rcases hww with rfl | rfl | rfl | rfl
        · exact (good_itoa _).word
        · exact (good_itoa _).word
        · exact good_lit (by decide)
        · exact good_lit s2
theorem isOpt_app (l : List S) : isOpt (l ++ [tOpt]) = true ∧ cutOpt (l ++ [tOpt]) = l := by
  have h : isOpt (l ++ [tOpt]) = true := by unfold isOpt; simp
  exact ⟨h, by unfold cutOpt; rw [if_pos h, List.dropLast_concat]⟩
theorem opt_tail {f : Fld} (h : memE f = 0) : isOpt (tailW f ++ if f.opt then [tOpt] else []) = f.opt ∧ cutOpt (tailW f ++ if f.opt then [tOpt] else []) = tailW f := by
  obtain ⟨_, h2, _⟩ := tail_last h
  cases ho : f.opt with
  | true => simpa using isOpt_app (tailW f)
  | false =>
    have h3 : isOpt (tailW f) = false := by unfold isOpt; rw [beq_eq_false_iff_ne]; exact h2
    simp only [Bool.false_eq_true, if_false, List.append_nil]
    exact ⟨h3, by unfold cutOpt; rw [h3]; rfl⟩
/-- The words of a valid field's line describe the field. -/
theorem fldOf_words {f : Fld} (h : memE f = 0) : fldOf f.op (f.name :: (tailW f ++ if f.opt then [tOpt] else [])) = some f := by
  obtain ⟨o1, o2⟩ := opt_tail h
  obtain ⟨t1, _, _⟩ := tail_last h
  obtain ⟨h1, h5, hp⟩ := mem_parts h
  unfold fldOf
  dsimp only
  rw [if_neg (by intro e; exact t1 (List.append_eq_nil_iff.1 e).1), o1, o2]
  rcases hp with ⟨h4, hmn, hmx, hk, hne, _, hw⟩ | ⟨h4, hc, b1, b2, b3, hk⟩
  · have e : tailW f = f.chs := by unfold tailW; rw [if_pos h4, if_pos hk, List.append_nil]
    rw [if_pos h4, e, if_neg hne]
    cases f
    simp_all
  · rw [if_neg h4]
    have c1 := cap_itoa b1 (by omega : f.mn ≤ great)
    have c2 := cap_itoa (by omega : -great ≤ f.mx) b3
    have w1 := (itoa_ok f.mn).1
    have w2 := (itoa_ok f.mx).1
    have hin : ∀ k l o, inB ⟨f.name, f.op, f.mn, f.mx, k, l, o⟩ = true := fun k l o => by
      unfold inB
      simp only [Bool.and_eq_true, decide_eq_true_eq]
      omega
    rcases hk with hk | ⟨hop, hk1, hk8⟩
    · have e : tailW f = [Lib.itoa f.mn, Lib.itoa f.mx] := by unfold tailW; rw [if_neg h4, if_pos hk]; rfl
      rw [e]
      unfold bndOf
      dsimp only
      rw [c1, c2, w1, w2, hin]
      cases f
      simp_all
    · have e : tailW f = [Lib.itoa f.mn, Lib.itoa f.mx, tChk, sysNm f.ck] := by unfold tailW; rw [if_neg h4, if_neg (by omega)]; rfl
      obtain ⟨s1, _, _⟩ := sys_at hk1 hk8
      have s0 : (sysOf (sysNm f.ck) == 0) = false := by rw [s1, beq_eq_false_iff_ne]; omega
      rw [e]
      unfold bndOf
      dsimp only
      rw [c1, c2, w1, w2, hin, s0, s1]
      have ho : (f.op == 1) = true := by rw [hop]; rfl
      rw [ho]
      cases f
      simp_all
end Go.Proofs.YtkpfehfcgpapiaaGreatDoor.Fm

/-
  Chapter 51, plain: the text of a valid form describes the form.
  No condition.
-/
namespace Go.Proofs.YtkpfehfcgpapiaaGreatDoor.Fm

/-- A word without spaces and ends of lines. -/
def Wd (s : S) : Prop := s ≠ [] ∧ ∀ c ∈ s, c ≠ 32 ∧ c ≠ 10
theorem Good.wd {s : S} (h : Good s) : Wd s := ⟨h.ne, fun c hc => ⟨h.sp c hc, h.nl c hc⟩⟩
theorem wd_lit {s : S} (h : (decide (s ≠ []) && s.all plainC) = true) : Wd s := by
  simp only [Bool.and_eq_true, decide_eq_true_eq] at h
  refine ⟨h.1, fun c hc => ⟨fun e => ?_, fun e => ?_⟩⟩ <;>
  · have := List.all_eq_true.1 h.2 c hc
    rw [e] at this
    exact absurd this (by decide)
theorem join_nl : ∀ (ws : List S), (∀ w ∈ ws, Wd w) → ∀ c ∈ joinSp ws, c ≠ 10
  | [], _, _, h => by cases h
  | [w], h, c, hc => ((h w (List.mem_cons_self ..)).2 c hc).2
  | w :: w' :: r, h, c, hc => by
    have hc : c ∈ w ++ 32 :: joinSp (w' :: r) := hc
    rcases List.mem_append.1 hc with hc | hc
    · exact ((h w (List.mem_cons_self ..)).2 c hc).2
    · rcases List.mem_cons.1 hc with rfl | hc
      · decide
      · exact join_nl (w' :: r) (fun x hx => h x (List.mem_cons_of_mem _ hx)) c hc
theorem words_wd {ws : List S} (h : ∀ w ∈ ws, Wd w) : words (joinSp ws) = ws := words_join ws fun w hw => ⟨(h w hw).1, fun c hc => ((h w hw).2 c hc).1⟩
theorem tail_wd {f : Fld} (h : memE f = 0) : ∀ w ∈ tailW f, Wd w := by
  obtain ⟨h1, h5, hp⟩ := mem_parts h
  rcases hp with ⟨h4, _, _, hk, hne, _, hw⟩ | ⟨h4, _, _, _, _, hk⟩
  · have e : tailW f = f.chs := by unfold tailW; rw [if_pos h4, if_pos hk, List.append_nil]
    rw [e]
    exact fun w hww => (good_word (hw w hww)).wd
  · rcases hk with hk | ⟨_, hk1, hk8⟩
    · have e : tailW f = [Lib.itoa f.mn, Lib.itoa f.mx] := by unfold tailW; rw [if_neg h4, if_pos hk]; rfl
      rw [e]
      intro w hww
      simp only [List.mem_cons, List.not_mem_nil, or_false] at hww
      rcases hww with rfl | rfl <;> exact (good_itoa _).wd
    · have e : tailW f = [Lib.itoa f.mn, Lib.itoa f.mx, tChk, sysNm f.ck] := by unfold tailW; rw [if_neg h4, if_neg (by omega)]; rfl
      rw [e]
      intro w hww
      simp only [List.mem_cons, List.not_mem_nil, or_false] at hww
      rcases hww with rfl | rfl | rfl | rfl
      · exact (good_itoa _).wd
      · exact (good_itoa _).wd
      · exact wd_lit (by decide)
      · exact wd_lit (sys_at hk1 hk8).2.1
theorem fld_wd {f : Fld} (hn : isName f.name = true) (h : memE f = 0) : ∀ w ∈ fldWords f, Wd w := by
  obtain ⟨h1, h5, _⟩ := mem_parts h
  rw [fldWords_eq]
  intro w hw
  rcases List.mem_cons.1 hw with rfl | hw
  · exact wd_lit (kind_at h1 h5).2.1
  rcases List.mem_cons.1 hw with rfl | hw
  · exact (good_name hn).wd
  rcases List.mem_append.1 hw with hw | hw
  · exact tail_wd h w hw
  · cases ho : f.opt with
    | false => rw [ho] at hw; cases hw
    | true =>
      rw [ho] at hw
      simp only [if_true, List.mem_singleton] at hw
      subst hw
      exact wd_lit (by decide)
theorem step_fld {f : Fld} (hn : isName f.name = true) (h : memE f = 0) (nm : S) (fs : List Fld) (ss : List Sm) : stepL (some nm, fs, ss) (words (fldLine f)) = some (some nm, fs ++ [f], ss) := by
  obtain ⟨h1, h5, _⟩ := mem_parts h
  obtain ⟨k1, k2, k3⟩ := kind_at h1 h5
  simp only [Bool.and_eq_true, decide_eq_true_eq] at k2
  unfold fldLine
  rw [words_wd (fld_wd hn h), fldWords_eq]
  unfold stepL
  dsimp only
  rw [if_neg (head_plain k2.1 (List.all_eq_true.1 k2.2)), if_neg k3, k1, if_neg (by omega), fldOf_words h]
  rfl
theorem sum_line (r : Sm) (h : r.parts ≠ []) : sumLine r = joinSp (tSum :: r.total :: r.parts) := by
  unfold sumLine
  cases hp : r.parts with
  | nil => exact absurd hp h
  | cons p l => simp [joinSp]
theorem step_sum {r : Sm} (h : r.parts ≠ []) (ht : isName r.total = true) (hp : ∀ p ∈ r.parts, isName p = true) (nm : S) (fs : List Fld) (ss : List Sm) : stepL (some nm, fs, ss) (words (sumLine r)) = some (some nm, fs, ss ++ [r]) := by
  have hw : ∀ w ∈ tSum :: r.total :: r.parts, Wd w := fun w hw => by
    rcases List.mem_cons.1 hw with rfl | hw
    · exact wd_lit (by decide)
    rcases List.mem_cons.1 hw with rfl | hw
    · exact (good_name ht).wd
    · exact (good_name (hp w hw)).wd
  rw [sum_line r h, words_wd hw]
  unfold stepL
  dsimp only
  rw [if_neg (by decide), if_pos rfl]
  cases hpp : r.parts with
  | nil => exact absurd hpp h
  | cons p l => cases r; simp_all
theorem run_flds : ∀ (l : List Fld), (∀ f ∈ l, isName f.name = true ∧ memE f = 0) → ∀ (nm : S) (fs : List Fld) (ss : List Sm), runL (some nm, fs, ss) (l.map fldLine) = some (some nm, fs ++ l, ss)
  | [], _, nm, fs, ss => by rw [List.map_nil, List.append_nil]; rfl
  | f :: r, h, nm, fs, ss => by
    obtain ⟨h1, h2⟩ := h f (List.mem_cons_self ..)
    rw [List.map_cons, runL, step_fld h1 h2]
    dsimp only
    rw [run_flds r (fun x hx => h x (List.mem_cons_of_mem _ hx)), List.append_assoc]
    rfl
theorem run_sums : ∀ (l : List Sm), (∀ r ∈ l, r.parts ≠ [] ∧ isName r.total = true ∧ ∀ p ∈ r.parts, isName p = true) → ∀ (nm : S) (fs : List Fld) (ss : List Sm), runL (some nm, fs, ss) (l.map sumLine) = some (some nm, fs, ss ++ l)
  | [], _, nm, fs, ss => by rw [List.map_nil, List.append_nil]; rfl
  | r :: l, h, nm, fs, ss => by
    obtain ⟨h1, h2, h3⟩ := h r (List.mem_cons_self ..)
    rw [List.map_cons, runL, step_sum h1 h2 h3]
    dsimp only
    rw [run_sums l (fun x hx => h x (List.mem_cons_of_mem _ hx)), List.append_assoc]
    rfl
/-- A line that says nothing. -/
def Mute (c : S) : Prop := (∀ x ∈ c, x ≠ 10) ∧ (words c = [] ∨ ∃ w r, words c = w :: r ∧ w.headD 0 = 35)
theorem step_mute {c : S} (h : Mute c) (st : St) : stepL st (words c) = some st := by
  rcases h.2 with h | ⟨w, r, h, hw⟩
  · rw [h]; rfl
  · rw [h]
    unfold stepL
    dsimp only
    rw [if_pos hw]
theorem Valid.names {F : Frm} (h : Valid F) : ∀ n ∈ nums F.fields, isName n = true := nums_name h.flds
theorem lines_nl {F : Frm} (h : Valid F) : ∀ l ∈ lines F, ∀ c ∈ l, c ≠ 10 := by
  intro l hl c hc
  unfold lines at hl
  rcases List.mem_cons.1 hl with rfl | hl
  · rcases List.mem_append.1 hc with hc | hc
    · intro e; rw [e] at hc; exact absurd hc (by decide)
    · rcases List.mem_cons.1 hc with rfl | hc
      · decide
      · exact (good_name h.name).nl c hc
  rcases List.mem_append.1 hl with hl | hl
  · obtain ⟨f, hf, rfl⟩ := List.mem_map.1 hl
    obtain ⟨h1, h2⟩ := h.flds f hf
    exact join_nl _ (fld_wd h1 h2) c hc
  · obtain ⟨r, hr, rfl⟩ := List.mem_map.1 hl
    obtain ⟨h1, h2, h3⟩ := h.sums r hr
    rw [sum_line r h2] at hc
    refine join_nl _ (fun w hw => ?_) c hc
    rcases List.mem_cons.1 hw with rfl | hw
    · exact wd_lit (by decide)
    rcases List.mem_cons.1 hw with rfl | hw
    · exact (good_name (h.names _ h1)).wd
    · exact (good_name (h.names _ (h3 w hw))).wd
theorem linesOf_one (c : S) (h : ∀ x ∈ c, x ≠ 10) : linesOf c = [c] := by
  have : ∀ (c : S), (∀ x ∈ c, x ≠ 10) → ∀ cur, lgo cur c = [cur ++ c] := by
    intro c
    induction c with
    | nil => intro _ cur; rw [lgo, List.append_nil]
    | cons x c ih =>
      intro h cur
      rw [lgo, if_neg (h x (List.mem_cons_self ..)), ih (fun y hy => h y (List.mem_cons_of_mem _ hy)), List.append_assoc]
      rfl
  exact this c h []
/-- The text of a valid form, with a line behind it that says nothing, describes the form. -/
theorem parse_text {F : Frm} (h : Valid F) {c : S} (hc : Mute c) : parseS (text F ++ c) = some F := by
  unfold parseS text
  rw [lines_all _ (lines_nl h), linesOf_one c hc.1, runL_app]
  have hf : runL (none, [], []) (lines F) = some (some F.name, F.fields, F.sums) := by
    unfold lines
    have hw : words (tForm ++ 32 :: F.name) = [tForm, F.name] := by
      refine words_wd (ws := [tForm, F.name]) fun w hw => ?_
      simp only [List.mem_cons, List.not_mem_nil, or_false] at hw
      rcases hw with rfl | rfl
      · exact wd_lit (by decide)
      · exact (good_name h.name).wd
    rw [runL, hw]
    have hs : stepL ((none, [], []) : St) [tForm, F.name] = some (some F.name, [], []) := by
      unfold stepL
      dsimp only
      rw [if_neg (by decide), if_pos ⟨rfl, rfl⟩]
      rfl
    rw [hs]
    dsimp only
    rw [runL_app, run_flds F.fields h.flds]
    show runL _ _ = _
    rw [run_sums F.sums (fun r hr => by obtain ⟨h1, h2, h3⟩ := h.sums r hr; exact ⟨h2, h.names _ h1, fun p hp => h.names _ (h3 p hp)⟩)]
    rfl
  rw [hf]
  show (match runL (some F.name, F.fields, F.sums) [c] with | some (some nm, fs, ss) => some ⟨nm, fs, ss⟩ | _ => none) = some F
  rw [runL, step_mute hc]
  rfl
theorem mute_nil : Mute [] := ⟨(fun x hx => by cases hx), .inl rfl⟩
theorem parse_format {F : Frm} (h : check F = 0) : parseS (text F) = some F := by
  have := parse_text (valid_of h) mute_nil
  rwa [List.append_nil] at this
end Go.Proofs.YtkpfehfcgpapiaaGreatDoor.Fm

/-
  Chapter 51, plain: the dates of a year.
  No condition.
-/
namespace Go.Proofs.YtkpfehfcgpapiaaGreatDoor.Fm

def two (n : Nat) : S := [UInt8.ofNat (48 + n / 10 % 10), UInt8.ofNat (48 + n % 10)]
def dateS (y m d : Nat) : S := two (y / 100) ++ two y ++ [45] ++ two m ++ [45] ++ two d
def dateF (y : Nat) : Fld := ⟨[68], 5, y, y, 0, [], false⟩
def daysL (lp : Bool) (m : Nat) : Nat := if m = 4 ∨ m = 6 ∨ m = 9 ∨ m = 11 then 30 else if m = 2 then (if lp then 29 else 28) else 31
def okD (lp : Bool) (m d : Nat) : Bool := decide (1 ≤ m) && decide (m ≤ 12) && decide (1 ≤ d) && decide (d ≤ daysL lp m)
def dayN (lp : Bool) (m k : Nat) : Nat := (List.range k).countP fun d => okD lp m d
def monN (lp : Bool) : Nat → Nat
  | 0 => 0
  | m + 1 => monN lp m + dayN lp m 33
theorem dayN_succ (lp : Bool) (m k : Nat) : dayN lp m (k + 1) = dayN lp m k + if okD lp m k then 1 else 0 := by
  unfold dayN
  rw [List.range_succ, List.countP_append]
  simp [List.countP_cons]
theorem dayN_le (lp : Bool) (m k : Nat) : dayN lp m k ≤ k := by unfold dayN; exact Nat.le_trans List.countP_le_length (by simp)
theorem monN_all : ∀ lp : Bool, monN lp 14 = if lp then 366 else 365 := by decide +kernel
theorem monN_le (lp : Bool) (m : Nat) : monN lp m ≤ 33 * m := by
  induction m with
  | zero => exact Nat.le_refl _
  | succ m ih => have := dayN_le lp m 33; unfold monN; omega
theorem days_leap (y m : Nat) : days (y : Int) (m : Int) = (daysL (leap (y : Int)) m : Int) := by
  unfold days daysL
  by_cases h : m = 4 ∨ m = 6 ∨ m = 9 ∨ m = 11
  · rw [if_pos (by omega), if_pos h]; rfl
  · rw [if_neg (by omega), if_neg h]
    by_cases h2 : m = 2
    · rw [if_pos (by omega), if_pos h2]
      cases leap (y : Int) <;> rfl
    · rw [if_neg (by omega), if_neg h2]; rfl
theorem two_len (n : Nat) : (two n).length = 2 := rfl
theorem two_dg (n : Nat) : (two n).all dg = true := by
  unfold two
  rw [List.all_cons, List.all_cons, (dg_of (show n / 10 % 10 < 10 by omega)).1, (dg_of (show n % 10 < 10 by omega)).1]
  rfl
theorem natOf_two (n : Nat) (h : n < 100) : natOf (two n) = n := by
  show 10 * (10 * 0 + ((UInt8.ofNat (48 + n / 10 % 10)).toNat - 48)) + ((UInt8.ofNat (48 + n % 10)).toNat - 48) = n
  rw [(dg_of (show n / 10 % 10 < 10 by omega)).2, (dg_of (show n % 10 < 10 by omega)).2]
  omega
theorem natOf_four (y : Nat) (h : y < 10000) : natOf (two (y / 100) ++ two y) = y := by
  show 10 * (10 * (10 * (10 * 0 + ((UInt8.ofNat (48 + y / 100 / 10 % 10)).toNat - 48)) + ((UInt8.ofNat (48 + y / 100 % 10)).toNat - 48)) + ((UInt8.ofNat (48 + y / 10 % 10)).toNat - 48)) + ((UInt8.ofNat (48 + y % 10)).toNat - 48) = y
  rw [(dg_of (show y / 100 / 10 % 10 < 10 by omega)).2, (dg_of (show y / 100 % 10 < 10 by omega)).2, (dg_of (show y / 10 % 10 < 10 by omega)).2, (dg_of (show y % 10 < 10 by omega)).2]
  omega
theorem dateS_parts (y m d : Nat) : (dateS y m d).length = 10 ∧ (dateS y m d).getD 4 0 = 45 ∧ (dateS y m d).getD 7 0 = 45 ∧ (dateS y m d).take 4 = two (y / 100) ++ two y ∧ ((dateS y m d).drop 5).take 2 = two m ∧ (dateS y m d).drop 8 = two d := ⟨rfl, rfl, rfl, rfl, rfl, rfl⟩
theorem dateB_ok (y m d : Nat) : dateB (dateS y m d) = true := by
  obtain ⟨h1, h2, h3, h4, h5, h6⟩ := dateS_parts y m d
  unfold dateB
  rw [h1, h2, h3, h4, h5, h6]
  simp only [List.all_append, two_dg]
  rfl
theorem dateF_ok (y : Nat) (h1 : 1 ≤ y) (h2 : y ≤ 9999) : isName (dateF y).name = true ∧ memE (dateF y) = 0 := by
  refine ⟨by show isName [68] = true; decide, ?_⟩
  show memE ⟨[68], 5, y, y, 0, [], false⟩ = 0
  unfold memE
  simp only [List.length_nil]
  rw [if_neg (by omega), if_neg (by omega), if_neg (by omega), if_pos (by simp)]
  have : bndB ⟨[68], 5, y, y, 0, [], false⟩ = true := by
    unfold bndB within
    simp only
    rw [if_neg (by omega), if_neg (by omega)]
    simp only [Bool.and_eq_true, decide_eq_true_eq]
    omega
  rw [this]
  rfl
/-- Value accepts the dates of the year. -/
theorem value_date (y m d : Nat) (h1 : 1 ≤ y) (h2 : y ≤ 9999) (hm : m < 100) (hd : d < 100) : value (dateF y) (dateS y m d) = if okD (leap (y : Int)) m d then 0 else 3 := by
  obtain ⟨g1, g2⟩ := dateF_ok y h1 h2
  obtain ⟨e1, _, _, e4, e5, e6⟩ := dateS_parts y m d
  unfold value
  rw [if_neg (by rw [g1, g2]; simp), if_neg (by rw [e1]; decide)]
  show (if (5 : Int) = 1 then _ else if (5 : Int) = 3 then _ else if (5 : Int) = 5 then dateV (dateF y) (dateS y m d) else _) = _
  rw [if_neg (by decide), if_neg (by decide), if_pos rfl]
  unfold dateV
  rw [dateB_ok, if_pos rfl, e4, e5, e6, natOf_four y (by omega), natOf_two m hm, natOf_two d hd, days_leap]
  have e7 : (dateF y).mn = (y : Int) := rfl
  have e8 : (dateF y).mx = (y : Int) := rfl
  rw [e7, e8]
  cases hk : okD (leap (y : Int)) m d with
  | true =>
    unfold okD at hk
    simp only [Bool.and_eq_true, decide_eq_true_eq] at hk
    rw [if_neg (by omega)]; rfl
  | false =>
    have : ¬ (1 ≤ m ∧ m ≤ 12 ∧ 1 ≤ d ∧ d ≤ daysL (leap (y : Int)) m) := by
      intro hh
      have : okD (leap (y : Int)) m d = true := by
        unfold okD
        simp only [Bool.and_eq_true, decide_eq_true_eq]
        omega
      rw [this] at hk; cases hk
    rw [if_pos (by omega)]; rfl
end Go.Proofs.YtkpfehfcgpapiaaGreatDoor.Fm

/-
  Chapter 51, plain: the lines NAME: VALUE of a form, from the last field to the first one.
  No condition.
-/
namespace Go.Proofs.YtkpfehfcgpapiaaGreatDoor.Fm

theorem fldsGo_nodup : ∀ (l : List Fld) (met : List S), fldsGo met l = 0 → (l.map (·.name)).Nodup ∧ ∀ f ∈ l, f.name ∉ met
  | [], _, _ => ⟨List.nodup_nil, fun _ h => by cases h⟩
  | f :: r, met, h => by
    unfold fldsGo at h
    cases hw : isName f.name with
    | false => rw [hw] at h; simp at h
    | true =>
      rw [hw, if_pos rfl] at h
      cases hm : met.contains f.name with
      | true => rw [hm] at h; simp at h
      | false =>
        rw [hm] at h
        simp only [Bool.false_eq_true, if_false] at h
        by_cases h0 : memE f = 0
        · rw [if_pos h0] at h
          obtain ⟨h1, h2⟩ := fldsGo_nodup r _ h
          refine ⟨?_, fun x hx => ?_⟩
          · rw [List.map_cons, List.nodup_cons]
            refine ⟨fun hin => ?_, h1⟩
            obtain ⟨g, hg, he⟩ := List.mem_map.1 hin
            exact h2 g hg (List.mem_append_right _ (by rw [he]; exact List.mem_singleton_self _))
          · rcases List.mem_cons.1 hx with rfl | hx
            · simpa using hm
            · exact fun hin => h2 x hx (List.mem_append_left _ hin)
        · rw [if_neg h0] at h; exact absurd h h0
theorem names_nodup {F : Frm} (h : check F = 0) : (F.fields.map (·.name)).Nodup := by
  have hv := valid_of h
  unfold check at h
  rw [if_neg (by rw [hv.name]; simp), if_neg (by have := hv.some; omega), if_neg (by have := hv.few; omega)] at h
  by_cases h2 : fldsGo [] F.fields = 0
  · exact (fldsGo_nodup _ _ h2).1
  · rw [if_neg h2] at h; exact absurd h h2
/-- No space at the ends. -/
def Tidy (v : S) : Prop := v.head? ≠ some 32 ∧ v.getLast? ≠ some 32
theorem trimL_id {v : S} (h : v.head? ≠ some 32) : trimL v = v := by
  unfold trimL
  cases v with
  | nil => rfl
  | cons c r =>
    have : (c == 32) = false := by rw [beq_eq_false_iff_ne]; intro e; exact h (by rw [e]; rfl)
    rw [List.dropWhile_cons, this]; rfl
theorem trim_tidy {v : S} (h : Tidy v) : trim v = v := by
  unfold trim
  rw [trimL_id h.1, trimL_id (by rw [List.head?_reverse]; exact h.2), List.reverse_reverse]
theorem trim_sp (v : S) : trim (32 :: v) = trim v := by
  unfold trim trimL
  rw [List.dropWhile_cons]
  rfl
theorem cutAt_at (c : UInt8) (a b : S) (h : ∀ x ∈ a, x ≠ c) : cutAt c (a ++ c :: b) = some (a, b) := by
  induction a with
  | nil => rw [List.nil_append, cutAt, if_pos rfl]
  | cons x a ih =>
    rw [List.cons_append, cutAt, if_neg (h x (List.mem_cons_self ..)), ih (fun y hy => h y (List.mem_cons_of_mem _ hy))]
    rfl
def lnS (f : Fld) (v : S) : S := f.name ++ [58, 32] ++ v
theorem name_colon {s : S} (h : isName s = true) : ∀ c ∈ s, c ≠ 58 := by
  unfold isName at h
  simp only [Bool.and_eq_true, decide_eq_true_eq] at h
  have h2 := List.all_eq_true.1 h.2
  intro c hc e
  have := h2 c hc
  rw [e] at this
  exact absurd this (by decide)
theorem Good.tidy {s : S} (h : Good s) : Tidy s := by
  refine ⟨fun e => ?_, fun e => ?_⟩
  · exact h.sp 32 (List.mem_of_mem_head? e) rfl
  · exact h.sp 32 (List.mem_of_getLast? e) rfl
theorem lineOf_ln {f : Fld} (h : isName f.name = true) {v : S} (hv : Tidy v) : lineOf (lnS f v) = some (f.name, v) := by
  unfold lineOf lnS
  rw [List.append_assoc, show ([58, 32] : S) ++ v = 58 :: 32 :: v from rfl, cutAt_at 58 _ _ (name_colon h)]
  show some (trim f.name, trim (32 :: v)) = _
  rw [trim_tidy (good_name h).tidy, trim_sp, trim_tidy hv]
theorem idxOf_at {fs : List Fld} (hn : (fs.map (·.name)).Nodup) {i : Nat} {f : Fld} (hi : fs[i]? = some f) : idxOf fs f.name = some i := by
  unfold idxOf
  obtain ⟨hil, he⟩ := List.getElem?_eq_some_iff.1 hi
  rw [List.findIdx?_eq_some_iff_getElem]
  refine ⟨hil, by rw [he]; simp, fun j hj => ?_⟩
  intro hjn
  have hjn : fs[j].name = f.name := by simpa using hjn
  have h1 : (fs.map (·.name))[j]'(by rw [List.length_map]; omega) = (fs.map (·.name))[i]'(by rw [List.length_map]; omega) := by
    rw [List.getElem_map, List.getElem_map, he]; exact hjn
  have := (List.getElem_inj hn).1 h1
  omega
/-- The values that stand when the lines of the first k fields are still to come. -/
def outK (vs : List S) (k : Nat) : List (Option S) := List.replicate k none ++ (vs.drop k).map some
theorem put_ok {fs : List Fld} {vs : List S} (hl : vs.length = fs.length) (hn : (fs.map (·.name)).Nodup) (hf : ∀ f ∈ fs, isName f.name = true) (hv : ∀ v ∈ vs, Tidy v) :
    ∀ k, k ≤ fs.length → putGo fs (outK vs k) ((List.range k).reverse.map fun i => lnS (fs.getD i ⟨[], 0, 0, 0, 0, [], false⟩) (vs.getD i [])) = some (vs.map some) := by
  intro k
  induction k with
  | zero => intro _; unfold outK putGo; simp
  | succ k ih =>
    intro hk
    rw [List.range_succ, List.reverse_append, List.map_append]
    obtain ⟨f, hfk⟩ : ∃ f, fs[k]? = some f := ⟨_, List.getElem?_eq_getElem (by omega)⟩
    obtain ⟨v, hvk⟩ : ∃ v, vs[k]? = some v := ⟨_, List.getElem?_eq_getElem (by omega)⟩
    have e1 : fs.getD k ⟨[], 0, 0, 0, 0, [], false⟩ = f := by rw [List.getD_eq_getElem?_getD, hfk]; rfl
    have e2 : vs.getD k [] = v := by rw [List.getD_eq_getElem?_getD, hvk]; rfl
    show putGo fs (outK vs (k + 1)) (lnS (fs.getD k _) (vs.getD k []) :: _) = _
    rw [e1, e2, putGo, lineOf_ln (hf f (List.mem_of_getElem? hfk)) (hv v (List.mem_of_getElem? hvk))]
    dsimp only
    rw [idxOf_at hn hfk]
    dsimp only
    have hout : (outK vs (k + 1)).getD k none = none := by
      unfold outK
      rw [List.getD_eq_getElem?_getD, List.getElem?_append_left (by simp), List.getElem?_replicate, if_pos (by omega)]
      rfl
    rw [hout, if_neg (by simp)]
    have hset : (outK vs (k + 1)).set k (some v) = outK vs k := by
      unfold outK
      rw [List.replicate_succ', List.append_assoc, List.set_append_right _ _ (by simp), List.length_replicate, Nat.sub_self]
      congr 1
      rw [List.drop_eq_getElem_cons (show k < vs.length by omega), List.map_cons, (List.getElem?_eq_some_iff.1 hvk).2]
      rfl
    rw [hset]
    exact ih (by omega)
/-- Fields of the lines is the list of the values. -/
theorem fields_lines {F : Frm} (h : check F = 0) {vs : List S} (hl : vs.length = F.fields.length) (hv : ∀ v ∈ vs, Tidy v) :
    fields F ((List.range vs.length).reverse.map fun i => lnS (F.fields.getD i ⟨[], 0, 0, 0, 0, [], false⟩) (vs.getD i [])) = (vs, 0) := by
  have hV := valid_of h
  have hf := hV.few
  unfold fields
  rw [if_pos h, if_neg (by simp; omega)]
  have := put_ok hl (names_nodup h) (fun f hf => (hV.flds f hf).1) hv vs.length (by omega)
  have e : outK vs vs.length = List.replicate F.fields.length none := by unfold outK; rw [List.drop_length, hl]; simp
  rw [e] at this
  rw [this]
  show ((vs.map some).map fun o => o.getD [], (0 : Int)) = (vs, 0)
  rw [List.map_map, show ((fun o : Option S => o.getD []) ∘ some) = id from rfl, List.map_id]
end Go.Proofs.YtkpfehfcgpapiaaGreatDoor.Fm

/-
  Chapter 51, plain: the chapter's example; a text with a long comment.
  No condition.
-/
namespace Go.Proofs.YtkpfehfcgpapiaaGreatDoor.Fm

def nITEM : S := [73, 84, 69, 77]
def nTOTAL : S := [84, 79, 84, 65, 76]
def billF : Frm := ⟨[66, 73, 76, 76], [⟨nITEM, 1, 4, 4, 5, [], false⟩, ⟨nTOTAL, 2, 0, 1000, 0, [], false⟩, ⟨[65], 2, 0, 1000, 0, [], false⟩, ⟨[66], 2, 0, 1000, 0, [], true⟩], [⟨nTOTAL, [[65], [66]]⟩]⟩
def billT : S := [102, 111, 114, 109, 32, 66, 73, 76, 76, 10, 100, 105, 103, 105, 116, 115, 32, 73, 84, 69, 77, 32, 52, 32, 52, 32, 99, 104, 101, 99, 107, 32, 100, 97, 109, 109, 10, 110, 117, 109, 98, 101, 114, 32, 84, 79, 84, 65, 76, 32, 48, 32, 49, 48, 48, 48, 10, 110, 117, 109, 98, 101, 114, 32, 65, 32, 48, 32, 49, 48, 48, 48, 10, 110, 117, 109, 98, 101, 114, 32, 66, 32, 48, 32, 49, 48, 48, 48, 32, 111, 112, 116, 105, 111, 110, 97, 108, 10, 115, 117, 109, 32, 84, 79, 84, 65, 76, 32, 65, 32, 66, 10]
theorem itoa_0 : Lib.itoa 0 = [48] := by rw [show (0 : Int) = ((0 : Nat) : Int) from rfl, itoa_pos, Lib.decDigits_one (by decide)]; rfl
theorem itoa_4 : Lib.itoa 4 = [52] := by rw [show (4 : Int) = ((4 : Nat) : Int) from rfl, itoa_pos, Lib.decDigits_one (by decide)]; rfl
theorem itoa_1000 : Lib.itoa 1000 = [49, 48, 48, 48] := by
  rw [show (1000 : Int) = ((1000 : Nat) : Int) from rfl, itoa_pos, dec_step 1000 (by decide), dec_step (1000 / 10) (by decide), dec_step (1000 / 10 / 10) (by decide), Lib.decDigits_one (by decide)]
  rfl
theorem bill_text : text billF = billT := by
  unfold text lines billF
  simp only [List.map_cons, List.map_nil, fldLine, fldWords, itoa_0, itoa_4, itoa_1000]
  decide +kernel
theorem bill_check : check billF = 0 := by decide +kernel
theorem bill_valid : Valid billF := valid_of bill_check
theorem bill_len : billT.length = 112 := by decide +kernel
theorem bill_parse : parseS billT = some billF := by rw [← bill_text]; exact parse_format bill_check
theorem bill_ver1 : verify billF [[53, 55, 50, 52], [51, 48], [49, 48], [50, 48]] = ([], 0) := by decide +kernel
theorem bill_ver2 : verify billF [[53, 55, 50, 53], [51, 48], [49, 48], []] = ([(nITEM, 8), (nTOTAL, 8)], 0) := by decide +kernel
theorem bill_flds : fields billF [[65, 58, 32, 49, 48], [120], [73, 84, 69, 77, 58, 53, 55, 50, 52, 32], [32, 84, 79, 84, 65, 76, 32, 58, 32, 55, 58, 32]] = ([[53, 55, 50, 52], [55, 58], [49, 48], []], 0) := by decide +kernel
/-- The signs of the comment. -/
def rep : Nat → S
  | 0 => []
  | n + 1 => 35 :: 32 :: rep n
theorem rep_len (n : Nat) : (rep n).length = 2 * n := by
  induction n with
  | zero => rfl
  | succ n ih => simp only [rep, List.length_cons, ih]; omega
theorem rep_add (a b : Nat) : rep (a + b) = rep a ++ rep b := by
  induction a with
  | zero => rw [Nat.zero_add]; rfl
  | succ a ih => rw [Nat.succ_add, rep, rep, ih]; rfl
theorem rep_char (n : Nat) : ∀ c ∈ rep n, c ≠ 10 := by
  induction n with
  | zero => intro c h; cases h
  | succ n ih =>
    intro c h
    rcases List.mem_cons.1 h with rfl | h
    · decide
    rcases List.mem_cons.1 h with rfl | h
    · decide
    · exact ih c h
theorem rep_mute (n m : Nat) (hn : 0 < n) (hm : 0 < m) : Mute ((rep n).take m) := by
  refine ⟨fun c hc => rep_char n c (List.mem_of_mem_take hc), .inr ?_⟩
  obtain ⟨n, rfl⟩ : ∃ k, n = k + 1 := ⟨n - 1, by omega⟩
  obtain ⟨m, rfl⟩ : ∃ k, m = k + 1 := ⟨m - 1, by omega⟩
  rw [rep, List.take_succ_cons]
  cases m with
  | zero =>
    rw [List.take_zero]
    exact ⟨[35], [], rfl, rfl⟩
  | succ m =>
    rw [List.take_succ_cons]
    refine ⟨[35], words ((rep n).take m), ?_, rfl⟩
    unfold words
    rw [wgo_in _ _ _ (by decide), List.nil_append, wgo_stop _ (by simp)]
    rfl
theorem bill_long (n m : Nat) (hn : 0 < n) (hm : 0 < m) : parseS (billT ++ (rep n).take m) = some billF := by
  rw [← bill_text]
  exact parse_text bill_valid (rep_mute n m hn hm)
end Go.Proofs.YtkpfehfcgpapiaaGreatDoor.Fm

/-
  Chapter 51, plain: the issues of a form's values, in order.
  No condition.
-/
namespace Go.Proofs.YtkpfehfcgpapiaaGreatDoor.Fm

theorem issGo_app : ∀ (fs gs : List Fld) (vs us : List S), vs.length = fs.length → issGo (fs ++ gs) (vs ++ us) = issGo fs vs ++ issGo gs us
  | [], gs, [], us, _ => rfl
  | [], _, _ :: _, _, h => by cases h
  | _ :: _, _, [], _, h => by cases h
  | f :: fs, gs, v :: vs, us, h => by
    rw [List.cons_append, List.cons_append, issGo, issGo, issGo_app fs gs vs us (by simpa using h), List.append_assoc]
theorem issGo_at {fs : List Fld} {vs : List S} (hl : vs.length = fs.length) {i : Nat} {f : Fld} {v : S} (hf : fs[i]? = some f) (hv : vs[i]? = some v) :
    issGo (fs.take (i + 1)) (vs.take (i + 1)) = issGo (fs.take i) (vs.take i) ++ fldIss f v := by
  have hi := (List.getElem?_eq_some_iff.1 hf).1
  rw [List.take_add_one, List.take_add_one, hf, hv, issGo_app _ _ _ _ (by rw [List.length_take, List.length_take]; omega)]
  congr 1
  show fldIss f v ++ issGo [] [] = fldIss f v
  rw [issGo, List.append_nil]
  simp
theorem issGo_rest {fs : List Fld} {vs : List S} (hl : vs.length = fs.length) (i : Nat) : issGo fs vs = issGo (fs.take i) (vs.take i) ++ issGo (fs.drop i) (vs.drop i) := by
  rw [← issGo_app _ _ _ _ (by rw [List.length_take, List.length_take]; omega), List.take_append_drop, List.take_append_drop]
theorem fldIss_len (f : Fld) (v : S) : (fldIss f v).length ≤ 1 := by unfold fldIss; split <;> simp
theorem issGo_len : ∀ (fs : List Fld) (vs : List S), (issGo fs vs).length ≤ fs.length
  | [], vs => by unfold issGo; simp
  | f :: fs, [] => by unfold issGo; simp
  | f :: fs, v :: vs => by
    have h1 := fldIss_len f v
    have h2 := issGo_len fs vs
    rw [issGo, List.length_append, List.length_cons]
    omega
theorem sumIss_len (l : List (S × Int)) (r : Sm) : (sumIss l r).length ≤ 1 := by unfold sumIss; split <;> simp
theorem sumIss_mem {l : List (S × Int)} {r : Sm} {x : Iss} (h : x ∈ sumIss l r) : x = (r.total, 8) := by
  unfold sumIss at h
  split at h
  · simpa using h
  · cases h
theorem sums_mem {F : Frm} {l : List (S × Int)} {x : Iss} (h : x ∈ F.sums.flatMap (sumIss l)) : x.2 = 8 ∧ ∃ r ∈ F.sums, r.total = x.1 := by
  obtain ⟨r, hr, hx⟩ := List.mem_flatMap.1 h
  have := sumIss_mem hx
  exact ⟨by rw [this], r, hr, by rw [this]⟩
theorem sums_len (ss : List Sm) (l : List (S × Int)) : (ss.flatMap (sumIss l)).length ≤ ss.length := by
  induction ss with
  | nil => simp
  | cons r ss ih =>
    have := sumIss_len l r
    rw [List.flatMap_cons, List.length_append, List.length_cons]
    omega
theorem verify_len (F : Frm) (vs : List S) : (verify F vs).1.length ≤ F.fields.length + F.sums.length := by
  unfold verify
  split
  · split
    · have h1 := issGo_len F.fields vs
      have h2 := sums_len F.sums (rightGo F.fields vs)
      rw [List.length_append]
      omega
    · simp
  · simp
end Go.Proofs.YtkpfehfcgpapiaaGreatDoor.Fm

/-
  Chapter 51, plain: numbers as the reference reads them.
  No condition.
-/
namespace Go.Proofs.YtkpfehfcgpapiaaGreatDoor.Fm

/-- A number behind a minus sign. -/
theorem written_neg (r : S) (h : 0 < r.length) : written (45 :: r) = (!(r.headD 0 == 48) && written r && !(r.headD 0 == 45)) := by
  obtain ⟨c, r, rfl⟩ : ∃ c l, r = c :: l := by
    cases r with
    | nil => cases h
    | cons c l => exact ⟨c, l, rfl⟩
  have hb : body (45 :: c :: r) = c :: r := rfl
  have hn : neg (45 :: c :: r) = true := rfl
  unfold written
  rw [hb, hn, List.headD_cons]
  by_cases h45 : c = 45
  · subst h45
    have : ((45 : UInt8) :: r).all dg = false := by rw [List.all_cons]; rfl
    rw [this]
    simp
  · have hn2 : neg (c :: r) = false := by unfold neg; rw [List.headD_cons, beq_eq_false_iff_ne]; exact h45
    have hb2 : body (c :: r) = c :: r := by unfold body; rw [hn2]; rfl
    rw [hb2, hn2, List.headD_cons]
    have : (c == 45) = false := beq_eq_false_iff_ne.2 h45
    rw [this]
    simp only [List.length_cons, Nat.zero_lt_succ, decide_true, Bool.true_and, Bool.or_true, Bool.and_true, Bool.or_false, Bool.not_false]
    cases (c == 48) <;> simp
/-- A number without a minus sign. -/
theorem written_pos (s : S) (h : ¬ (1 < s.length ∧ s.headD 0 = 45)) : written s = (s.all dg && (decide (s.length = 1) || (decide (1 < s.length) && !(s.headD 0 == 48)))) := by
  by_cases hn : neg s = true
  · have h45 : s.headD 0 = 45 := by unfold neg at hn; exact beq_iff_eq.1 hn
    cases s with
    | nil => exact absurd h45 (by decide)
    | cons c r =>
      have hc : c = 45 := h45
      subst hc
      have hr : r = [] := by
        cases r with
        | nil => rfl
        | cons d t => exact absurd ⟨by simp, rfl⟩ h
      subst hr
      rfl
  · have hn : neg s = false := by simpa using hn
    have hb : body s = s := by unfold body; rw [hn]; rfl
    unfold written
    rw [hb, hn]
    cases s with
    | nil => rfl
    | cons c r =>
      simp only [List.length_cons, Nat.zero_lt_succ, decide_true, Bool.true_and, Bool.or_false, List.headD_cons]
      cases r with
      | nil => simp
      | cons d t => simp
def sat (n : Nat) (c : UInt8) : Nat := min 2000000000000000 (10 * n + (c.toNat - 48))
/-- What the reference reckons: the value, cut at twice the greatest one. -/
theorem sat_fold (s : S) : ∀ n m : Nat, m = min 2000000000000000 n → s.foldl sat m = min 2000000000000000 (s.foldl (fun n c => 10 * n + (c.toNat - 48)) n) := by
  induction s with
  | nil => intro n m h; exact h
  | cons c r ih =>
    intro n m h
    rw [List.foldl_cons, List.foldl_cons]
    refine ih _ _ ?_
    unfold sat
    subst h
    omega
theorem sat_nat (s : S) : s.foldl sat 0 = min 2000000000000000 (natOf s) := sat_fold s 0 0 rfl
/-- 'integer' of the reference. -/
def intX (s : S) : Int := if neg s then -(min 2000000000000000 (natOf (body s)) : Nat) else (min 2000000000000000 (natOf (body s)) : Nat)
theorem intX_lo (s : S) (m : Int) (h1 : -great ≤ m) (h2 : m ≤ great) : (intX s < m ↔ valOf s < m) ∧ (m < intX s ↔ m < valOf s) := by
  unfold great at h1 h2
  unfold intX valOf
  by_cases hn : neg s = true
  · rw [if_pos hn, if_pos hn]; omega
  · rw [if_neg hn, if_neg hn]; omega
theorem capOf_lo (s : S) (m : Int) (h1 : -great ≤ m) (h2 : m ≤ great) : (capOf s < m ↔ valOf s < m) ∧ (m < capOf s ↔ m < valOf s) := by
  unfold great at h1 h2
  unfold capOf valOf great
  by_cases hn : neg s = true
  · rw [if_pos hn, if_pos hn]; omega
  · rw [if_neg hn, if_neg hn]; omega
theorem capOf_in (s : S) (h1 : -great ≤ valOf s) (h2 : valOf s ≤ great) : capOf s = valOf s ∧ intX s = valOf s := by
  unfold great at h1 h2
  unfold capOf intX
  unfold valOf great at *
  by_cases hn : neg s = true
  · rw [if_pos hn] at h1 h2; rw [if_pos hn, if_pos hn, if_pos hn]; omega
  · rw [if_neg hn] at h1 h2; rw [if_neg hn, if_neg hn, if_neg hn]; omega
theorem natOf_cons (c : UInt8) (s : S) : natOf (c :: s) = (c.toNat - 48) * 10 ^ s.length + natOf s := by
  have key : ∀ (s : S) (n : Nat), s.foldl (fun n c => 10 * n + (c.toNat - 48)) n = n * 10 ^ s.length + natOf s := by
    intro s
    induction s with
    | nil => intro n; simp [natOf]
    | cons d t ih =>
      intro n
      unfold natOf
      rw [List.foldl_cons, List.foldl_cons, ih, ih (10 * 0 + (d.toNat - 48)), List.length_cons, Nat.pow_succ]
      simp only [Nat.mul_zero, Nat.zero_add, Nat.add_mul]
      rw [Nat.add_assoc, show 10 * n * 10 ^ t.length = n * (10 ^ t.length * 10) by rw [Nat.mul_comm 10 n, Nat.mul_assoc, Nat.mul_comm 10]]
  have := key s (10 * 0 + (c.toNat - 48))
  have e : natOf (c :: s) = s.foldl (fun n c => 10 * n + (c.toNat - 48)) (10 * 0 + (c.toNat - 48)) := rfl
  rw [e, this, Nat.mul_zero, Nat.zero_add]
/-- A number of more than sixteen digits lies beyond the greatest one. -/
theorem natOf_long (s : S) (h : 16 < s.length) (h1 : s.headD 0 ≠ 48) (h2 : s.all dg = true) : 1000000000000001 ≤ natOf s := by
  cases s with
  | nil => cases h
  | cons c r =>
    rw [List.length_cons] at h
    rw [List.all_cons, Bool.and_eq_true] at h2
    have hc := h2.1
    unfold dg at hc
    rw [Bool.and_eq_true, decide_eq_true_eq, decide_eq_true_eq] at hc
    have h3 : c.toNat ≠ 48 := fun e => h1 (UInt8.toNat_inj.1 (by rw [List.headD_cons, e]; rfl))
    rw [natOf_cons]
    have hp : 10 ^ 16 ≤ 10 ^ r.length := Nat.pow_le_pow_right (by decide) (by omega)
    have : 1 * 10 ^ r.length ≤ (c.toNat - 48) * 10 ^ r.length := Nat.mul_le_mul_right _ (by omega)
    omega
theorem natOf_lt (s : S) (h2 : s.all dg = true) : natOf s < 10 ^ s.length := by
  induction s with
  | nil => decide
  | cons c r ih =>
    rw [List.all_cons, Bool.and_eq_true] at h2
    have hc := h2.1
    unfold dg at hc
    rw [Bool.and_eq_true, decide_eq_true_eq, decide_eq_true_eq] at hc
    have hi := ih h2.2
    rw [natOf_cons, List.length_cons, Nat.pow_succ]
    have : (c.toNat - 48) * 10 ^ r.length ≤ 9 * 10 ^ r.length := Nat.mul_le_mul_right _ (by omega)
    omega
/-- The core of a value of the kind digits, byte by byte. -/
theorem core_all (f : Fld) (s : S) : (core f s).all dg = true ↔ ∀ i (h : i < s.length), dg s[i] = true ∨ (i + 1 = s.length ∧ s[i] = 88 ∧ (f.ck = 3 ∨ f.ck = 8)) := by
  unfold core
  by_cases hc : (f.ck = 3 ∨ f.ck = 8) ∧ s.getLast? = some 88
  · rw [if_pos hc, List.all_eq_true]
    have hne : s ≠ [] := by rintro rfl; cases hc.2
    have hl : s.getLast hne = 88 := by have := hc.2; rw [List.getLast?_eq_some_getLast hne] at this; exact Option.some.inj this
    constructor
    · intro h i hi
      by_cases hi2 : i + 1 = s.length
      · refine .inr ⟨hi2, ?_, hc.1⟩
        rw [← hl, List.getLast_eq_getElem]
        congr 1; omega
      · left
        have : s[i] = s.dropLast[i]'(by rw [List.length_dropLast]; omega) := by rw [List.getElem_dropLast]
        rw [this]
        exact h _ (List.getElem_mem _)
    · intro h c hcm
      obtain ⟨i, hi, rfl⟩ := List.getElem_of_mem hcm
      rw [List.length_dropLast] at hi
      rw [List.getElem_dropLast]
      rcases h i (by omega) with h | ⟨h, _⟩
      · exact h
      · omega
  · rw [if_neg hc, List.all_eq_true]
    constructor
    · intro h i hi
      exact .inl (h _ (List.getElem_mem _))
    · intro h c hcm
      obtain ⟨i, hi, rfl⟩ := List.getElem_of_mem hcm
      rcases h i hi with h | ⟨h1, h2, h3⟩
      · exact h
      · refine absurd ⟨h3, ?_⟩ hc
        have hne : s ≠ [] := by rintro rfl; cases hi
        rw [List.getLast?_eq_some_getLast hne, List.getLast_eq_getElem, ← h2]
        congr 2; omega
end Go.Proofs.YtkpfehfcgpapiaaGreatDoor.Fm

/-
  Chapter 51, plain: the reference's Verify and Fields.
  No condition.
-/
namespace Go.Proofs.YtkpfehfcgpapiaaGreatDoor.Fm

/-- The names of the fields with an issue. -/
def wrongGo : List Fld → List S → List S
  | f :: fs, v :: vs => (if value f v = 0 then [] else [f.name]) ++ wrongGo fs vs
  | _, _ => []
/-- The place of the number field with a name. -/
def numIdx (fs : List Fld) (s : S) : Option Nat := fs.findIdx? fun f => f.name == s && f.op == 2
def amtV (v : S) : Int := if v.length = 0 then 0 else intX v
def amt (fs : List Fld) (vs : List S) (s : S) : Int := amtV (vs.getD ((numIdx fs s).getD 0) [])
def wholeX (wr : List S) (r : Sm) : Bool := !wr.contains r.total && r.parts.all fun p => !wr.contains p
def addsX (fs : List Fld) (vs : List S) (r : Sm) : Int := r.parts.foldl (fun n p => n - amt fs vs p) (amt fs vs r.total)
def sumIssX (fs : List Fld) (vs : List S) (wr : List S) (r : Sm) : List Iss := if wholeX wr r = true ∧ addsX fs vs r ≠ 0 then [(r.total, 8)] else []

theorem find_name {fs : List Fld} (hn : (fs.map (·.name)).Nodup) {i : Nat} {f : Fld} (hi : fs[i]? = some f) (P : Fld → Bool) (hP : P f = true) : fs.findIdx? (fun g => g.name == f.name && P g) = some i := by
  rw [List.findIdx?_eq_some_iff_getElem]
  obtain ⟨hil, he⟩ := List.getElem?_eq_some_iff.1 hi
  refine ⟨hil, by rw [he, hP]; simp, fun j hj => ?_⟩
  have hjl : j < fs.length := by omega
  intro hc
  rw [Bool.and_eq_true, beq_iff_eq] at hc
  have h1 : (fs.map (·.name))[j]'(by rw [List.length_map]; exact hjl) = (fs.map (·.name))[i]'(by rw [List.length_map]; exact hil) := by
    rw [List.getElem_map, List.getElem_map, he]; exact hc.1
  have := (List.getElem_inj hn).1 h1
  omega
theorem numIdx_at {fs : List Fld} (hn : (fs.map (·.name)).Nodup) {i : Nat} {f : Fld} (hi : fs[i]? = some f) (h2 : f.op = 2) : numIdx fs f.name = some i :=
  find_name hn hi (fun g => g.op == 2) (by rw [h2]; rfl)
theorem look_none {fs : List Fld} : ∀ {vs : List S} {n : S}, n ∉ fs.map (·.name) → look (rightGo fs vs) n = none := by
  induction fs with
  | nil => intro vs n _; cases vs <;> rfl
  | cons f fs ih =>
    intro vs n h
    cases vs with
    | nil => rfl
    | cons v vs =>
      rw [List.map_cons, List.mem_cons, not_or] at h
      have := ih (vs := vs) h.2
      unfold rightGo
      split
      · unfold look at this ⊢
        rw [List.singleton_append, List.find?_cons, show ((f.name, if v.length = 0 then (0 : Int) else valOf v).1 == n) = false from beq_eq_false_iff_ne.2 (fun e => h.1 e.symm)]
        exact this
      · exact this
theorem look_at {fs : List Fld} : ∀ {vs : List S}, vs.length = fs.length → (fs.map (·.name)).Nodup → ∀ {i : Nat} {f : Fld} {v : S}, fs[i]? = some f → vs[i]? = some v → f.op = 2 →
    look (rightGo fs vs) f.name = if value f v = 0 then some (if v.length = 0 then 0 else valOf v) else none := by
  induction fs with
  | nil => intro vs _ _ i f v h; simp at h
  | cons g fs ih =>
    intro vs hl hn i f v hf hv h2
    cases vs with
    | nil => cases hl
    | cons u vs =>
      rw [List.map_cons, List.nodup_cons] at hn
      have hl : vs.length = fs.length := by simpa using hl
      cases i with
      | zero =>
        obtain rfl : g = f := by simpa using hf
        obtain rfl : u = v := by simpa using hv
        unfold rightGo
        by_cases h0 : value g u = 0
        · rw [if_pos ⟨h0, h2⟩, if_pos h0]
          unfold look
          rw [List.singleton_append, List.find?_cons, show ((g.name, if u.length = 0 then (0 : Int) else valOf u).1 == g.name) = true from beq_self_eq_true _]
          rfl
        · rw [if_neg (fun h => h0 h.1), if_neg h0, List.nil_append]
          exact look_none hn.1
      | succ i =>
        have hf : fs[i]? = some f := by simpa using hf
        have hv : vs[i]? = some v := by simpa using hv
        have hne : g.name ≠ f.name := fun e => hn.1 (by rw [e]; exact List.mem_map.2 ⟨f, List.mem_of_getElem? hf, rfl⟩)
        have := ih hl hn.2 hf hv h2
        unfold rightGo
        split
        · unfold look at this ⊢
          rw [List.singleton_append, List.find?_cons, show ((g.name, if u.length = 0 then (0 : Int) else valOf u).1 == f.name) = false from beq_eq_false_iff_ne.2 hne]
          exact this
        · exact this
theorem wrong_none {fs : List Fld} : ∀ {vs : List S} {n : S}, n ∉ fs.map (·.name) → n ∉ wrongGo fs vs := by
  induction fs with
  | nil => intro vs n _ h; cases vs <;> cases h
  | cons f fs ih =>
    intro vs n h hm
    cases vs with
    | nil => cases hm
    | cons v vs =>
      rw [List.map_cons, List.mem_cons, not_or] at h
      unfold wrongGo at hm
      rcases List.mem_append.1 hm with hm | hm
      · split at hm
        · cases hm
        · exact h.1 (by simpa using hm)
      · exact ih h.2 hm
theorem wrong_at {fs : List Fld} : ∀ {vs : List S}, vs.length = fs.length → (fs.map (·.name)).Nodup → ∀ {i : Nat} {f : Fld} {v : S}, fs[i]? = some f → vs[i]? = some v →
    (f.name ∈ wrongGo fs vs ↔ value f v ≠ 0) := by
  induction fs with
  | nil => intro vs _ _ i f v h; simp at h
  | cons g fs ih =>
    intro vs hl hn i f v hf hv
    cases vs with
    | nil => cases hl
    | cons u vs =>
      rw [List.map_cons, List.nodup_cons] at hn
      have hl : vs.length = fs.length := by simpa using hl
      unfold wrongGo
      rw [List.mem_append]
      cases i with
      | zero =>
        obtain rfl : g = f := by simpa using hf
        obtain rfl : u = v := by simpa using hv
        have := wrong_none (vs := vs) hn.1
        by_cases h0 : value g u = 0
        · rw [if_pos h0]; simp [this, h0]
        · rw [if_neg h0]; simp [h0]
      | succ i =>
        have hf : fs[i]? = some f := by simpa using hf
        have hv : vs[i]? = some v := by simpa using hv
        have hne : g.name ≠ f.name := fun e => hn.1 (by rw [e]; exact List.mem_map.2 ⟨f, List.mem_of_getElem? hf, rfl⟩)
        rw [← ih hl hn.2 hf hv]
        constructor
        · rintro (h | h)
          · split at h
            · cases h
            · exact absurd (by simpa using h) (fun e : f.name = g.name => hne e.symm)
          · exact h
        · exact .inr
/-- The value of a number field without an issue lies between the bounds. -/
theorem num_in {f : Fld} {v : S} (h2 : f.op = 2) (h : value f v = 0) (h0 : v.length ≠ 0) : -great ≤ valOf v ∧ valOf v ≤ great := by
  unfold value at h
  split at h
  · cases h
  · rename_i hm
    rw [if_neg (by omega), if_neg (by omega), if_neg (by omega), if_neg (by omega)] at h
    have hm : memE f = 0 := by
      by_cases e : memE f = 0
      · exact e
      · exact absurd (.inr e) hm
    unfold memE at hm
    rw [if_neg (by omega), if_neg (by omega), if_neg (by omega)] at hm
    split at hm
    · split at hm
      · rename_i hb
        unfold bndB at hb
        rw [if_pos h2] at hb
        unfold within at hb
        simp only [Bool.and_eq_true, decide_eq_true_eq] at hb
        unfold numV at h
        split at h
        · split at h
          · cases h
          · omega
        · cases h
      · cases hm
    · cases hm
/-- What a name of a number field is worth on both sides. -/
theorem amt_look {F : Frm} {vs : List S} (hV : Valid F) (hn : (F.fields.map (·.name)).Nodup) (hl : vs.length = F.fields.length) {n : S} (h : n ∈ nums F.fields) :
    (look (rightGo F.fields vs) n).isSome = !(wrongGo F.fields vs).contains n ∧ ((look (rightGo F.fields vs) n).isSome = true → (look (rightGo F.fields vs) n).getD 0 = amt F.fields vs n) := by
  unfold nums at h
  obtain ⟨f, hf, rfl⟩ := List.mem_map.1 h
  rw [List.mem_filter, beq_iff_eq] at hf
  obtain ⟨hf, h2⟩ := hf
  obtain ⟨i, hi⟩ := List.getElem?_of_mem hf
  obtain ⟨v, hv⟩ : ∃ v, vs[i]? = some v := ⟨_, List.getElem?_eq_getElem (by have := (List.getElem?_eq_some_iff.1 hi).1; omega)⟩
  have hL := look_at hl hn hi hv h2
  have hW := wrong_at hl hn hi hv
  rw [hL]
  by_cases h0 : value f v = 0
  · rw [if_pos h0]
    have : (wrongGo F.fields vs).contains f.name = false := by
      rw [Bool.eq_false_iff]; intro hc
      exact hW.1 (List.contains_iff_mem.1 hc) h0
    refine ⟨by rw [this]; rfl, fun _ => ?_⟩
    unfold amt
    rw [numIdx_at hn hi h2]
    have e : vs.getD ((some i).getD 0) [] = v := by
      rw [Option.getD_some, List.getD_eq_getElem?_getD, hv]; rfl
    rw [e]
    unfold amtV
    rw [Option.getD_some]
    by_cases h3 : v.length = 0
    · rw [if_pos h3, if_pos h3]
    · rw [if_neg h3, if_neg h3]
      obtain ⟨a, b⟩ := num_in h2 h0 h3
      exact (capOf_in v a b).2.symm
  · rw [if_neg h0]
    have : (wrongGo F.fields vs).contains f.name = true := List.contains_iff_mem.2 (hW.2 h0)
    exact ⟨by rw [this]; rfl, fun h => by cases h⟩
theorem part_false (l : List (S × Int)) : ∀ (ps : List S) (t : Int), (partGo l t false ps).2 = false
  | [], _ => rfl
  | p :: ps, t => by unfold partGo; rw [Bool.false_and]; exact part_false l ps _
theorem part_look {l : List (S × Int)} {wr : List S} {am : S → Int} : ∀ (ps : List S) (t : Int), (∀ p ∈ ps, (look l p).isSome = !wr.contains p ∧ ((look l p).isSome = true → (look l p).getD 0 = am p)) →
    (partGo l t true ps).2 = (ps.all fun p => !wr.contains p) ∧ ((ps.all fun p => !wr.contains p) = true → (partGo l t true ps).1 = ps.foldl (fun n p => n - am p) t)
  | [], t, _ => ⟨rfl, fun _ => rfl⟩
  | p :: ps, t, h => by
    have h1 := h p (List.mem_cons_self ..)
    unfold partGo
    rw [Bool.true_and, List.all_cons, List.foldl_cons]
    cases hs : (look l p).isSome with
    | false =>
      rw [hs] at h1
      rw [part_false, ← h1.1]
      exact ⟨rfl, fun h => by cases h⟩
    | true =>
      rw [hs] at h1
      rw [← h1.1, Bool.true_and, h1.2 rfl]
      exact part_look ps _ fun q hq => h q (List.mem_cons_of_mem _ hq)
/-- A sum rule's issue on both sides. -/
theorem sum_same {F : Frm} {vs : List S} (hc : check F = 0) (hl : vs.length = F.fields.length) {r : Sm} (hr : r ∈ F.sums) : sumIssX F.fields vs (wrongGo F.fields vs) r = sumIss (rightGo F.fields vs) r := by
  have hV := valid_of hc
  have hn := names_nodup hc
  obtain ⟨ht, _, hp⟩ := hV.sums r hr
  have h1 := amt_look hV hn hl ht
  have h2 := fun p (hm : p ∈ r.parts) => amt_look hV hn hl (hp p hm)
  unfold sumIssX sumIss wholeX addsX
  cases hs : (look (rightGo F.fields vs) r.total).isSome with
  | false =>
    rw [hs] at h1
    rw [← h1.1, part_false]
    rfl
  | true =>
    rw [hs] at h1
    rw [← h1.1, Bool.true_and, h1.2 rfl]
    obtain ⟨a, b⟩ := part_look r.parts (amt F.fields vs r.total) h2
    rw [a]
    by_cases hw : (r.parts.all fun p => !(wrongGo F.fields vs).contains p) = true
    · rw [b hw]
    · rw [if_neg (fun h => hw h.1), if_neg (fun h => hw h.1)]
end Go.Proofs.YtkpfehfcgpapiaaGreatDoor.Fm

/-
  Chapter 51, plain: the reference's Fields: field by field.
  No condition.
-/
namespace Go.Proofs.YtkpfehfcgpapiaaGreatDoor.Fm

/-- What the lines say of one name: the value met; nothing, where two lines belong to it. -/
def oneGo (n : S) (o : Option S) : List S → Option (Option S)
  | [] => some o
  | l :: r => match lineOf l with
    | none => oneGo n o r
    | some (m, v) => if m = n then (if o.isSome then none else oneGo n (some v) r) else oneGo n o r
/-- What stands behind the lines, told by what the program makes of them. -/
def PutOne (fs : List Fld) (out : List (Option S)) (lines : List S) : Option (List (Option S)) → Prop
  | some out' => out'.length = fs.length ∧ ∀ (i : Nat) (f : Fld), fs[i]? = some f → oneGo f.name (out.getD i none) lines = some (out'.getD i none)
  | none => ∃ (i : Nat) (f : Fld), fs[i]? = some f ∧ oneGo f.name (out.getD i none) lines = none
theorem PutOne.step {fs : List Fld} {out out2 : List (Option S)} {l : S} {r : List S} {res : Option (List (Option S))} (h : PutOne fs out2 r res)
    (he : ∀ (i : Nat) (f : Fld), fs[i]? = some f → oneGo f.name (out.getD i none) (l :: r) = oneGo f.name (out2.getD i none) r) : PutOne fs out (l :: r) res := by
  cases res with
  | none =>
    obtain ⟨i, f, hf, h⟩ := h
    exact ⟨i, f, hf, by rw [he i f hf]; exact h⟩
  | some o =>
    obtain ⟨h1, h2⟩ := h
    exact ⟨h1, fun i f hf => by rw [he i f hf]; exact h2 i f hf⟩
theorem idxOf_none {fs : List Fld} {m : S} (h : idxOf fs m = none) : ∀ f ∈ fs, f.name ≠ m := by
  intro f hf e
  unfold idxOf at h
  rw [List.findIdx?_eq_none_iff] at h
  have := h f hf
  rw [e] at this
  simp at this
theorem idxOf_some {fs : List Fld} {m : S} {i : Nat} (h : idxOf fs m = some i) : ∃ f, fs[i]? = some f ∧ f.name = m := by
  unfold idxOf at h
  rw [List.findIdx?_eq_some_iff_getElem] at h
  obtain ⟨hi, h1, _⟩ := h
  exact ⟨fs[i], List.getElem?_eq_getElem hi, by simpa using h1⟩
theorem put_one {fs : List Fld} (hn : (fs.map (·.name)).Nodup) : ∀ (lines : List S) (out : List (Option S)), out.length = fs.length → PutOne fs out lines (putGo fs out lines)
  | [], out, hl => ⟨hl, fun _ _ _ => rfl⟩
  | l :: r, out, hl => by
    unfold putGo
    cases hL : lineOf l with
    | none =>
      refine (put_one hn r out hl).step fun i f hf => ?_
      rw [oneGo, hL]
    | some p =>
      obtain ⟨m, v⟩ := p
      dsimp only
      cases hI : idxOf fs m with
      | none =>
        refine (put_one hn r out hl).step fun i f hf => ?_
        rw [oneGo, hL]
        dsimp only
        rw [if_neg (fun e => idxOf_none hI f (List.mem_of_getElem? hf) e.symm)]
      | some i =>
        obtain ⟨f, hf, hfm⟩ := idxOf_some hI
        dsimp only
        by_cases ho : (out.getD i none).isSome = true
        · rw [if_pos ho]
          refine ⟨i, f, hf, ?_⟩
          rw [oneGo, hL]
          dsimp only
          rw [if_pos hfm.symm, if_pos ho]
        · rw [if_neg ho]
          refine (put_one hn r (out.set i (some v)) (by rw [List.length_set]; exact hl)).step fun j g hg => ?_
          rw [oneGo, hL]
          dsimp only
          have hil : i < out.length := by rw [hl]; exact (List.getElem?_eq_some_iff.1 hf).1
          by_cases hj : j = i
          · subst hj
            obtain rfl : g = f := by rw [hf] at hg; exact (Option.some.inj hg).symm
            rw [if_pos hfm.symm, if_neg ho]
            congr 1
            rw [List.getD_eq_getElem?_getD, List.getElem?_set_self hil]; rfl
          · rw [if_neg]
            · congr 1
              rw [List.getD_eq_getElem?_getD, List.getD_eq_getElem?_getD, List.getElem?_set_ne (fun e => hj e.symm)]
            · intro e
              have := idxOf_at hn hg
              rw [← e, hI] at this
              exact hj (Option.some.inj this).symm
/-- The reference's result, from what it met. -/
theorem fields_one {F : Frm} (hc : check F = 0) {lines : List S} (hl : lines.length ≤ 4096) :
    (∀ os : List S, os.length = F.fields.length → (∀ (i : Nat) (f : Fld), F.fields[i]? = some f → ∃ o, oneGo f.name none lines = some o ∧ os[i]? = some (o.getD [])) → fields F lines = (os, 0)) ∧
    ((∃ (i : Nat) (f : Fld), F.fields[i]? = some f ∧ oneGo f.name none lines = none) → fields F lines = ([], 30)) := by
  have hn := names_nodup hc
  have hp := put_one hn lines (List.replicate F.fields.length none) List.length_replicate
  have hg : ∀ i, (List.replicate F.fields.length (none : Option S)).getD i none = none := fun i => by
    rw [List.getD_eq_getElem?_getD, List.getElem?_replicate]; split <;> rfl
  unfold fields
  rw [if_pos hc, if_neg (by omega)]
  constructor
  · intro os hos h
    cases hP : putGo F.fields (List.replicate F.fields.length none) lines with
    | none =>
      rw [hP] at hp
      obtain ⟨i, f, hf, h1⟩ := hp
      obtain ⟨o, h2, _⟩ := h i f hf
      rw [hg] at h1
      rw [h1] at h2
      cases h2
    | some out =>
      rw [hP] at hp
      obtain ⟨h1, h2⟩ := hp
      dsimp only
      congr 1
      refine List.ext_getElem? fun i => ?_
      by_cases hi : i < F.fields.length
      · have hf := List.getElem?_eq_getElem hi
        obtain ⟨o, h3, h4⟩ := h i _ hf
        have h5 := h2 i _ hf
        rw [hg, h3] at h5
        rw [h4, List.getElem?_map]
        have h6 : out[i]? = some out[i] := List.getElem?_eq_getElem (by omega)
        have h7 := Option.some.inj h5
        rw [List.getD_eq_getElem?_getD, h6, Option.getD_some] at h7
        rw [h6, h7]; rfl
      · rw [List.getElem?_eq_none (by rw [List.length_map]; omega), List.getElem?_eq_none (by omega)]
  · rintro ⟨i, f, hf, h⟩
    cases hP : putGo F.fields (List.replicate F.fields.length none) lines with
    | none => rfl
    | some out =>
      rw [hP] at hp
      have := hp.2 i f hf
      rw [hg, h] at this
      cases this
end Go.Proofs.YtkpfehfcgpapiaaGreatDoor.Fm

/-
  Chapter 51, plain: the reference's texts and corrections.
  No condition.
-/
namespace Go.Proofs.YtkpfehfcgpapiaaGreatDoor.Fm

/-- Words, each behind a space. -/
def spAll (l : List S) : S := l.flatMap fun s => 32 :: s
theorem join_sp : ∀ (l : List S) (a : S), joinSp (a :: l) = a ++ spAll l
  | [], a => by simp [joinSp, spAll]
  | b :: l, a => by
    rw [joinSp, join_sp l b]
    · simp [spAll]
    · exact fun h => by cases h
theorem spAll_app (a b : List S) : spAll (a ++ b) = spAll a ++ spAll b := by simp [spAll]
theorem spAll_snoc (a : List S) (s : S) : spAll (a ++ [s]) = spAll a ++ 32 :: s := by simp [spAll]
/-- The line of a field, piece by piece. -/
theorem fldLine_eq (f : Fld) : fldLine f = kindNm f.op ++ 32 :: f.name ++ (if f.op = 4 then spAll f.chs else 32 :: Lib.itoa f.mn ++ 32 :: Lib.itoa f.mx) ++ (if f.ck = 0 then [] else 32 :: tChk ++ 32 :: sysNm f.ck) ++ (if f.opt then 32 :: tOpt else []) := by
  have e : fldWords f = kindNm f.op :: ([f.name] ++ (if f.op = 4 then f.chs else [Lib.itoa f.mn, Lib.itoa f.mx]) ++ (if f.ck = 0 then [] else [tChk, sysNm f.ck]) ++ (if f.opt then [tOpt] else [])) := by
    unfold fldWords; simp
  unfold fldLine
  rw [e, join_sp, spAll_app, spAll_app, spAll_app]
  have e1 : spAll [f.name] = 32 :: f.name := by simp [spAll]
  have e2 : spAll (if f.op = 4 then f.chs else [Lib.itoa f.mn, Lib.itoa f.mx]) = (if f.op = 4 then spAll f.chs else 32 :: Lib.itoa f.mn ++ 32 :: Lib.itoa f.mx) := by split <;> simp [spAll]
  have e3 : spAll (if f.ck = 0 then [] else [tChk, sysNm f.ck]) = (if f.ck = 0 then [] else 32 :: tChk ++ 32 :: sysNm f.ck) := by split <;> simp [spAll]
  have e4 : spAll (if f.opt = true then [tOpt] else []) = (if f.opt = true then 32 :: tOpt else []) := by split <;> simp [spAll]
  rw [e1, e2, e3, e4]
  simp only [List.append_assoc]
theorem sumLine_eq (r : Sm) (h : r.parts ≠ []) : sumLine r = tSum ++ 32 :: r.total ++ spAll r.parts := by
  unfold sumLine
  cases hp : r.parts with
  | nil => exact absurd hp h
  | cons a l =>
    rw [join_sp]
    simp [spAll]
/-- Digits before the last ones. -/
def preD (n : Nat) : S := if 10 ≤ n then Lib.decDigits (n / 10) else []
theorem preD_step (n : Nat) (h : 10 ≤ n) (s : S) : preD n ++ s = preD (n / 10) ++ (UInt8.ofNat (48 + n / 10 % 10) :: s) := by
  unfold preD
  rw [if_pos h]
  by_cases h2 : 10 ≤ n / 10
  · rw [if_pos h2, dec_step (n / 10) (by omega)]; simp
  · rw [if_neg h2, Lib.decDigits_one (by omega), Nat.mod_eq_of_lt (by omega)]; rfl
theorem preD_first (n : Nat) : Lib.decDigits n = preD n ++ [UInt8.ofNat (48 + n % 10)] := by
  unfold preD
  by_cases h : 10 ≤ n
  · rw [if_pos h, dec_step n (by omega)]
  · rw [if_neg h, Lib.decDigits_one (by omega), Nat.mod_eq_of_lt (by omega)]; rfl
theorem preD_last (n : Nat) (h : n < 10) : preD n = [] := by unfold preD; rw [if_neg (by omega)]
/-- The reference's corrections: how many are right, and the last right one. -/
def cntR (f : Fld) (v : S) (l : List S) : Nat × S := l.foldl (fun p t => if value f t = 0 then (p.1 + 1, t) else p) (0, v)
theorem cntR_snoc (f : Fld) (v : S) (l : List S) (t : S) : cntR f v (l ++ [t]) = if value f t = 0 then ((cntR f v l).1 + 1, t) else cntR f v l := by unfold cntR; rw [List.foldl_append]; rfl
theorem cnt_from (f : Fld) : ∀ (l : List S) (n : Nat) (u : S), l.foldl (fun p t => if value f t = 0 then (p.1 + 1, t) else p) (n, u) = (n + (l.filter fun t => value f t == 0).length, ((l.filter fun t => value f t == 0).getLast?).getD u)
  | [], n, u => rfl
  | t :: l, n, u => by
    rw [List.foldl_cons, List.filter_cons]
    by_cases h : value f t = 0
    · rw [if_pos h, if_pos (by rw [h]; rfl), cnt_from f l, List.length_cons, List.getLast?_cons]
      congr 1
      omega
    · rw [if_neg h, if_neg (by simpa using h)]
      exact cnt_from f l n u
theorem fix_cnt (f : Fld) (v : S) (h : f.op = 1 ∧ f.ck ≠ 0 ∧ (value f v = 6 ∨ value f v = 8)) : fix f v = if (cntR f v (Cd.cor f.ck v).1).1 = 1 then (cntR f v (Cd.cor f.ck v).1).2 else v := by
  unfold fix cntR
  rw [if_pos h, cnt_from, Nat.zero_add]
  unfold rightOnes
  cases hl : (Cd.cor f.ck v).1.filter fun t => value f t == 0 with
  | nil => rfl
  | cons a l =>
    cases l with
    | nil => rfl
    | cons b l => rw [if_neg (by simp)]
theorem fix_not (f : Fld) (v : S) (h : ¬ (f.op = 1 ∧ f.ck ≠ 0 ∧ (value f v = 6 ∨ value f v = 8))) : fix f v = v := by unfold fix; rw [if_neg h]
theorem fixGo_at : ∀ {fs : List Fld} {vs : List S}, vs.length = fs.length → ∀ {i : Nat} {f : Fld} {v : S}, fs[i]? = some f → vs[i]? = some v → (fixGo fs vs)[i]? = some (fix f v)
  | [], _, _, i, _, _, h, _ => by simp at h
  | _ :: _, [], hl, _, _, _, _, _ => by cases hl
  | g :: fs, u :: vs, hl, 0, f, v, hf, hv => by
    obtain rfl : g = f := by simpa using hf
    obtain rfl : u = v := by simpa using hv
    rfl
  | g :: fs, u :: vs, hl, i + 1, f, v, hf, hv => by
    have := fixGo_at (fs := fs) (vs := vs) (by simpa using hl) (i := i) (f := f) (v := v) (by simpa using hf) (by simpa using hv)
    unfold fixGo
    simpa using this
theorem fixGo_len : ∀ {fs : List Fld} {vs : List S}, vs.length = fs.length → (fixGo fs vs).length = fs.length
  | [], [], _ => rfl
  | [], _ :: _, h => by cases h
  | _ :: _, [], h => by cases h
  | f :: fs, v :: vs, h => by
    unfold fixGo
    rw [List.length_cons, List.length_cons, fixGo_len (by simpa using h)]
end Go.Proofs.YtkpfehfcgpapiaaGreatDoor.Fm

/-
  Chapter 51, plain: the chapter's examples.
  No condition.
-/
namespace Go.Proofs.YtkpfehfcgpapiaaGreatDoor.Fm

def s5724 : S := [53, 55, 50, 52]
def s5q24 : S := [53, 63, 50, 52]
def dayF : Fld := ⟨[68], 5, 1, 9999, 0, [], false⟩
theorem ex_repair : repair billF [s5q24, [51, 48], [49, 48], []] = ([s5724, [51, 48], [49, 48], []], 0) := by decide +kernel
theorem ex_day : value dayF [50, 48, 50, 52, 45, 48, 50, 45, 50, 57] = 0 ∧ value dayF [49, 57, 48, 48, 45, 48, 50, 45, 50, 57] = 3 ∧ value dayF [50, 48, 50, 52, 45, 50, 45, 50, 57] = 9 := by decide +kernel
end Go.Proofs.YtkpfehfcgpapiaaGreatDoor.Fm

/-
  Chapter 51, plain: forms of about as many fields as there may be.
  No condition.
-/
namespace Go.Proofs.YtkpfehfcgpapiaaGreatDoor.Fm

theorem fldsGo_in : ∀ (l : List Fld) (met : List S), (∀ f ∈ l, memE f = 0) → fldsGo met l = 0 ∨ fldsGo met l = 30 ∨ fldsGo met l = 36
  | [], _, _ => .inl rfl
  | f :: r, met, h => by
    unfold fldsGo
    rw [if_pos (h f (List.mem_cons_self ..))]
    split
    · split
      · exact .inr (.inl rfl)
      · exact fldsGo_in r _ fun g hg => h g (List.mem_cons_of_mem _ hg)
    · exact .inr (.inr rfl)
/-- A form of good fields is too long just where it has too many of them. -/
theorem lim_check {F : Frm} (hn : isName F.name = true) (h0 : 0 < F.fields.length) (hs : F.sums = []) (hf : ∀ f ∈ F.fields, memE f = 0) : (check F = 4) ↔ 256 < F.fields.length := by
  unfold check
  rw [if_neg (by rw [hn]; simp), if_neg (by omega), hs]
  by_cases h : 256 < F.fields.length
  · rw [if_pos (.inl h)]; exact ⟨fun _ => h, fun _ => rfl⟩
  · rw [if_neg (by simp; omega)]
    have h1 := fldsGo_in F.fields [] hf
    refine ⟨fun e => ?_, fun e => absurd e h⟩
    exfalso
    split at e
    · unfold sumsGo at e; cases e
    · omega
end Go.Proofs.YtkpfehfcgpapiaaGreatDoor.Fm

/-
  Chapter 51, plain: the right numbers field by field; what a sum rule reckons part by part.
  No condition.
-/
namespace Go.Proofs.YtkpfehfcgpapiaaGreatDoor.Fm

def rightOne (f : Fld) (v : S) : List (S × Int) := if value f v = 0 ∧ f.op = 2 then [(f.name, if v.length = 0 then 0 else valOf v)] else []
theorem rightGo_app : ∀ (fs gs : List Fld) (vs us : List S), vs.length = fs.length → rightGo (fs ++ gs) (vs ++ us) = rightGo fs vs ++ rightGo gs us
  | [], gs, [], us, _ => rfl
  | [], _, _ :: _, _, h => by cases h
  | _ :: _, _, [], _, h => by cases h
  | f :: fs, gs, v :: vs, us, h => by
    rw [List.cons_append, List.cons_append, rightGo, rightGo, rightGo_app fs gs vs us (by simpa using h), List.append_assoc]
theorem rightGo_at {fs : List Fld} {vs : List S} (hl : vs.length = fs.length) {i : Nat} {f : Fld} {v : S} (hf : fs[i]? = some f) (hv : vs[i]? = some v) :
    rightGo (fs.take (i + 1)) (vs.take (i + 1)) = rightGo (fs.take i) (vs.take i) ++ rightOne f v := by
  have hi := (List.getElem?_eq_some_iff.1 hf).1
  rw [List.take_add_one, List.take_add_one, hf, hv, rightGo_app _ _ _ _ (by rw [List.length_take, List.length_take]; omega)]
  congr 1
  show rightOne f v ++ rightGo [] [] = rightOne f v
  rw [show rightGo [] [] = [] from rfl, List.append_nil]
theorem right_names : ∀ {fs : List Fld} {vs : List S} {p : S × Int}, p ∈ rightGo fs vs → p.1 ∈ fs.map (·.name)
  | [], vs, p, h => by cases vs <;> cases h
  | f :: fs, [], p, h => by cases h
  | f :: fs, v :: vs, p, h => by
    unfold rightGo at h
    rw [List.map_cons]
    rcases List.mem_append.1 h with h | h
    · split at h
      · rw [List.mem_singleton.1 h]; exact List.mem_cons_self ..
      · cases h
    · exact List.mem_cons_of_mem _ (right_names h)
theorem look_snoc {l : List (S × Int)} {n : S} (m : Int) (h : ∀ p ∈ l, p.1 ≠ n) : look (l ++ [(n, m)]) = fun x => if x = n then some m else look l x := by
  funext x
  unfold look
  rw [List.find?_append]
  by_cases hx : x = n
  · rw [if_pos hx, hx]
    have : l.find? (fun p => p.1 == n) = none := by
      rw [List.find?_eq_none]
      intro p hp hc
      exact h p hp (by simpa using hc)
    rw [this, List.find?_cons, show ((n, m).1 == n) = true from beq_self_eq_true _]
    rfl
  · rw [if_neg hx, List.find?_cons, show ((n, m).1 == x) = false from beq_eq_false_iff_ne.2 (fun e => hx e.symm), List.find?_nil, Option.or_none]
theorem name_new {fs : List Fld} (hn : (fs.map (·.name)).Nodup) {i : Nat} {f : Fld} (hf : fs[i]? = some f) (vs : List S) : ∀ p ∈ rightGo (fs.take i) vs, p.1 ≠ f.name := by
  intro p hp e
  have h1 := right_names hp
  rw [e, List.map_take] at h1
  obtain ⟨j, hj, hje⟩ := List.getElem_of_mem h1
  rw [List.length_take, List.length_map] at hj
  rw [List.getElem_take, List.getElem_map] at hje
  obtain ⟨hil, he⟩ := List.getElem?_eq_some_iff.1 hf
  have h2 : (fs.map (·.name))[j]'(by rw [List.length_map]; omega) = (fs.map (·.name))[i]'(by rw [List.length_map]; exact hil) := by
    rw [List.getElem_map, List.getElem_map, hje, he]
  have := (List.getElem_inj hn).1 h2
  omega
theorem right_bd : ∀ {fs : List Fld} {vs : List S} {p : S × Int}, p ∈ rightGo fs vs → -great ≤ p.2 ∧ p.2 ≤ great
  | [], vs, p, h => by cases vs <;> cases h
  | f :: fs, [], p, h => by cases h
  | f :: fs, v :: vs, p, h => by
    unfold rightGo at h
    rcases List.mem_append.1 h with h | h
    · split at h
      · rename_i hc
        rw [List.mem_singleton.1 h]
        dsimp only
        split
        · unfold great; omega
        · rename_i h0
          exact num_in hc.2 hc.1 h0
      · cases h
    · exact right_bd h
theorem look_bd (fs : List Fld) (vs : List S) (n : S) : -great ≤ (look (rightGo fs vs) n).getD 0 ∧ (look (rightGo fs vs) n).getD 0 ≤ great := by
  unfold look
  cases h : (rightGo fs vs).find? (·.1 == n) with
  | none => exact ⟨by decide, by decide⟩
  | some p => exact right_bd (List.mem_of_find?_eq_some h)
/-- The number that the program keeps of a right value. -/
theorem right_cap {f : Fld} {v : S} (h2 : f.op = 2) (h : value f v = 0) (h0 : v.length ≠ 0) : written v = true ∧ capOf v = valOf v := by
  obtain ⟨a, b⟩ := num_in h2 h h0
  refine ⟨?_, (capOf_in v a b).1⟩
  unfold value at h
  split at h
  · cases h
  · rw [if_neg (by omega), if_neg (by omega), if_neg (by omega), if_neg (by omega)] at h
    unfold numV at h
    cases hw : written v with
    | true => rfl
    | false => simp [hw, h2] at h
theorem partGo_snoc (l : List (S × Int)) : ∀ (ps : List S) (t : Int) (ok : Bool) (p : S), partGo l t ok (ps ++ [p]) = ((partGo l t ok ps).1 - (look l p).getD 0, (partGo l t ok ps).2 && (look l p).isSome)
  | [], _, _, _ => rfl
  | q :: ps, t, ok, p => by rw [List.cons_append, partGo, partGo, partGo_snoc l ps]
theorem part_bd {l : List (S × Int)} (h : ∀ n, -great ≤ (look l n).getD 0 ∧ (look l n).getD 0 ≤ great) : ∀ (ps : List S) (t : Int) (ok : Bool), t - great * (ps.length : Int) ≤ (partGo l t ok ps).1 ∧ (partGo l t ok ps).1 ≤ t + great * (ps.length : Int)
  | [], t, ok => by simp [partGo]
  | p :: ps, t, ok => by
    have h1 := part_bd h ps (t - (look l p).getD 0) (ok && (look l p).isSome)
    have h2 := h p
    rw [partGo, List.length_cons]
    have e : great * ((ps.length + 1 : Nat) : Int) = great * (ps.length : Int) + great := by
      rw [show ((ps.length + 1 : Nat) : Int) = (ps.length : Int) + 1 by omega, Int.mul_add, Int.mul_one]
    rw [e]
    omega
theorem nodup_le {l : List S} (hn : l.Nodup) : ∀ {m : List S}, (∀ x ∈ l, x ∈ m) → l.length ≤ m.length := by
  induction l with
  | nil => intro m _; exact Nat.zero_le _
  | cons x l ih =>
    intro m h
    rw [List.nodup_cons] at hn
    have hx := h x (List.mem_cons_self ..)
    have := ih hn.2 (m := m.erase x) (fun y hy => (List.mem_erase_of_ne (fun e => hn.1 (by rw [← e]; exact hy))).2 (h y (List.mem_cons_of_mem _ hy)))
    rw [List.length_erase_of_mem hx] at this
    have hp : 0 < m.length := List.length_pos_of_mem hx
    rw [List.length_cons]; omega
theorem prtGo_nodup (ns : List S) : ∀ (l met : List S), prtGo ns met l = 0 → l.Nodup ∧ ∀ p ∈ l, p ∉ met
  | [], _, _ => ⟨List.nodup_nil, fun p h => by cases h⟩
  | p :: r, met, h => by
    unfold prtGo at h
    cases hw : ns.contains p with
    | false => rw [hw] at h; simp at h
    | true =>
      rw [hw, if_pos rfl] at h
      cases hm : met.contains p with
      | true => rw [hm] at h; simp at h
      | false =>
        rw [hm] at h
        obtain ⟨a, b⟩ := prtGo_nodup ns r (met ++ [p]) h
        refine ⟨List.nodup_cons.2 ⟨fun hp => b p hp (by simp), a⟩, fun q hq => ?_⟩
        rcases List.mem_cons.1 hq with rfl | hq
        · intro hc
          rw [Bool.eq_false_iff] at hm
          exact hm (List.contains_iff_mem.2 hc)
        · exact fun hc => b q hq (List.mem_append.2 (.inl hc))
theorem sumsGo_each (ns : List S) : ∀ (l : List Sm), sumsGo ns l = 0 → ∀ r ∈ l, sumE ns r = 0
  | [], _, _, h => by cases h
  | r :: l, h, x, hx => by
    unfold sumsGo at h
    by_cases h0 : sumE ns r = 0
    · rw [if_pos h0] at h
      rcases List.mem_cons.1 hx with rfl | hx
      · exact h0
      · exact sumsGo_each ns l h x hx
    · rw [if_neg h0] at h; exact absurd h h0
theorem parts_len {F : Frm} (h : check F = 0) {r : Sm} (hr : r ∈ F.sums) : r.parts.length ≤ 256 := by
  have hV := valid_of h
  have hs : sumE (nums F.fields) r = 0 := by
    unfold check at h
    rw [if_neg (by rw [hV.name]; simp), if_neg (by have := hV.some; omega), if_neg (by have := hV.few; omega)] at h
    by_cases h2 : fldsGo [] F.fields = 0
    · rw [if_pos h2] at h; exact sumsGo_each _ _ h r hr
    · rw [if_neg h2] at h; exact absurd h h2
  obtain ⟨h1, _, h3⟩ := hV.sums r hr
  unfold sumE at hs
  rw [if_pos (List.contains_iff_mem.2 h1)] at hs
  by_cases h4 : r.parts.length = 0
  · omega
  · rw [if_neg h4] at hs
    have := nodup_le (prtGo_nodup _ _ _ hs).1 h3
    have h5 : (nums F.fields).length ≤ F.fields.length := by unfold nums; rw [List.length_map]; exact List.length_filter_le _ _
    have := hV.few.1
    omega
end Go.Proofs.YtkpfehfcgpapiaaGreatDoor.Fm

/-
  Chapter 51, plain: how long lines are.
  No condition.
-/
namespace Go.Proofs.YtkpfehfcgpapiaaGreatDoor.Fm

theorem dec_small (u : Nat) (h : u ≤ 1000000000000000) : (Lib.decDigits u).length ≤ 16 := by
  obtain ⟨h1, h2, h3, h4⟩ := dec_all u
  rcases Nat.lt_or_ge 16 (Lib.decDigits u).length with h5 | h5
  · by_cases h0 : (Lib.decDigits u).headD 0 = 48
    · have := h4 h0
      subst this
      rw [Lib.decDigits_one (by omega)] at h5
      simp at h5
    · have := natOf_long _ h5 h0 h2
      rw [h1] at this
      omega
  · exact h5
theorem itoa_small (n : Int) (h1 : -great ≤ n) (h2 : n ≤ great) : (Lib.itoa n).length ≤ 17 := by
  have h3 := (itoa_ok n).2.2.1
  have h4 := dec_small n.natAbs (by unfold great at h1 h2; omega)
  omega
/-- What a valid field is made of. -/
theorem mem_parts2 {f : Fld} (h : memE f = 0) : 1 ≤ f.op ∧ f.op ≤ 5 ∧ 0 ≤ f.ck ∧ f.ck ≤ 8 ∧ -great ≤ f.mn ∧ f.mn ≤ great ∧ -great ≤ f.mx ∧ f.mx ≤ great ∧ (f.op = 4 → 0 < f.chs.length) ∧ f.chs.length ≤ 32 ∧ ∀ s ∈ f.chs, isWord s = true := by
  unfold memE at h
  by_cases h0 : f.op < 1 ∨ 5 < f.op
  · rw [if_pos h0] at h; cases h
  · rw [if_neg h0] at h
    unfold great
    by_cases h1 : f.op = 1
    · rw [if_pos h1] at h
      by_cases h2 : f.chs.length = 0
      · rw [if_pos h2] at h
        have hl : f.chs = [] := List.eq_nil_of_length_eq_zero h2
        unfold digE at h
        split at h
        · cases h
        · split at h
          · rename_i h3 h4
            unfold within at h4
            simp only [Bool.and_eq_true, decide_eq_true_eq] at h4
            refine ⟨by omega, by omega, by omega, by omega, by omega, by omega, by omega, by omega, by omega, by omega, ?_⟩
            rw [hl]; intro s hs; cases hs
          · cases h
      · rw [if_neg h2] at h; cases h
    · rw [if_neg h1] at h
      by_cases h4 : f.op = 4
      · rw [if_pos h4] at h
        by_cases h5 : f.mn = 0 ∧ f.mx = 0 ∧ f.ck = 0
        · rw [if_pos h5] at h
          unfold chsE at h
          by_cases h6 : f.chs.length = 0
          · rw [if_pos h6] at h; cases h
          · rw [if_neg h6] at h
            by_cases h7 : 32 < f.chs.length
            · rw [if_pos h7] at h; cases h
            · rw [if_neg h7] at h
              exact ⟨by omega, by omega, by omega, by omega, by omega, by omega, by omega, by omega, by omega, by omega, chsGo_ok _ _ h⟩
        · rw [if_neg h5] at h; cases h
      · rw [if_neg h4] at h
        by_cases h5 : f.ck = 0 ∧ f.chs.length = 0
        · rw [if_pos h5] at h
          have hl : f.chs = [] := List.eq_nil_of_length_eq_zero h5.2
          cases hb : bndB f with
          | false => rw [hb] at h; cases h
          | true =>
            have hb2 : -1000000000000000 ≤ f.mn ∧ f.mn ≤ 1000000000000000 ∧ -1000000000000000 ≤ f.mx ∧ f.mx ≤ 1000000000000000 := by
              unfold bndB within great at hb
              (repeat' split at hb) <;> (simp only [Bool.and_eq_true, decide_eq_true_eq] at hb; omega)
            refine ⟨by omega, by omega, by omega, by omega, by omega, by omega, by omega, by omega, by omega, by omega, ?_⟩
            rw [hl]; intro s hs; cases hs
        · rw [if_neg h5] at h; cases h
theorem word_len {s : S} (h : isWord s = true) : s.length ≤ 20 := by
  unfold isWord at h
  simp only [Bool.and_eq_true, decide_eq_true_eq] at h
  exact h.1.2
theorem name_len {s : S} (h : isName s = true) : s.length ≤ 20 := by
  unfold isName at h
  simp only [Bool.and_eq_true, decide_eq_true_eq] at h
  exact h.1.1.2
theorem words_small {f : Fld} (hn : isName f.name = true) (h : memE f = 0) : (fldWords f).length ≤ 40 ∧ 0 < (fldWords f).length ∧ ∀ w ∈ fldWords f, w.length ≤ 20 := by
  obtain ⟨h1, h2, h3, h4, h5, h6, h7, h8, h9, h10, h11⟩ := mem_parts2 h
  have hk : (kindNm f.op).length ≤ 20 := by unfold kindNm; (repeat' split) <;> decide
  have hs : (sysNm f.ck).length ≤ 20 := by unfold sysNm; (repeat' split) <;> decide
  have ha := itoa_small f.mn h5 h6
  have hb := itoa_small f.mx h7 h8
  have hc := name_len hn
  unfold fldWords
  refine ⟨?_, by simp, fun w hw => ?_⟩
  · simp only [List.length_append, List.length_cons, List.length_nil]
    (repeat' split) <;> (simp only [List.length_cons, List.length_nil]; omega)
  · simp only [List.mem_append, List.mem_cons, List.not_mem_nil, or_false] at hw
    rcases hw with (((rfl | rfl) | hw) | hw) | hw
    · exact hk
    · exact hc
    · split at hw
      · exact word_len (h11 w hw)
      · simp only [List.mem_cons, List.not_mem_nil, or_false] at hw
        rcases hw with rfl | rfl <;> omega
    · split at hw
      · cases hw
      · simp only [List.mem_cons, List.not_mem_nil, or_false] at hw
        rcases hw with rfl | rfl
        · decide
        · exact hs
    · split at hw
      · simp only [List.mem_cons, List.not_mem_nil, or_false] at hw
        rw [hw]; decide
      · cases hw
theorem join_len : ∀ (l : List S), (∀ w ∈ l, w.length ≤ 20) → (joinSp l).length ≤ 21 * l.length
  | [], _ => Nat.zero_le _
  | [s], h => by have := h s (List.mem_singleton.2 rfl); simp [joinSp]; omega
  | s :: t :: r, h => by
    have h1 := h s (List.mem_cons_self ..)
    have h2 := join_len (t :: r) (fun w hw => h w (List.mem_cons_of_mem _ hw))
    rw [joinSp]
    · simp only [List.length_append, List.length_cons] at h2 ⊢
      omega
    · intro e; cases e
theorem join_lib : ∀ (l : List S), Lib.join l [32] = joinSp l
  | [] => rfl
  | [s] => by rw [Lib.join_one]; rfl
  | s :: t :: r => by
    have ih := join_lib (t :: r)
    unfold Lib.join at ih ⊢
    rw [List.intercalate_cons_cons, ih]
    show _ = s ++ 32 :: joinSp (t :: r)
    simp
theorem join_nil : ∀ (l : List S), Lib.join l [] = l.flatten
  | [] => rfl
  | [s] => by rw [Lib.join_one]; simp
  | s :: t :: r => by
    have ih := join_nil (t :: r)
    unfold Lib.join at ih ⊢
    rw [List.intercalate_cons_cons, ih]
    simp
end Go.Proofs.YtkpfehfcgpapiaaGreatDoor.Fm
