/-
  Chapter 12 in plain words: the three symbologies, and what Encode, Decode, Pattern return.
  No condition.
-/
import Derived.Test.YthjlnpcaclfopaaGreatTw
import Derived.Lib.Join
namespace Go.Proofs.YthjlnpcaclfopaaGreat.Tw

def c39 : List UInt8 := [48, 49, 50, 51, 52, 53, 54, 55, 56, 57, 65, 66, 67, 68, 69, 70, 71, 72, 73, 74, 75, 76, 77, 78, 79, 80, 81, 82, 83, 84, 85, 86, 87, 88, 89, 90, 45, 46, 32, 36, 47, 43, 37, 42]
def p39 : List UInt8 := [110, 110, 110, 119, 119, 110, 119, 110, 110, 119, 110, 110, 119, 110, 110, 110, 110, 119, 110, 110, 119, 119, 110, 110, 110, 110, 119, 119, 110, 119, 119, 110, 110, 110, 110, 110, 110, 110, 110, 119, 119, 110, 110, 110, 119, 119, 110, 110, 119, 119, 110, 110, 110, 110, 110, 110, 119, 119, 119, 110, 110, 110, 110, 110, 110, 110, 119, 110, 110, 119, 110, 119, 119, 110, 110, 119, 110, 110, 119, 110, 110, 110, 110, 119, 119, 110, 110, 119, 110, 110, 119, 110, 110, 110, 110, 119, 110, 110, 119, 110, 110, 119, 110, 110, 119, 110, 110, 119, 119, 110, 119, 110, 110, 119, 110, 110, 110, 110, 110, 110, 110, 119, 119, 110, 110, 119, 119, 110, 110, 110, 119, 119, 110, 110, 110, 110, 110, 119, 110, 119, 119, 110, 110, 110, 110, 110, 110, 110, 110, 119, 119, 110, 119, 119, 110, 110, 110, 110, 119, 119, 110, 110, 110, 110, 119, 110, 110, 119, 119, 110, 110, 110, 110, 110, 110, 119, 119, 119, 110, 110, 119, 110, 110, 110, 110, 110, 110, 119, 119, 110, 110, 119, 110, 110, 110, 110, 119, 119, 119, 110, 119, 110, 110, 110, 110, 119, 110, 110, 110, 110, 110, 119, 110, 110, 119, 119, 119, 110, 110, 110, 119, 110, 110, 119, 110, 110, 110, 119, 110, 119, 110, 110, 119, 110, 110, 110, 110, 110, 110, 110, 119, 119, 119, 119, 110, 110, 110, 110, 110, 119, 119, 110, 110, 110, 119, 110, 110, 110, 119, 119, 110, 110, 110, 110, 110, 119, 110, 119, 119, 110, 119, 119, 110, 110, 110, 110, 110, 110, 119, 110, 119, 119, 110, 110, 110, 110, 110, 119, 119, 119, 119, 110, 110, 110, 110, 110, 110, 110, 119, 110, 110, 119, 110, 110, 110, 119, 119, 119, 110, 110, 119, 110, 110, 110, 110, 110, 119, 119, 110, 119, 110, 110, 110, 110, 110, 119, 110, 110, 110, 110, 119, 110, 119, 119, 119, 110, 110, 110, 110, 119, 110, 110, 110, 119, 119, 110, 110, 110, 119, 110, 110, 110, 119, 110, 119, 110, 119, 110, 110, 110, 110, 119, 110, 119, 110, 110, 110, 119, 110, 110, 119, 110, 110, 110, 119, 110, 119, 110, 110, 110, 110, 119, 110, 119, 110, 119, 110, 110, 119, 110, 110, 119, 110, 119, 110, 110]
def cCb : List UInt8 := [48, 49, 50, 51, 52, 53, 54, 55, 56, 57, 45, 36, 58, 47, 46, 43, 65, 66, 67, 68]
def pCb : List UInt8 := [110, 110, 110, 110, 110, 119, 119, 110, 110, 110, 110, 119, 119, 110, 110, 110, 110, 119, 110, 110, 119, 119, 119, 110, 110, 110, 110, 110, 110, 110, 119, 110, 110, 119, 110, 119, 110, 110, 110, 110, 119, 110, 110, 119, 110, 110, 110, 110, 119, 110, 119, 110, 110, 119, 110, 110, 110, 119, 119, 110, 110, 110, 110, 119, 110, 110, 119, 110, 110, 110, 110, 110, 110, 119, 119, 110, 110, 110, 110, 119, 119, 110, 110, 110, 119, 110, 110, 110, 119, 110, 119, 119, 110, 119, 110, 110, 110, 119, 119, 110, 119, 110, 119, 110, 110, 110, 110, 119, 110, 119, 110, 119, 110, 110, 119, 119, 110, 119, 110, 110, 119, 110, 119, 110, 110, 119, 110, 110, 110, 119, 110, 119, 119, 110, 110, 110, 119, 119, 119, 110]
def dCb : List UInt8 := [48, 49, 50, 51, 52, 53, 54, 55, 56, 57, 45, 36, 58, 47, 46, 43]
def eCb : List UInt8 := [65, 66, 67, 68]
def cItf : List UInt8 := [48, 49, 50, 51, 52, 53, 54, 55, 56, 57]
def pItf : List UInt8 := [110, 110, 119, 119, 110, 119, 110, 110, 110, 119, 110, 119, 110, 110, 119, 119, 119, 110, 110, 110, 110, 110, 119, 110, 119, 119, 110, 119, 110, 110, 110, 119, 119, 110, 110, 110, 110, 110, 119, 119, 119, 110, 110, 119, 110, 110, 119, 110, 119, 110]

/-- Reading separated characters: the error at character number i, or 0. -/
def rdAt (cs ps : List UInt8) (z : Nat) (e : List UInt8) (i : Nat) : UInt8 × Bool := chr cs ps z ((e.drop (i * (z + 1))).take z)
def isIn (set : List UInt8) (r : UInt8 × Bool) : Bool := r.2 && decide (0 ≤ Lib.indexByte set r.1)
def rdErr (cs ps edge inner : List UInt8) (z : Nat) (e : List UInt8) (n i : Nat) : Int :=
  if 0 < i ∧ e.getD (i * (z + 1) - 1) 0 = 119 then 18
  else if i = 0 ∧ isIn edge (rdAt cs ps z e i) = false then 19
  else if i + 1 = n ∧ isIn edge (rdAt cs ps z e i) = false then 20
  else if 0 < i ∧ i + 1 < n ∧ isIn inner (rdAt cs ps z e i) = false then 18
  else 0
def read (cs ps edge inner : List UInt8) (z : Nat) (e : List UInt8) : List UInt8 × Int :=
  match (List.range ((e.length + 1) / (z + 1))).find? (fun i => rdErr cs ps edge inner z e ((e.length + 1) / (z + 1)) i != 0) with
  | some i => ([], rdErr cs ps edge inner z e ((e.length + 1) / (z + 1)) i)
  | none => ((List.range ((e.length + 1) / (z + 1))).map fun i => (rdAt cs ps z e i).1, 0)

theorem read_at (cs ps edge inner : List UInt8) (z : Nat) (e : List UInt8) (n j : Nat) (hn : n = (e.length + 1) / (z + 1)) (hj : j < n) (h : rdErr cs ps edge inner z e n j ≠ 0) (hb : ∀ i, i < j → rdErr cs ps edge inner z e n i = 0) :
    read cs ps edge inner z e = ([], rdErr cs ps edge inner z e n j) := by
  have : (List.range n).find? (fun i => rdErr cs ps edge inner z e n i != 0) = some j := by
    rw [List.find?_eq_some_iff_getElem]
    refine ⟨by simpa using h, j, by simpa using hj, by simp, fun i hi => ?_⟩
    simpa using hb i hi
  unfold read; rw [← hn, this]
theorem read_all (cs ps edge inner : List UInt8) (z : Nat) (e : List UInt8) (n : Nat) (hn : n = (e.length + 1) / (z + 1)) (hb : ∀ i, i < n → rdErr cs ps edge inner z e n i = 0) :
    read cs ps edge inner z e = ((List.range n).map fun i => (rdAt cs ps z e i).1, 0) := by
  have : (List.range n).find? (fun i => rdErr cs ps edge inner z e n i != 0) = none := by
    rw [List.find?_eq_none]
    intro i hi
    simpa using hb i (by simpa using hi)
  unfold read; rw [← hn, this]

/-- Codabar. -/
def sumCb (l : List UInt8) : Int := (l.map (Lib.indexByte cCb)).foldl (· + ·) 0
def compCb (l : List UInt8) (check : Bool) : List UInt8 × Int :=
  if l.length < 2 then ([], 7)
  else if only (l.take 1) eCb = false then ([], 19)
  else if only (l.drop (l.length - 1)) eCb = false then ([], 20)
  else if only ((l.drop 1).take (l.length - 2)) dCb = false then ([], 6)
  else if check = false then (l, 0)
  else (l.take (l.length - 1) ++ [dCb.getD ((16 - sumCb l % 16) % 16).toNat 0] ++ l.drop (l.length - 1), 0)
def textCb (l : List UInt8) (check : Bool) : List UInt8 := if check then l.take (l.length - 2) ++ l.drop (l.length - 1) else l

/-- ITF. -/
def countsItf (n : Nat) : Bool := decide (17 ≤ n) && decide ((n - 7) % 10 = 0) && decide ((n - 7) / 10 ≤ 500)
def compItf (l : List UInt8) (check : Bool) : List UInt8 × Int :=
  if only l cItf = false then ([], 6)
  else if check = false then (if l.length % 2 = 0 then (l, 0) else ([], 7))
  else if (Cd.compI 1 l).2 = 0 then (if (l ++ (Cd.compI 1 l).1).length % 2 = 0 then (l ++ (Cd.compI 1 l).1, 0) else ([], 7)) else ([], (Cd.compI 1 l).2)
/-- Two lists of elements, one and one in turn. -/
def mix : List UInt8 → List UInt8 → List UInt8
  | a :: l, b :: m => a :: b :: mix l m
  | _, _ => []
def drawPairs : List UInt8 → List UInt8
  | a :: b :: l => mix (pat cItf pItf 5 a).1 (pat cItf pItf 5 b).1 ++ drawPairs l
  | _ => []
def drawItf (l : List UInt8) : List UInt8 := [110, 110, 110, 110] ++ drawPairs l ++ [119, 110, 110]
def evens : List UInt8 → List UInt8
  | a :: _ :: l => a :: evens l
  | _ => []
def odds : List UInt8 → List UInt8
  | _ :: b :: l => b :: odds l
  | _ => []
/-- The elements of pair number i. -/
def pairAt (e : List UInt8) (i : Nat) : List UInt8 := (e.drop (4 + 10 * i)).take 10
def digA (e : List UInt8) (i : Nat) : UInt8 × Bool := chr cItf pItf 5 (evens (pairAt e i))
def digB (e : List UInt8) (i : Nat) : UInt8 × Bool := chr cItf pItf 5 (odds (pairAt e i))
def pairOk (e : List UInt8) (i : Nat) : Bool := (digA e i).2 && (digB e i).2
def readItf (e : List UInt8) : List UInt8 × Int :=
  if e.take 4 ≠ [110, 110, 110, 110] then ([], 19)
  else if (List.range ((e.length - 7) / 10)).all (pairOk e) = false then ([], 18)
  else if e.drop (e.length - 3) ≠ [119, 110, 110] then ([], 20)
  else ((List.range ((e.length - 7) / 10)).flatMap fun i => [(digA e i).1, (digB e i).1], 0)
def textItf (l : List UInt8) (check : Bool) : List UInt8 := if check then l.take (l.length - 1) else l

/-- The symbology number k: 0 is Code 39, 1 Codabar, 2 ITF. -/
def patK (k : Nat) (c : UInt8) : List UInt8 × Bool := match k with
  | 0 => pat c39 p39 9 c
  | 1 => pat cCb pCb 7 c
  | _ => pat cItf pItf 5 c
def countsK (k : Nat) (n : Nat) (check : Bool) : Bool := match k with
  | 0 => counts 9 1 1000 n check
  | 1 => counts 7 0 998 n check
  | _ => countsItf n
def compK (k : Nat) (l : List UInt8) (check : Bool) : List UInt8 × Int := match k with
  | 0 => comp39 l check
  | 1 => compCb l check
  | _ => compItf l check
def drawK (k : Nat) (l : List UInt8) : List UInt8 := match k with
  | 0 => Lib.join (l.map fun c => (pat c39 p39 9 c).1) [110]
  | 1 => Lib.join (l.map fun c => (pat cCb pCb 7 c).1) [110]
  | _ => drawItf l
def readK (k : Nat) (e : List UInt8) : List UInt8 × Int := match k with
  | 0 => read c39 p39 [42] Cd.syms 9 e
  | 1 => read cCb pCb eCb dCb 7 e
  | _ => readItf e
def textK (k : Nat) (l : List UInt8) (check : Bool) : List UInt8 := match k with
  | 0 => text39 l check
  | 1 => textCb l check
  | _ => textItf l check

/-- What Encode returns for symbology k. -/
def widths (r : Int) (e : List UInt8) : List Int := e.map fun c => if c = 119 then r else 1
def encK (k : Nat) (l : List UInt8) (r : Int) (check : Bool) : List Int × Int :=
  if r ≠ 2 ∧ r ≠ 3 then ([], 1)
  else if l = [] then ([], 5)
  else if 1000 < l.length then ([], 4)
  else if (compK k l check).2 ≠ 0 then ([], (compK k l check).2)
  else (widths r (drawK k (compK k l check).1), 0)
def enc (kind : Int) (l : List UInt8) (r : Int) (check : Bool) : List Int × Int :=
  if kind = 5 then encK 0 l r check else if kind = 6 then encK 1 l r check else if kind = 7 then encK 2 l r check else ([], 1)

/-- What runs.Wide returns. -/
def inRng (ws : List Int) : Bool := ws.all fun x => decide (1 ≤ x) && decide (x ≤ 65536)
def lo (ws : List Int) : Int := ws.foldl min (ws.getD 0 0)
def hi (ws : List Int) : Int := ws.foldl max (ws.getD 0 0)
def isWide (ws : List Int) (x : Int) : Bool := decide (lo ws + hi ws < 2 * x)
def leastWide (ws : List Int) (l : List Int) : Int := l.foldl (fun a x => if isWide ws x then min a x else a) (hi ws)
def mostNarrow (ws : List Int) (l : List Int) : Int := l.foldl (fun a x => if isWide ws x then a else max a x) (lo ws)
def wide (ws : List Int) : List Bool × Int :=
  if ws = [] then ([], 5)
  else if inRng ws = false then ([], 3)
  else if 2 * hi ws < 3 * lo ws then (ws.map fun _ => false, 0)
  else if 2 * leastWide ws ws < 3 * mostNarrow ws ws then ([], 18)
  else (ws.map (isWide ws), 0)
def elems (l : List Bool) : List UInt8 := l.map fun b => if b then 119 else 110

/-- What Decode returns. -/
def decK (k : Nat) (ws : List Int) (check : Bool) : List UInt8 × Int :=
  if countsK k ws.length check = false then ([], 7)
  else if (wide ws).2 ≠ 0 then ([], (wide ws).2)
  else if (readK k (elems (wide ws).1)).2 ≠ 0 then ([], (readK k (elems (wide ws).1)).2)
  else if check = true ∧ compK k (textK k (readK k (elems (wide ws).1)).1 check) true ≠ ((readK k (elems (wide ws).1)).1, 0) then ([], 8)
  else (textK k (readK k (elems (wide ws).1)).1 check, 0)
def dec (kind : Int) (ws : List Int) (check : Bool) : List UInt8 × Int :=
  if kind = 5 then decK 0 ws check else if kind = 6 then decK 1 ws check else if kind = 7 then decK 2 ws check else ([], 1)

def bits (e : List UInt8) : List Bool := e.map fun c => c == 119
def patB (k : Nat) (c : UInt8) : List Bool × Int := if (patK k c).2 then (bits (patK k c).1, 0) else ([], 6)
def ptn (kind : Int) (c : UInt8) : List Bool × Int :=
  if kind = 5 then patB 0 c else if kind = 6 then patB 1 c else if kind = 7 then patB 2 c else ([], 1)

/-- The characters that represent an ASCII character. -/
def rep (c : UInt8) : List UInt8 :=
  if c = 0 then [37, 85]
  else if c ≤ 26 then [36, 64 + c]
  else if c ≤ 31 then [37, 38 + c]
  else if 33 ≤ c ∧ c ≤ 44 then [47, 32 + c]
  else if c = 47 then [47, 79]
  else if c = 58 then [47, 90]
  else if 59 ≤ c ∧ c ≤ 63 then [37, 11 + c]
  else if c = 64 then [37, 86]
  else if 91 ≤ c ∧ c ≤ 95 then [37, c - 16]
  else if c = 96 then [37, 87]
  else if 97 ≤ c ∧ c ≤ 122 then [43, c - 32]
  else if 123 ≤ c ∧ c ≤ 126 then [37, c - 43]
  else if c = 127 then [37, 84]
  else [c]
def full (l : List UInt8) : List UInt8 × Int :=
  if l.all (fun c => decide (c ≤ 127)) = false then ([], 6)
  else if 1000 < l.length then ([], 4)
  else if 1000 < (l.flatMap rep).length then ([], 4)
  else (l.flatMap rep, 0)
def unrep (p : List UInt8) : Option UInt8 := ((List.range 128).map UInt8.ofNat).find? fun c => rep c == p
/-- Plain from character number i on; the list holds what is left. -/
def plainGo : Nat → List UInt8 → List UInt8 → List UInt8 × Int
  | 0, _, acc => (acc, 0)
  | _ + 1, [], acc => (acc, 0)
  | n + 1, c :: l, acc =>
    if Lib.indexByte Cd.syms c < 0 then ([], 6)
    else if 0 ≤ Lib.indexByte [36, 47, 43, 37] c then
      match unrep ((c :: l).take 2) with
      | some x => plainGo n (l.drop 1) (acc ++ [x])
      | none => ([], 9)
    else match unrep [c] with
      | some x => plainGo n l (acc ++ [x])
      | none => ([], 9)
def plain (l : List UInt8) : List UInt8 × Int := if 1000 < l.length then ([], 4) else plainGo l.length l []
end Go.Proofs.YthjlnpcaclfopaaGreat.Tw
