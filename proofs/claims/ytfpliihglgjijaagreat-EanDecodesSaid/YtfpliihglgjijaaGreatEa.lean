/-
  Chapter 11 as plain functions: texts are lists of bytes, rows lists of modules.
  No condition.
-/
import Derived.Test.YtfpliihglgjijaaGreatCd
namespace Go.Proofs.YtfpliihglgjijaaGreat.Ea

/-- The number of digits of a complete text. -/
def size (k : Int) : Nat := if k = 1 then 13 else if k = 2 then 8 else if k = 3 then 12 else if k = 4 then 8 else 0
def digs (l : List UInt8) : Bool := l.all (fun c => Cd.isDig c.toNat)
/-- The first eleven digits of the UPC-A text of seven digits of a UPC-E text. -/
def exp7 (l : List UInt8) : List UInt8 :=
  if l.getD 6 0 ≤ 50 then l.take 3 ++ (l.drop 6).take 1 ++ [48, 48, 48, 48] ++ (l.drop 3).take 3
  else if l.getD 6 0 = 51 then l.take 4 ++ [48, 48, 48, 48, 48] ++ (l.drop 4).take 2
  else if l.getD 6 0 = 52 then l.take 5 ++ [48, 48, 48, 48, 48] ++ (l.drop 5).take 1
  else l.take 6 ++ [48, 48, 48, 48] ++ (l.drop 6).take 1
/-- The UPC-A text of a UPC-E text of eight digits. -/
def exp8 (l : List UInt8) : List UInt8 := exp7 (l.take 7) ++ l.drop 7
/-- The check digit of digits. -/
def chk (l : List UInt8) : UInt8 := Cd.chr ((10 - (Cd.gsP l).1 % 10) % 10)
/-- The check digit of a text without its check digit. -/
def chkOf (k : Int) (l : List UInt8) : UInt8 := if k = 4 then chk (exp7 l) else chk l
/-- What Complete returns. -/
def comp (k : Int) (l : List UInt8) : List UInt8 × Int :=
  if size k = 0 then ([], 1)
  else if digs l = false then ([], 6)
  else if l.length ≠ size k ∧ l.length + 1 ≠ size k then ([], 7)
  else if k = 4 ∧ 49 < l.getD 0 0 then ([], 9)
  else if l.length = size k ∧ l ≠ l.take (size k - 1) ++ [chkOf k (l.take (size k - 1))] then ([], 8)
  else (l.take (size k - 1) ++ [chkOf k (l.take (size k - 1))], 0)
/-- The error of a text that is not complete. -/
def full (k : Int) (l : List UInt8) : Int := if size k ≠ 0 ∧ digs l = true ∧ l.length + 1 = size k then 7 else (comp k l).2
/-- What Expand returns. -/
def expd (l : List UInt8) : List UInt8 × Int := if full 4 l ≠ 0 then ([], full 4 l) else (exp8 l, 0)
def zer (l : List UInt8) (a b : Nat) : Bool := ((l.drop a).take (b - a)).all (fun c => c == 48)
/-- The UPC-E text that expands to a UPC-A text. -/
def cut8 (l : List UInt8) : Option (List UInt8) :=
  if 49 < l.getD 0 0 then none
  else if l.getD 3 0 ≤ 50 ∧ zer l 4 8 = true then some (l.take 3 ++ (l.drop 8).take 3 ++ (l.drop 3).take 1 ++ l.drop 11)
  else if zer l 4 9 = true then some (l.take 4 ++ (l.drop 9).take 2 ++ [51] ++ l.drop 11)
  else if zer l 5 10 = true then some (l.take 5 ++ (l.drop 10).take 1 ++ [52] ++ l.drop 11)
  else if 52 < l.getD 10 0 ∧ zer l 6 10 = true then some (l.take 6 ++ (l.drop 10).take 1 ++ l.drop 11)
  else none
/-- What Compress returns. -/
def cprs (l : List UInt8) : List UInt8 × Int :=
  if full 3 l ≠ 0 then ([], full 3 l) else match cut8 l with
    | none => ([], 9)
    | some r => (r, 0)

/-! ### Modules -/
def bits (l : List Nat) : List Bool := l.map (fun x => x == 1)
def tab : List (List (List Bool)) := [
  [bits [0,0,0,1,1,0,1], bits [0,0,1,1,0,0,1], bits [0,0,1,0,0,1,1], bits [0,1,1,1,1,0,1], bits [0,1,0,0,0,1,1], bits [0,1,1,0,0,0,1], bits [0,1,0,1,1,1,1], bits [0,1,1,1,0,1,1], bits [0,1,1,0,1,1,1], bits [0,0,0,1,0,1,1]],
  [bits [0,1,0,0,1,1,1], bits [0,1,1,0,0,1,1], bits [0,0,1,1,0,1,1], bits [0,1,0,0,0,0,1], bits [0,0,1,1,1,0,1], bits [0,1,1,1,0,0,1], bits [0,0,0,0,1,0,1], bits [0,0,1,0,0,0,1], bits [0,0,0,1,0,0,1], bits [0,0,1,0,1,1,1]],
  [bits [1,1,1,0,0,1,0], bits [1,1,0,0,1,1,0], bits [1,1,0,1,1,0,0], bits [1,0,0,0,0,1,0], bits [1,0,1,1,1,0,0], bits [1,0,0,1,1,1,0], bits [1,0,1,0,0,0,0], bits [1,0,0,0,1,0,0], bits [1,0,0,1,0,0,0], bits [1,1,1,0,1,0,0]]]
/-- The modules of a digit in a set. -/
def modl (t d : Nat) : List Bool := (tab.getD t []).getD d []
def gd : List Bool := bits [1,0,1]
def md : List Bool := bits [0,1,0,1,0]
def eE : List Bool := bits [0,1,0,1,0,1]
def sA : List Bool := bits [1,0,1,1]
def gA : List Bool := bits [0,1]
def lgt (n : Nat) : List Bool := List.replicate n false
def setsL : List (List Nat) := [[0,0,0,0,0,0], [0,0,1,0,1,1], [0,0,1,1,0,1], [0,0,1,1,1,0], [0,1,0,0,1,1], [0,1,1,0,0,1], [0,1,1,1,0,0], [0,1,0,1,0,1], [0,1,0,1,1,0], [0,1,1,0,1,0]]
def setsE0 : List (List Nat) := [[1,1,1,0,0,0], [1,1,0,1,0,0], [1,1,0,0,1,0], [1,1,0,0,0,1], [1,0,1,1,0,0], [1,0,0,1,1,0], [1,0,0,0,1,1], [1,0,1,0,1,0], [1,0,1,0,0,1], [1,0,0,1,0,1]]
def sets13 (d : Nat) : List Nat := setsL.getD d []
def setsE (s c : Nat) : List Nat := if s = 0 then setsE0.getD c [] else (setsE0.getD c []).map (fun x => 1 - x)
def setsA2 : List (List Nat) := [[0,0], [0,1], [1,0], [1,1]]
def setsA5 : List (List Nat) := [[1,1,0,0,0], [1,0,1,0,0], [1,0,0,1,0], [1,0,0,0,1], [0,1,1,0,0], [0,0,1,1,0], [0,0,0,1,1], [0,1,0,1,0], [0,1,0,0,1], [0,0,1,0,1]]
/-- The value of the digit at a place. -/
def dv (l : List UInt8) (i : Nat) : Nat := (l.getD i 48).toNat - 48
def setsAdd (l : List UInt8) : List Nat :=
  if l.length = 2 then setsA2.getD ((10 * dv l 0 + dv l 1) % 4) []
  else setsA5.getD ((3 * (dv l 0 + dv l 2 + dv l 4) + 9 * (dv l 1 + dv l 3)) % 10) []
/-- The modules of digits in sets, with a separator between two digits. -/
def drw (sep : List Bool) : List UInt8 → List Nat → List Bool
  | [], _ => []
  | _, [] => []
  | [c], t :: _ => modl t (c.toNat - 48)
  | c :: d :: l, t :: ts => modl t (c.toNat - 48) ++ sep ++ drw sep (d :: l) ts
def sym13 (l : List UInt8) : List Bool := gd ++ drw [] ((l.drop 1).take 6) (sets13 (dv l 0)) ++ md ++ drw [] (l.drop 7) [2, 2, 2, 2, 2, 2] ++ gd
def sym8 (l : List UInt8) : List Bool := gd ++ drw [] (l.take 4) [0, 0, 0, 0] ++ md ++ drw [] (l.drop 4) [2, 2, 2, 2] ++ gd
def symE (l : List UInt8) : List Bool := gd ++ drw [] ((l.drop 1).take 6) (setsE (dv l 0) (dv l 7)) ++ eE
/-- The modules of a complete text. -/
def sym (k : Int) (l : List UInt8) : List Bool := if k = 3 then sym13 (48 :: l) else if k = 1 then sym13 l else if k = 2 then sym8 l else symE l
def addn (l : List UInt8) : List Bool := sA ++ drw gA l (setsAdd l)
def lq (k : Int) : Nat := if k = 1 then 11 else if k = 2 then 7 else 9
def rq (k : Int) : Nat := if k = 3 then 9 else 7
/-- What Encode returns. -/
def enc (k : Int) (l a : List UInt8) : List Bool × Int :=
  if full k l ≠ 0 then ([], full k l)
  else if digs a = false then ([], 6)
  else if a.length ≠ 0 ∧ a.length ≠ 2 ∧ a.length ≠ 5 then ([], 7)
  else if a.length = 0 then (lgt (lq k) ++ sym k l ++ lgt (rq k), 0)
  else (lgt (lq k) ++ sym k l ++ lgt 9 ++ addn a ++ lgt 7, 0)
/-- What Digits returns. -/
def dgts (d t : Int) : List Bool × Int := if d < 0 ∨ 9 < d ∨ t < 0 ∨ 2 < t then ([], 3) else (modl t.toNat d.toNat, 0)

/-! ### Reading -/
/-- The place of a list in a list. -/
def idx {α : Type} [DecidableEq α] : List α → α → Option Nat
  | [], _ => none
  | x :: l, y => if x = y then some 0 else (idx l y).map (· + 1)
/-- The digit of modules in a set. -/
def lookT (t : Nat) (m : List Bool) : Option Nat := idx (tab.getD t []) m
/-- The digit and the set of modules. With both sets the second one goes ahead (they never both do). -/
def look (both : Bool) (t : Nat) (m : List Bool) : Option (Nat × Nat) :=
  if both = true then (match lookT 1 m with
    | some d => some (d, 1)
    | none => (lookT 0 m).map (fun d => (d, 0)))
  else (lookT t m).map (fun d => (d, t))
/-- n digits with gap modules between two of them. -/
def rcg (both : Bool) (t gap : Nat) : Nat → List Bool → Option (List UInt8 × List Nat)
  | 0, _ => some ([], [])
  | n + 1, s => match look both t (s.take 7) with
    | none => none
    | some (d, u) => match rcg both t gap n (s.drop (7 + gap)) with
      | none => none
      | some (ds, us) => some (UInt8.ofNat (48 + d) :: ds, u :: us)
def find13 (u : List Nat) : Option Nat := idx setsL u
def findE (u : List Nat) : Option (Nat × Nat) := match idx setsE0 u with
  | some c => some (0, c)
  | none => (idx (setsE0.map (fun l => l.map (fun x => 1 - x))) u).map (fun c => (1, c))
def chr (d : Nat) : UInt8 := UInt8.ofNat (48 + d)
/-- The digits of a symbol of 95 modules. -/
def rd13 (s : List Bool) : Option (List UInt8) := match rcg true 0 0 6 (s.drop 3), rcg false 2 0 6 (s.drop 50) with
  | some (l, u), some (r, _) => if (s.drop 45).take 5 = md then (find13 u).map (fun d => chr d :: (l ++ r)) else none
  | _, _ => none
def rd8 (s : List Bool) : Option (List UInt8) := match rcg false 0 0 4 (s.drop 3), rcg false 2 0 4 (s.drop 36) with
  | some (l, _), some (r, _) => if (s.drop 31).take 5 = md then some (l ++ r) else none
  | _, _ => none
def rdE (s : List Bool) : Option (List UInt8) := match rcg true 0 0 6 (s.drop 3) with
  | some (l, u) => (findE u).map (fun p => chr p.1 :: (l ++ [chr p.2]))
  | none => none
def kindOf (n : Nat) : Int := if n = 95 then 1 else if n = 67 then 2 else 4
def rdK (n : Nat) (s : List Bool) : Option (List UInt8) := if n = 95 then rd13 s else if n = 67 then rd8 s else rdE s
def stp (n : Nat) : List Bool := if n = 51 then eE else gd
/-- The kind and text of a symbol of 95, 67 or 51 modules. -/
def rdSym (n : Nat) (s : List Bool) : (Int × List UInt8) × Int :=
  if s.take 3 ≠ gd then ((0, []), 19)
  else if s.drop (n - (stp n).length) ≠ stp n then ((0, []), 20)
  else match rdK n s with
    | none => ((0, []), 18)
    | some l => if full (kindOf n) l ≠ 0 then ((0, []), 8)
      else if n = 95 ∧ l.getD 0 0 = 48 then ((3, l.drop 1), 0) else ((kindOf n, l), 0)
/-- The digits of an add-on of n digits. -/
def rdAdd (n : Nat) (s : List Bool) : List UInt8 × Int :=
  if s.take 4 ≠ sA then ([], 19)
  else if (List.range (n - 1)).all (fun i => (s.drop (11 + 9 * i)).take 2 == gA) = false then ([], 18)
  else match rcg true 0 2 n (s.drop 4) with
    | none => ([], 18)
    | some (l, u) => if setsAdd l ≠ u then ([], 8) else (l, 0)
/-- The modules of an add-on of n digits. -/
def wAdd (n : Nat) : Nat := if n = 0 then 0 else if n = 2 then 20 else 47
def fits (s : List Bool) (n a : Nat) : Bool :=
  if a = 0 then s.length == n else decide (n + wAdd a + 7 ≤ s.length) && decide (s.length ≤ n + wAdd a + 12) && ((s.drop n).take (s.length - n - wAdd a)).all (fun b => !b)
abbrev Got := (Int × List UInt8 × List UInt8) × Int
/-- What modules of a shape contain. -/
def rdShape (s : List Bool) (n a : Nat) : Got :=
  if (rdSym n (s.take n)).2 ≠ 0 then ((0, [], []), (rdSym n (s.take n)).2)
  else if a = 0 then (((rdSym n (s.take n)).1.1, (rdSym n (s.take n)).1.2, []), 0)
  else if (rdAdd a (s.drop (s.length - wAdd a))).2 ≠ 0 then ((0, [], []), (rdAdd a (s.drop (s.length - wAdd a))).2)
  else (((rdSym n (s.take n)).1.1, (rdSym n (s.take n)).1.2, (rdAdd a (s.drop (s.length - wAdd a))).1), 0)
def shapes : List (Nat × Nat) := [(95, 0), (95, 2), (95, 5), (67, 0), (67, 2), (67, 5), (51, 0), (51, 2), (51, 5)]
/-- The first shape that can be read, or the error of the first one that fits. -/
def decF (s : List Bool) : Int → List (Nat × Nat) → Got
  | e, [] => ((0, [], []), e)
  | e, (n, a) :: l => if fits s n a = false then decF s e l
    else if (rdShape s n a).2 = 0 then rdShape s n a
    else decF s (if e = 7 then (rdShape s n a).2 else e) l
/-- Light modules ahead. -/
def ldg : List Bool → Nat
  | [] => 0
  | b :: l => if b then 0 else ldg l + 1
def trl (s : List Bool) : Nat := ldg s.reverse
/-- What Decode returns. -/
def dec (s : List Bool) : Got :=
  if 65536 < s.length then ((0, [], []), 4)
  else if ldg s = s.length then ((0, [], []), 5)
  else if ldg s < 7 ∨ trl s < 7 then ((0, [], []), 9)
  else decF ((s.drop (ldg s)).take (s.length - trl s - ldg s)) 7 shapes
end Go.Proofs.YtfpliihglgjijaaGreat.Ea
