/-
  Chapter 14 in plain words: what Parse, Format, Chars and FromChars return.
  No condition.
-/
import Derived.Test.YteojfkffmbcedaaGreatDoorGsW5
namespace Go.Proofs.YteojfkffmbcedaaGreatDoor
open Go.RowKit

/-- An element: the application identifier and the data. -/
abbrev Gs.El := List UInt8 × List UInt8
def Gs.isFix (r : Gs.Rule) : Bool := r.2.1 == r.2.2.1
/-- The error of the first element that has one. -/
def Gs.verL : List Gs.El → Int
  | [] => 0
  | x :: xs => if Gs.ver x.1 x.2 = 0 then Gs.verL xs else Gs.ver x.1 x.2
def Gs.verAll (xs : List Gs.El) : Int := if xs = [] then 5 else Gs.verL xs
/-- The bytes ahead of the first c. -/
def Gs.upto (c : UInt8) : List UInt8 → List UInt8
  | [] => []
  | b :: l => if b = c then [] else b :: Gs.upto c l
def Gs.parseF : Nat → List UInt8 → List Gs.El → List Gs.El × Int
  | 0, _, acc => (acc, 0)
  | n + 1, l, acc => match l with
    | [] => (acc, 0)
    | b :: r => if b ≠ 40 then ([], 9)
      else if (Gs.upto 41 r).length = r.length then ([], 9)
      else if Gs.ver (Gs.upto 41 r) (Gs.upto 40 (r.drop ((Gs.upto 41 r).length + 1))) ≠ 0 then ([], Gs.ver (Gs.upto 41 r) (Gs.upto 40 (r.drop ((Gs.upto 41 r).length + 1))))
      else Gs.parseF n ((r.drop ((Gs.upto 41 r).length + 1)).drop (Gs.upto 40 (r.drop ((Gs.upto 41 r).length + 1))).length) (acc ++ [(Gs.upto 41 r, Gs.upto 40 (r.drop ((Gs.upto 41 r).length + 1)))])
/-- What Parse returns. -/
def Gs.parse (l : List UInt8) : List Gs.El × Int := if 4096 < l.length then ([], 4) else if l = [] then ([], 5) else Gs.parseF l.length l []
def Gs.fmtE (x : Gs.El) : List UInt8 := (40 :: x.1) ++ (41 :: x.2)
/-- What Format returns. -/
def Gs.format (xs : List Gs.El) : List UInt8 × Int :=
  if Gs.verAll xs ≠ 0 then ([], Gs.verAll xs) else if 4096 < (xs.flatMap Gs.fmtE).length then ([], 4) else (xs.flatMap Gs.fmtE, 0)
/-- Is the length of the data fixed? -/
def Gs.fixed (ai : List UInt8) : Bool := match Gs.find ai with
  | none => true
  | some r => Gs.isFix r
def Gs.ints (l : List UInt8) : List Int := l.map fun c => (c.toNat : Int)
def Gs.chG : List Gs.El → List Int
  | [] => []
  | x :: xs => Gs.ints (x.1 ++ x.2) ++ ((if Gs.fixed x.1 || xs.isEmpty then [] else [256]) ++ Gs.chG xs)
/-- What Chars returns. -/
def Gs.chars (xs : List Gs.El) : List Int × Int :=
  if Gs.verAll xs ≠ 0 then ([], Gs.verAll xs) else if 4096 < (256 :: Gs.chG xs).length then ([], 4) else (256 :: Gs.chG xs, 0)
/-- The characters ahead of the first FNC1. -/
def Gs.run : List Int → List Int
  | [] => []
  | c :: l => if c = 256 then [] else c :: Gs.run l
def Gs.byte (c : Int) : UInt8 := UInt8.ofNat (c % 256).toNat
def Gs.text (l : List Int) : List UInt8 := l.map Gs.byte
def Gs.preN (l : List UInt8) (n : Nat) : Option (List UInt8 × Gs.Rule) :=
  if n ≤ l.length then (Gs.find (l.take n)).map fun r => (l.take n, r) else none
/-- The application identifier at the beginning. -/
def Gs.pre (l : List UInt8) : Option (List UInt8 × Gs.Rule) := (Gs.preN l 2).or ((Gs.preN l 3).or (Gs.preN l 4))
/-- What next returns: the element, the number of characters, the error. -/
def Gs.next (c : List Int) : Gs.El × Nat × Int :=
  if (Gs.run c).length = 0 then (([], []), 0, 9)
  else match Gs.pre (Gs.text (Gs.run c)) with
    | none => (([], []), 0, 29)
    | some (ai, r) =>
      if Gs.isFix r then
        if (Gs.run c).length < ai.length + r.2.2.1.toNat then (([], []), 0, 10)
        else if Gs.ver ai (((Gs.text (Gs.run c)).drop ai.length).take r.2.2.1.toNat) ≠ 0 then (([], []), 0, Gs.ver ai (((Gs.text (Gs.run c)).drop ai.length).take r.2.2.1.toNat))
        else ((ai, ((Gs.text (Gs.run c)).drop ai.length).take r.2.2.1.toNat), ai.length + r.2.2.1.toNat, 0)
      else if Gs.ver ai ((Gs.text (Gs.run c)).drop ai.length) ≠ 0 then (([], []), 0, Gs.ver ai ((Gs.text (Gs.run c)).drop ai.length))
      else if (Gs.run c).length + 1 = c.length then (([], []), 0, 9)
      else ((ai, (Gs.text (Gs.run c)).drop ai.length), min ((Gs.run c).length + 1) c.length, 0)
def Gs.fromF : Nat → List Int → List Gs.El → List Gs.El × Int
  | 0, _, acc => (acc, 0)
  | n + 1, c, acc => if c = [] then (acc, 0) else if (Gs.next c).2.2 ≠ 0 then ([], (Gs.next c).2.2) else Gs.fromF n (c.drop (Gs.next c).2.1) (acc ++ [(Gs.next c).1])
def Gs.okCh (c : Int) : Bool := (c == 256) || (decide (0 ≤ c) && decide (c ≤ 127))
/-- What FromChars returns. -/
def Gs.frChars (c : List Int) : List Gs.El × Int :=
  if 4096 < c.length then ([], 4)
  else if c.all Gs.okCh = false then ([], 6)
  else if c.headD 0 ≠ 256 then ([], 9)
  else if c.length = 1 then ([], 5)
  else Gs.fromF c.length (c.drop 1) []
end Go.Proofs.YteojfkffmbcedaaGreatDoor
