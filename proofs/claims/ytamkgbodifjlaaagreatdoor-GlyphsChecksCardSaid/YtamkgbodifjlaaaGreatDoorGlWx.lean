/-
  Chapter 48, the program: the font's tables (signs, letters).
  No condition.
-/
import Derived.Test.YtamkgbodifjlaaaGreatDoorGlW1
import Derived.Test.YtamkgbodifjlaaaGreatDoorGlPa
import Derived.Test.YtamkgbodifjlaaaGreatDoorArr
import Derived.Test.YtamkgbodifjlaaaGreatDoorRow3
import Derived.Lib.OthersKept

/-
  Chapter 48, the program: the font's tables (signs, letters).
  No condition.
-/
namespace Go.Proofs.YtamkgbodifjlaaaGreatDoor
set_option linter.unusedVariables false
open Go.RowKit

def bS (l : List UInt8) : ByteArray := ⟨l.toArray⟩
theorem bS_list (l : List UInt8) : (bS l).data.toList = l := by simp [bS]
theorem bS_size (l : List UInt8) : (bS l).size = l.length := by simp [bS, ByteArray.size]

def Gl.sgnT : List (List UInt8) := [
  [48, 48, 48, 48, 48, 32, 48, 48, 48, 48, 48, 32, 48, 48, 48, 48, 48, 32, 48, 48, 48, 48, 48, 32, 48, 48, 48, 48, 48, 32, 48, 48, 48, 48, 48, 32, 48, 48, 48, 48, 48],
  [49, 48, 48, 48, 48, 32, 49, 48, 48, 48, 48, 32, 49, 48, 48, 48, 48, 32, 49, 48, 48, 48, 48, 32, 49, 48, 48, 48, 48, 32, 48, 48, 48, 48, 48, 32, 49, 48, 48, 48, 48],
  [49, 48, 49, 48, 48, 32, 49, 48, 49, 48, 48, 32, 49, 48, 49, 48, 48, 32, 48, 48, 48, 48, 48, 32, 48, 48, 48, 48, 48, 32, 48, 48, 48, 48, 48, 32, 48, 48, 48, 48, 48],
  [48, 49, 48, 49, 48, 32, 48, 49, 48, 49, 48, 32, 49, 49, 49, 49, 49, 32, 48, 49, 48, 49, 48, 32, 49, 49, 49, 49, 49, 32, 48, 49, 48, 49, 48, 32, 48, 49, 48, 49, 48],
  [48, 48, 49, 48, 48, 32, 48, 49, 49, 49, 49, 32, 49, 48, 49, 48, 48, 32, 48, 49, 49, 49, 48, 32, 48, 48, 49, 48, 49, 32, 49, 49, 49, 49, 48, 32, 48, 48, 49, 48, 48],
  [49, 49, 48, 48, 48, 32, 49, 49, 48, 48, 49, 32, 48, 48, 48, 49, 48, 32, 48, 48, 49, 48, 48, 32, 48, 49, 48, 48, 48, 32, 49, 48, 48, 49, 49, 32, 48, 48, 48, 49, 49],
  [48, 49, 49, 48, 48, 32, 49, 48, 48, 49, 48, 32, 49, 48, 49, 48, 48, 32, 48, 49, 48, 48, 48, 32, 49, 48, 49, 48, 49, 32, 49, 48, 48, 49, 48, 32, 48, 49, 49, 48, 49],
  [49, 49, 48, 48, 48, 32, 48, 49, 48, 48, 48, 32, 49, 48, 48, 48, 48, 32, 48, 48, 48, 48, 48, 32, 48, 48, 48, 48, 48, 32, 48, 48, 48, 48, 48, 32, 48, 48, 48, 48, 48],
  [48, 48, 49, 48, 48, 32, 48, 49, 48, 48, 48, 32, 49, 48, 48, 48, 48, 32, 49, 48, 48, 48, 48, 32, 49, 48, 48, 48, 48, 32, 48, 49, 48, 48, 48, 32, 48, 48, 49, 48, 48],
  [49, 48, 48, 48, 48, 32, 48, 49, 48, 48, 48, 32, 48, 48, 49, 48, 48, 32, 48, 48, 49, 48, 48, 32, 48, 48, 49, 48, 48, 32, 48, 49, 48, 48, 48, 32, 49, 48, 48, 48, 48],
  [48, 48, 48, 48, 48, 32, 48, 48, 49, 48, 48, 32, 49, 48, 49, 48, 49, 32, 48, 49, 49, 49, 48, 32, 49, 48, 49, 48, 49, 32, 48, 48, 49, 48, 48, 32, 48, 48, 48, 48, 48],
  [48, 48, 48, 48, 48, 32, 48, 48, 49, 48, 48, 32, 48, 48, 49, 48, 48, 32, 49, 49, 49, 49, 49, 32, 48, 48, 49, 48, 48, 32, 48, 48, 49, 48, 48, 32, 48, 48, 48, 48, 48],
  [48, 48, 48, 48, 48, 32, 48, 48, 48, 48, 48, 32, 48, 48, 48, 48, 48, 32, 48, 48, 48, 48, 48, 32, 49, 49, 48, 48, 48, 32, 48, 49, 48, 48, 48, 32, 49, 48, 48, 48, 48],
  [48, 48, 48, 48, 48, 32, 48, 48, 48, 48, 48, 32, 48, 48, 48, 48, 48, 32, 49, 49, 49, 49, 49, 32, 48, 48, 48, 48, 48, 32, 48, 48, 48, 48, 48, 32, 48, 48, 48, 48, 48],
  [48, 48, 48, 48, 48, 32, 48, 48, 48, 48, 48, 32, 48, 48, 48, 48, 48, 32, 48, 48, 48, 48, 48, 32, 48, 48, 48, 48, 48, 32, 49, 49, 48, 48, 48, 32, 49, 49, 48, 48, 48],
  [48, 48, 48, 48, 48, 32, 48, 48, 48, 48, 49, 32, 48, 48, 48, 49, 48, 32, 48, 48, 49, 48, 48, 32, 48, 49, 48, 48, 48, 32, 49, 48, 48, 48, 48, 32, 48, 48, 48, 48, 48],
  [48, 49, 49, 49, 48, 32, 49, 48, 48, 49, 49, 32, 49, 48, 49, 48, 49, 32, 49, 48, 49, 48, 49, 32, 49, 48, 49, 48, 49, 32, 49, 49, 48, 48, 49, 32, 48, 49, 49, 49, 48],
  [48, 48, 49, 48, 48, 32, 48, 49, 49, 48, 48, 32, 49, 48, 49, 48, 48, 32, 48, 48, 49, 48, 48, 32, 48, 48, 49, 48, 48, 32, 48, 48, 49, 48, 48, 32, 49, 49, 49, 49, 49],
  [48, 49, 49, 49, 48, 32, 49, 48, 48, 48, 49, 32, 48, 48, 48, 48, 49, 32, 48, 48, 48, 49, 48, 32, 48, 48, 49, 48, 48, 32, 48, 49, 48, 48, 48, 32, 49, 49, 49, 49, 49],
  [49, 49, 49, 49, 49, 32, 48, 48, 48, 49, 48, 32, 48, 48, 49, 48, 48, 32, 48, 48, 48, 49, 48, 32, 48, 48, 48, 48, 49, 32, 49, 48, 48, 48, 49, 32, 48, 49, 49, 49, 48],
  [48, 48, 48, 49, 48, 32, 48, 48, 49, 49, 48, 32, 48, 49, 48, 49, 48, 32, 49, 48, 48, 49, 48, 32, 49, 49, 49, 49, 49, 32, 48, 48, 48, 49, 48, 32, 48, 48, 48, 49, 48],
  [49, 49, 49, 49, 49, 32, 49, 48, 48, 48, 48, 32, 49, 49, 49, 49, 48, 32, 48, 48, 48, 48, 49, 32, 48, 48, 48, 48, 49, 32, 49, 48, 48, 48, 49, 32, 48, 49, 49, 49, 48],
  [48, 48, 49, 49, 48, 32, 48, 49, 48, 48, 48, 32, 49, 48, 48, 48, 48, 32, 49, 49, 49, 49, 48, 32, 49, 48, 48, 48, 49, 32, 49, 48, 48, 48, 49, 32, 48, 49, 49, 49, 48],
  [49, 49, 49, 49, 49, 32, 48, 48, 48, 48, 49, 32, 48, 48, 48, 49, 48, 32, 48, 48, 49, 48, 48, 32, 48, 49, 48, 48, 48, 32, 48, 49, 48, 48, 48, 32, 48, 49, 48, 48, 48],
  [48, 49, 49, 49, 48, 32, 49, 48, 48, 48, 49, 32, 48, 49, 48, 49, 48, 32, 48, 48, 49, 48, 48, 32, 48, 49, 48, 49, 48, 32, 49, 48, 48, 48, 49, 32, 48, 49, 49, 49, 48],
  [48, 49, 49, 49, 48, 32, 49, 48, 48, 48, 49, 32, 49, 48, 48, 48, 49, 32, 48, 49, 49, 49, 49, 32, 48, 48, 48, 48, 49, 32, 48, 48, 48, 49, 48, 32, 48, 49, 49, 48, 48],
  [48, 48, 48, 48, 48, 32, 49, 49, 48, 48, 48, 32, 49, 49, 48, 48, 48, 32, 48, 48, 48, 48, 48, 32, 49, 49, 48, 48, 48, 32, 49, 49, 48, 48, 48, 32, 48, 48, 48, 48, 48],
  [48, 48, 48, 48, 48, 32, 49, 49, 48, 48, 48, 32, 49, 49, 48, 48, 48, 32, 48, 48, 48, 48, 48, 32, 49, 49, 48, 48, 48, 32, 48, 49, 48, 48, 48, 32, 49, 48, 48, 48, 48],
  [48, 48, 48, 49, 48, 32, 48, 48, 49, 48, 48, 32, 48, 49, 48, 48, 48, 32, 49, 48, 48, 48, 48, 32, 48, 49, 48, 48, 48, 32, 48, 48, 49, 48, 48, 32, 48, 48, 48, 49, 48],
  [48, 48, 48, 48, 48, 32, 48, 48, 48, 48, 48, 32, 49, 49, 49, 49, 49, 32, 48, 48, 48, 48, 48, 32, 49, 49, 49, 49, 49, 32, 48, 48, 48, 48, 48, 32, 48, 48, 48, 48, 48],
  [49, 48, 48, 48, 48, 32, 48, 49, 48, 48, 48, 32, 48, 48, 49, 48, 48, 32, 48, 48, 48, 49, 48, 32, 48, 48, 49, 48, 48, 32, 48, 49, 48, 48, 48, 32, 49, 48, 48, 48, 48],
  [48, 49, 49, 49, 48, 32, 49, 48, 48, 48, 49, 32, 48, 48, 48, 48, 49, 32, 48, 48, 48, 49, 48, 32, 48, 48, 49, 48, 48, 32, 48, 48, 48, 48, 48, 32, 48, 48, 49, 48, 48]]
def Gl.sgnC : List UInt8 := [32, 33, 34, 35, 36, 37, 38, 39, 40, 41, 42, 43, 44, 45, 46, 47, 48, 49, 50, 51, 52, 53, 54, 55, 56, 57, 58, 59, 60, 61, 62, 63]
theorem Gl.sgn_ok : ∀ i : Fin 32, Gl.sgnT.getD i.1 [] = Gl.txt (Gl.sgnC.getD i.1 0) := by decide +kernel
def Gl.sgnV : Array Value := #[.string ⟨#[48, 48, 48, 48, 48, 32, 48, 48, 48, 48, 48, 32, 48, 48, 48, 48, 48, 32, 48, 48, 48, 48, 48, 32, 48, 48, 48, 48, 48, 32, 48, 48, 48, 48, 48, 32, 48, 48, 48, 48, 48]⟩, .string ⟨#[49, 48, 48, 48, 48, 32, 49, 48, 48, 48, 48, 32, 49, 48, 48, 48, 48, 32, 49, 48, 48, 48, 48, 32, 49, 48, 48, 48, 48, 32, 48, 48, 48, 48, 48, 32, 49, 48, 48, 48, 48]⟩, .string ⟨#[49, 48, 49, 48, 48, 32, 49, 48, 49, 48, 48, 32, 49, 48, 49, 48, 48, 32, 48, 48, 48, 48, 48, 32, 48, 48, 48, 48, 48, 32, 48, 48, 48, 48, 48, 32, 48, 48, 48, 48, 48]⟩, .string ⟨#[48, 49, 48, 49, 48, 32, 48, 49, 48, 49, 48, 32, 49, 49, 49, 49, 49, 32, 48, 49, 48, 49, 48, 32, 49, 49, 49, 49, 49, 32, 48, 49, 48, 49, 48, 32, 48, 49, 48, 49, 48]⟩, .string ⟨#[48, 48, 49, 48, 48, 32, 48, 49, 49, 49, 49, 32, 49, 48, 49, 48, 48, 32, 48, 49, 49, 49, 48, 32, 48, 48, 49, 48, 49, 32, 49, 49, 49, 49, 48, 32, 48, 48, 49, 48, 48]⟩, .string ⟨#[49, 49, 48, 48, 48, 32, 49, 49, 48, 48, 49, 32, 48, 48, 48, 49, 48, 32, 48, 48, 49, 48, 48, 32, 48, 49, 48, 48, 48, 32, 49, 48, 48, 49, 49, 32, 48, 48, 48, 49, 49]⟩, .string ⟨#[48, 49, 49, 48, 48, 32, 49, 48, 48, 49, 48, 32, 49, 48, 49, 48, 48, 32, 48, 49, 48, 48, 48, 32, 49, 48, 49, 48, 49, 32, 49, 48, 48, 49, 48, 32, 48, 49, 49, 48, 49]⟩, .string ⟨#[49, 49, 48, 48, 48, 32, 48, 49, 48, 48, 48, 32, 49, 48, 48, 48, 48, 32, 48, 48, 48, 48, 48, 32, 48, 48, 48, 48, 48, 32, 48, 48, 48, 48, 48, 32, 48, 48, 48, 48, 48]⟩, .string ⟨#[48, 48, 49, 48, 48, 32, 48, 49, 48, 48, 48, 32, 49, 48, 48, 48, 48, 32, 49, 48, 48, 48, 48, 32, 49, 48, 48, 48, 48, 32, 48, 49, 48, 48, 48, 32, 48, 48, 49, 48, 48]⟩, .string ⟨#[49, 48, 48, 48, 48, 32, 48, 49, 48, 48, 48, 32, 48, 48, 49, 48, 48, 32, 48, 48, 49, 48, 48, 32, 48, 48, 49, 48, 48, 32, 48, 49, 48, 48, 48, 32, 49, 48, 48, 48, 48]⟩, .string ⟨#[48, 48, 48, 48, 48, 32, 48, 48, 49, 48, 48, 32, 49, 48, 49, 48, 49, 32, 48, 49, 49, 49, 48, 32, 49, 48, 49, 48, 49, 32, 48, 48, 49, 48, 48, 32, 48, 48, 48, 48, 48]⟩, .string ⟨#[48, 48, 48, 48, 48, 32, 48, 48, 49, 48, 48, 32, 48, 48, 49, 48, 48, 32, 49, 49, 49, 49, 49, 32, 48, 48, 49, 48, 48, 32, 48, 48, 49, 48, 48, 32, 48, 48, 48, 48, 48]⟩, .string ⟨#[48, 48, 48, 48, 48, 32, 48, 48, 48, 48, 48, 32, 48, 48, 48, 48, 48, 32, 48, 48, 48, 48, 48, 32, 49, 49, 48, 48, 48, 32, 48, 49, 48, 48, 48, 32, 49, 48, 48, 48, 48]⟩, .string ⟨#[48, 48, 48, 48, 48, 32, 48, 48, 48, 48, 48, 32, 48, 48, 48, 48, 48, 32, 49, 49, 49, 49, 49, 32, 48, 48, 48, 48, 48, 32, 48, 48, 48, 48, 48, 32, 48, 48, 48, 48, 48]⟩, .string ⟨#[48, 48, 48, 48, 48, 32, 48, 48, 48, 48, 48, 32, 48, 48, 48, 48, 48, 32, 48, 48, 48, 48, 48, 32, 48, 48, 48, 48, 48, 32, 49, 49, 48, 48, 48, 32, 49, 49, 48, 48, 48]⟩, .string ⟨#[48, 48, 48, 48, 48, 32, 48, 48, 48, 48, 49, 32, 48, 48, 48, 49, 48, 32, 48, 48, 49, 48, 48, 32, 48, 49, 48, 48, 48, 32, 49, 48, 48, 48, 48, 32, 48, 48, 48, 48, 48]⟩, .string ⟨#[48, 49, 49, 49, 48, 32, 49, 48, 48, 49, 49, 32, 49, 48, 49, 48, 49, 32, 49, 48, 49, 48, 49, 32, 49, 48, 49, 48, 49, 32, 49, 49, 48, 48, 49, 32, 48, 49, 49, 49, 48]⟩, .string ⟨#[48, 48, 49, 48, 48, 32, 48, 49, 49, 48, 48, 32, 49, 48, 49, 48, 48, 32, 48, 48, 49, 48, 48, 32, 48, 48, 49, 48, 48, 32, 48, 48, 49, 48, 48, 32, 49, 49, 49, 49, 49]⟩, .string ⟨#[48, 49, 49, 49, 48, 32, 49, 48, 48, 48, 49, 32, 48, 48, 48, 48, 49, 32, 48, 48, 48, 49, 48, 32, 48, 48, 49, 48, 48, 32, 48, 49, 48, 48, 48, 32, 49, 49, 49, 49, 49]⟩, .string ⟨#[49, 49, 49, 49, 49, 32, 48, 48, 48, 49, 48, 32, 48, 48, 49, 48, 48, 32, 48, 48, 48, 49, 48, 32, 48, 48, 48, 48, 49, 32, 49, 48, 48, 48, 49, 32, 48, 49, 49, 49, 48]⟩, .string ⟨#[48, 48, 48, 49, 48, 32, 48, 48, 49, 49, 48, 32, 48, 49, 48, 49, 48, 32, 49, 48, 48, 49, 48, 32, 49, 49, 49, 49, 49, 32, 48, 48, 48, 49, 48, 32, 48, 48, 48, 49, 48]⟩, .string ⟨#[49, 49, 49, 49, 49, 32, 49, 48, 48, 48, 48, 32, 49, 49, 49, 49, 48, 32, 48, 48, 48, 48, 49, 32, 48, 48, 48, 48, 49, 32, 49, 48, 48, 48, 49, 32, 48, 49, 49, 49, 48]⟩, .string ⟨#[48, 48, 49, 49, 48, 32, 48, 49, 48, 48, 48, 32, 49, 48, 48, 48, 48, 32, 49, 49, 49, 49, 48, 32, 49, 48, 48, 48, 49, 32, 49, 48, 48, 48, 49, 32, 48, 49, 49, 49, 48]⟩, .string ⟨#[49, 49, 49, 49, 49, 32, 48, 48, 48, 48, 49, 32, 48, 48, 48, 49, 48, 32, 48, 48, 49, 48, 48, 32, 48, 49, 48, 48, 48, 32, 48, 49, 48, 48, 48, 32, 48, 49, 48, 48, 48]⟩, .string ⟨#[48, 49, 49, 49, 48, 32, 49, 48, 48, 48, 49, 32, 48, 49, 48, 49, 48, 32, 48, 48, 49, 48, 48, 32, 48, 49, 48, 49, 48, 32, 49, 48, 48, 48, 49, 32, 48, 49, 49, 49, 48]⟩, .string ⟨#[48, 49, 49, 49, 48, 32, 49, 48, 48, 48, 49, 32, 49, 48, 48, 48, 49, 32, 48, 49, 49, 49, 49, 32, 48, 48, 48, 48, 49, 32, 48, 48, 48, 49, 48, 32, 48, 49, 49, 48, 48]⟩, .string ⟨#[48, 48, 48, 48, 48, 32, 49, 49, 48, 48, 48, 32, 49, 49, 48, 48, 48, 32, 48, 48, 48, 48, 48, 32, 49, 49, 48, 48, 48, 32, 49, 49, 48, 48, 48, 32, 48, 48, 48, 48, 48]⟩, .string ⟨#[48, 48, 48, 48, 48, 32, 49, 49, 48, 48, 48, 32, 49, 49, 48, 48, 48, 32, 48, 48, 48, 48, 48, 32, 49, 49, 48, 48, 48, 32, 48, 49, 48, 48, 48, 32, 49, 48, 48, 48, 48]⟩, .string ⟨#[48, 48, 48, 49, 48, 32, 48, 48, 49, 48, 48, 32, 48, 49, 48, 48, 48, 32, 49, 48, 48, 48, 48, 32, 48, 49, 48, 48, 48, 32, 48, 48, 49, 48, 48, 32, 48, 48, 48, 49, 48]⟩, .string ⟨#[48, 48, 48, 48, 48, 32, 48, 48, 48, 48, 48, 32, 49, 49, 49, 49, 49, 32, 48, 48, 48, 48, 48, 32, 49, 49, 49, 49, 49, 32, 48, 48, 48, 48, 48, 32, 48, 48, 48, 48, 48]⟩, .string ⟨#[49, 48, 48, 48, 48, 32, 48, 49, 48, 48, 48, 32, 48, 48, 49, 48, 48, 32, 48, 48, 48, 49, 48, 32, 48, 48, 49, 48, 48, 32, 48, 49, 48, 48, 48, 32, 49, 48, 48, 48, 48]⟩, .string ⟨#[48, 49, 49, 49, 48, 32, 49, 48, 48, 48, 49, 32, 48, 48, 48, 48, 49, 32, 48, 48, 48, 49, 48, 32, 48, 48, 49, 48, 48, 32, 48, 48, 48, 48, 48, 32, 48, 48, 49, 48, 48]⟩]
theorem Gl.sgnV_eq : Gl.sgnV = (Gl.sgnT.map fun l => Value.string (bS l)).toArray := rfl
theorem sgn_cell (i : Nat) (hi : i < 32) (w : World) : (w.alloc (.cells Gl.sgnV 137)).cell? ⟨w.heap.size, i, none⟩ = some (.string (bS (Gl.txt (Gl.sgnC.getD i 0)))) := by
  refine new_cell _ _ w ?_
  have h := Gl.sgn_ok ⟨i, hi⟩
  have hl : i < Gl.sgnT.length := hi
  rw [List.getD_eq_getElem?_getD, List.getElem?_eq_getElem hl, Option.getD_some] at h
  rw [Gl.sgnV_eq, List.getElem?_toArray, List.getElem?_map, List.getElem?_eq_getElem hl, ← h]
  rfl

def Gl.ltrT : List (List UInt8) := [
  [48, 49, 49, 49, 48, 32, 49, 48, 48, 48, 49, 32, 49, 48, 49, 49, 49, 32, 49, 48, 49, 48, 49, 32, 49, 48, 49, 49, 49, 32, 49, 48, 48, 48, 48, 32, 48, 49, 49, 49, 48],
  [48, 49, 49, 49, 48, 32, 49, 48, 48, 48, 49, 32, 49, 48, 48, 48, 49, 32, 49, 49, 49, 49, 49, 32, 49, 48, 48, 48, 49, 32, 49, 48, 48, 48, 49, 32, 49, 48, 48, 48, 49],
  [49, 49, 49, 49, 48, 32, 49, 48, 48, 48, 49, 32, 49, 48, 48, 48, 49, 32, 49, 49, 49, 49, 48, 32, 49, 48, 48, 48, 49, 32, 49, 48, 48, 48, 49, 32, 49, 49, 49, 49, 48],
  [48, 49, 49, 49, 49, 32, 49, 48, 48, 48, 48, 32, 49, 48, 48, 48, 48, 32, 49, 48, 48, 48, 48, 32, 49, 48, 48, 48, 48, 32, 49, 48, 48, 48, 48, 32, 48, 49, 49, 49, 49],
  [49, 49, 49, 48, 48, 32, 49, 48, 48, 49, 48, 32, 49, 48, 48, 48, 49, 32, 49, 48, 48, 48, 49, 32, 49, 48, 48, 48, 49, 32, 49, 48, 48, 49, 48, 32, 49, 49, 49, 48, 48],
  [49, 49, 49, 49, 49, 32, 49, 48, 48, 48, 48, 32, 49, 48, 48, 48, 48, 32, 49, 49, 49, 49, 48, 32, 49, 48, 48, 48, 48, 32, 49, 48, 48, 48, 48, 32, 49, 49, 49, 49, 49],
  [49, 49, 49, 49, 49, 32, 49, 48, 48, 48, 48, 32, 49, 48, 48, 48, 48, 32, 49, 49, 49, 48, 48, 32, 49, 48, 48, 48, 48, 32, 49, 48, 48, 48, 48, 32, 49, 48, 48, 48, 48],
  [48, 49, 49, 49, 48, 32, 49, 48, 48, 48, 49, 32, 49, 48, 48, 48, 48, 32, 49, 48, 49, 49, 49, 32, 49, 48, 48, 48, 49, 32, 49, 48, 48, 48, 49, 32, 48, 49, 49, 49, 49],
  [49, 48, 48, 48, 49, 32, 49, 48, 48, 48, 49, 32, 49, 48, 48, 48, 49, 32, 49, 49, 49, 49, 49, 32, 49, 48, 48, 48, 49, 32, 49, 48, 48, 48, 49, 32, 49, 48, 48, 48, 49],
  [49, 49, 49, 49, 49, 32, 48, 48, 49, 48, 48, 32, 48, 48, 49, 48, 48, 32, 48, 48, 49, 48, 48, 32, 48, 48, 49, 48, 48, 32, 48, 48, 49, 48, 48, 32, 49, 49, 49, 49, 49],
  [48, 48, 49, 49, 49, 32, 48, 48, 48, 49, 48, 32, 48, 48, 48, 49, 48, 32, 48, 48, 48, 49, 48, 32, 48, 48, 48, 49, 48, 32, 49, 48, 48, 49, 48, 32, 48, 49, 49, 48, 48],
  [49, 48, 48, 48, 49, 32, 49, 48, 48, 49, 48, 32, 49, 48, 49, 48, 48, 32, 49, 49, 48, 48, 48, 32, 49, 48, 49, 48, 48, 32, 49, 48, 48, 49, 48, 32, 49, 48, 48, 48, 49],
  [49, 48, 48, 48, 48, 32, 49, 48, 48, 48, 48, 32, 49, 48, 48, 48, 48, 32, 49, 48, 48, 48, 48, 32, 49, 48, 48, 48, 48, 32, 49, 48, 48, 48, 48, 32, 49, 49, 49, 49, 49],
  [49, 48, 48, 48, 49, 32, 49, 49, 48, 49, 49, 32, 49, 48, 49, 48, 49, 32, 49, 48, 49, 48, 49, 32, 49, 48, 48, 48, 49, 32, 49, 48, 48, 48, 49, 32, 49, 48, 48, 48, 49],
  [49, 48, 48, 48, 49, 32, 49, 48, 48, 48, 49, 32, 49, 49, 48, 48, 49, 32, 49, 48, 49, 48, 49, 32, 49, 48, 48, 49, 49, 32, 49, 48, 48, 48, 49, 32, 49, 48, 48, 48, 49],
  [48, 49, 49, 49, 48, 32, 49, 48, 48, 48, 49, 32, 49, 48, 48, 48, 49, 32, 49, 48, 48, 48, 49, 32, 49, 48, 48, 48, 49, 32, 49, 48, 48, 48, 49, 32, 48, 49, 49, 49, 48],
  [49, 49, 49, 49, 48, 32, 49, 48, 48, 48, 49, 32, 49, 48, 48, 48, 49, 32, 49, 49, 49, 49, 48, 32, 49, 48, 48, 48, 48, 32, 49, 48, 48, 48, 48, 32, 49, 48, 48, 48, 48],
  [48, 49, 49, 49, 48, 32, 49, 48, 48, 48, 49, 32, 49, 48, 48, 48, 49, 32, 49, 48, 48, 48, 49, 32, 49, 48, 49, 48, 49, 32, 49, 48, 48, 49, 48, 32, 48, 49, 49, 48, 49],
  [49, 49, 49, 49, 48, 32, 49, 48, 48, 48, 49, 32, 49, 48, 48, 48, 49, 32, 49, 49, 49, 49, 48, 32, 49, 48, 49, 49, 48, 32, 49, 48, 48, 49, 49, 32, 49, 48, 48, 48, 49],
  [48, 49, 49, 49, 49, 32, 49, 48, 48, 48, 48, 32, 49, 48, 48, 48, 48, 32, 48, 49, 49, 49, 48, 32, 48, 48, 48, 48, 49, 32, 48, 48, 48, 48, 49, 32, 49, 49, 49, 49, 48],
  [49, 49, 49, 49, 49, 32, 48, 48, 49, 48, 48, 32, 48, 48, 49, 48, 48, 32, 48, 48, 49, 48, 48, 32, 48, 48, 49, 48, 48, 32, 48, 48, 49, 48, 48, 32, 48, 48, 49, 48, 48],
  [49, 48, 48, 48, 49, 32, 49, 48, 48, 48, 49, 32, 49, 48, 48, 48, 49, 32, 49, 48, 48, 48, 49, 32, 49, 48, 48, 48, 49, 32, 49, 48, 48, 48, 49, 32, 48, 49, 49, 49, 48],
  [49, 48, 48, 48, 49, 32, 49, 48, 48, 48, 49, 32, 49, 48, 48, 48, 49, 32, 49, 48, 48, 48, 49, 32, 49, 48, 48, 48, 49, 32, 48, 49, 48, 49, 48, 32, 48, 48, 49, 48, 48],
  [49, 48, 48, 48, 49, 32, 49, 48, 48, 48, 49, 32, 49, 48, 48, 48, 49, 32, 49, 48, 49, 48, 49, 32, 49, 48, 49, 48, 49, 32, 49, 49, 48, 49, 49, 32, 49, 48, 48, 48, 49],
  [49, 48, 48, 48, 49, 32, 49, 48, 48, 48, 49, 32, 48, 49, 48, 49, 48, 32, 48, 48, 49, 48, 48, 32, 48, 49, 48, 49, 48, 32, 49, 48, 48, 48, 49, 32, 49, 48, 48, 48, 49],
  [49, 48, 48, 48, 49, 32, 49, 48, 48, 48, 49, 32, 48, 49, 48, 49, 48, 32, 48, 48, 49, 48, 48, 32, 48, 48, 49, 48, 48, 32, 48, 48, 49, 48, 48, 32, 48, 48, 49, 48, 48],
  [49, 49, 49, 49, 49, 32, 48, 48, 48, 48, 49, 32, 48, 48, 48, 49, 48, 32, 48, 48, 49, 48, 48, 32, 48, 49, 48, 48, 48, 32, 49, 48, 48, 48, 48, 32, 49, 49, 49, 49, 49],
  [49, 49, 49, 48, 48, 32, 49, 48, 48, 48, 48, 32, 49, 48, 48, 48, 48, 32, 49, 48, 48, 48, 48, 32, 49, 48, 48, 48, 48, 32, 49, 48, 48, 48, 48, 32, 49, 49, 49, 48, 48],
  [49, 49, 49, 48, 48, 32, 48, 48, 49, 48, 48, 32, 48, 48, 49, 48, 48, 32, 48, 48, 49, 48, 48, 32, 48, 48, 49, 48, 48, 32, 48, 48, 49, 48, 48, 32, 49, 49, 49, 48, 48],
  [48, 48, 48, 48, 48, 32, 48, 48, 48, 48, 48, 32, 48, 48, 48, 48, 48, 32, 48, 48, 48, 48, 48, 32, 48, 48, 48, 48, 48, 32, 48, 48, 48, 48, 48, 32, 49, 49, 49, 49, 49]]
def Gl.ltrC : List UInt8 := [64, 65, 66, 67, 68, 69, 70, 71, 72, 73, 74, 75, 76, 77, 78, 79, 80, 81, 82, 83, 84, 85, 86, 87, 88, 89, 90, 91, 93, 95]
theorem Gl.ltr_ok : ∀ i : Fin 30, Gl.ltrT.getD i.1 [] = Gl.txt (Gl.ltrC.getD i.1 0) := by decide +kernel
def Gl.ltrV : Array Value := #[.string ⟨#[48, 49, 49, 49, 48, 32, 49, 48, 48, 48, 49, 32, 49, 48, 49, 49, 49, 32, 49, 48, 49, 48, 49, 32, 49, 48, 49, 49, 49, 32, 49, 48, 48, 48, 48, 32, 48, 49, 49, 49, 48]⟩, .string ⟨#[48, 49, 49, 49, 48, 32, 49, 48, 48, 48, 49, 32, 49, 48, 48, 48, 49, 32, 49, 49, 49, 49, 49, 32, 49, 48, 48, 48, 49, 32, 49, 48, 48, 48, 49, 32, 49, 48, 48, 48, 49]⟩, .string ⟨#[49, 49, 49, 49, 48, 32, 49, 48, 48, 48, 49, 32, 49, 48, 48, 48, 49, 32, 49, 49, 49, 49, 48, 32, 49, 48, 48, 48, 49, 32, 49, 48, 48, 48, 49, 32, 49, 49, 49, 49, 48]⟩, .string ⟨#[48, 49, 49, 49, 49, 32, 49, 48, 48, 48, 48, 32, 49, 48, 48, 48, 48, 32, 49, 48, 48, 48, 48, 32, 49, 48, 48, 48, 48, 32, 49, 48, 48, 48, 48, 32, 48, 49, 49, 49, 49]⟩, .string ⟨#[49, 49, 49, 48, 48, 32, 49, 48, 48, 49, 48, 32, 49, 48, 48, 48, 49, 32, 49, 48, 48, 48, 49, 32, 49, 48, 48, 48, 49, 32, 49, 48, 48, 49, 48, 32, 49, 49, 49, 48, 48]⟩, .string ⟨#[49, 49, 49, 49, 49, 32, 49, 48, 48, 48, 48, 32, 49, 48, 48, 48, 48, 32, 49, 49, 49, 49, 48, 32, 49, 48, 48, 48, 48, 32, 49, 48, 48, 48, 48, 32, 49, 49, 49, 49, 49]⟩, .string ⟨#[49, 49, 49, 49, 49, 32, 49, 48, 48, 48, 48, 32, 49, 48, 48, 48, 48, 32, 49, 49, 49, 48, 48, 32, 49, 48, 48, 48, 48, 32, 49, 48, 48, 48, 48, 32, 49, 48, 48, 48, 48]⟩, .string ⟨#[48, 49, 49, 49, 48, 32, 49, 48, 48, 48, 49, 32, 49, 48, 48, 48, 48, 32, 49, 48, 49, 49, 49, 32, 49, 48, 48, 48, 49, 32, 49, 48, 48, 48, 49, 32, 48, 49, 49, 49, 49]⟩, .string ⟨#[49, 48, 48, 48, 49, 32, 49, 48, 48, 48, 49, 32, 49, 48, 48, 48, 49, 32, 49, 49, 49, 49, 49, 32, 49, 48, 48, 48, 49, 32, 49, 48, 48, 48, 49, 32, 49, 48, 48, 48, 49]⟩, .string ⟨#[49, 49, 49, 49, 49, 32, 48, 48, 49, 48, 48, 32, 48, 48, 49, 48, 48, 32, 48, 48, 49, 48, 48, 32, 48, 48, 49, 48, 48, 32, 48, 48, 49, 48, 48, 32, 49, 49, 49, 49, 49]⟩, .string ⟨#[48, 48, 49, 49, 49, 32, 48, 48, 48, 49, 48, 32, 48, 48, 48, 49, 48, 32, 48, 48, 48, 49, 48, 32, 48, 48, 48, 49, 48, 32, 49, 48, 48, 49, 48, 32, 48, 49, 49, 48, 48]⟩, .string ⟨#[49, 48, 48, 48, 49, 32, 49, 48, 48, 49, 48, 32, 49, 48, 49, 48, 48, 32, 49, 49, 48, 48, 48, 32, 49, 48, 49, 48, 48, 32, 49, 48, 48, 49, 48, 32, 49, 48, 48, 48, 49]⟩, .string ⟨#[49, 48, 48, 48, 48, 32, 49, 48, 48, 48, 48, 32, 49, 48, 48, 48, 48, 32, 49, 48, 48, 48, 48, 32, 49, 48, 48, 48, 48, 32, 49, 48, 48, 48, 48, 32, 49, 49, 49, 49, 49]⟩, .string ⟨#[49, 48, 48, 48, 49, 32, 49, 49, 48, 49, 49, 32, 49, 48, 49, 48, 49, 32, 49, 48, 49, 48, 49, 32, 49, 48, 48, 48, 49, 32, 49, 48, 48, 48, 49, 32, 49, 48, 48, 48, 49]⟩, .string ⟨#[49, 48, 48, 48, 49, 32, 49, 48, 48, 48, 49, 32, 49, 49, 48, 48, 49, 32, 49, 48, 49, 48, 49, 32, 49, 48, 48, 49, 49, 32, 49, 48, 48, 48, 49, 32, 49, 48, 48, 48, 49]⟩, .string ⟨#[48, 49, 49, 49, 48, 32, 49, 48, 48, 48, 49, 32, 49, 48, 48, 48, 49, 32, 49, 48, 48, 48, 49, 32, 49, 48, 48, 48, 49, 32, 49, 48, 48, 48, 49, 32, 48, 49, 49, 49, 48]⟩, .string ⟨#[49, 49, 49, 49, 48, 32, 49, 48, 48, 48, 49, 32, 49, 48, 48, 48, 49, 32, 49, 49, 49, 49, 48, 32, 49, 48, 48, 48, 48, 32, 49, 48, 48, 48, 48, 32, 49, 48, 48, 48, 48]⟩, .string ⟨#[48, 49, 49, 49, 48, 32, 49, 48, 48, 48, 49, 32, 49, 48, 48, 48, 49, 32, 49, 48, 48, 48, 49, 32, 49, 48, 49, 48, 49, 32, 49, 48, 48, 49, 48, 32, 48, 49, 49, 48, 49]⟩, .string ⟨#[49, 49, 49, 49, 48, 32, 49, 48, 48, 48, 49, 32, 49, 48, 48, 48, 49, 32, 49, 49, 49, 49, 48, 32, 49, 48, 49, 49, 48, 32, 49, 48, 48, 49, 49, 32, 49, 48, 48, 48, 49]⟩, .string ⟨#[48, 49, 49, 49, 49, 32, 49, 48, 48, 48, 48, 32, 49, 48, 48, 48, 48, 32, 48, 49, 49, 49, 48, 32, 48, 48, 48, 48, 49, 32, 48, 48, 48, 48, 49, 32, 49, 49, 49, 49, 48]⟩, .string ⟨#[49, 49, 49, 49, 49, 32, 48, 48, 49, 48, 48, 32, 48, 48, 49, 48, 48, 32, 48, 48, 49, 48, 48, 32, 48, 48, 49, 48, 48, 32, 48, 48, 49, 48, 48, 32, 48, 48, 49, 48, 48]⟩, .string ⟨#[49, 48, 48, 48, 49, 32, 49, 48, 48, 48, 49, 32, 49, 48, 48, 48, 49, 32, 49, 48, 48, 48, 49, 32, 49, 48, 48, 48, 49, 32, 49, 48, 48, 48, 49, 32, 48, 49, 49, 49, 48]⟩, .string ⟨#[49, 48, 48, 48, 49, 32, 49, 48, 48, 48, 49, 32, 49, 48, 48, 48, 49, 32, 49, 48, 48, 48, 49, 32, 49, 48, 48, 48, 49, 32, 48, 49, 48, 49, 48, 32, 48, 48, 49, 48, 48]⟩, .string ⟨#[49, 48, 48, 48, 49, 32, 49, 48, 48, 48, 49, 32, 49, 48, 48, 48, 49, 32, 49, 48, 49, 48, 49, 32, 49, 48, 49, 48, 49, 32, 49, 49, 48, 49, 49, 32, 49, 48, 48, 48, 49]⟩, .string ⟨#[49, 48, 48, 48, 49, 32, 49, 48, 48, 48, 49, 32, 48, 49, 48, 49, 48, 32, 48, 48, 49, 48, 48, 32, 48, 49, 48, 49, 48, 32, 49, 48, 48, 48, 49, 32, 49, 48, 48, 48, 49]⟩, .string ⟨#[49, 48, 48, 48, 49, 32, 49, 48, 48, 48, 49, 32, 48, 49, 48, 49, 48, 32, 48, 48, 49, 48, 48, 32, 48, 48, 49, 48, 48, 32, 48, 48, 49, 48, 48, 32, 48, 48, 49, 48, 48]⟩, .string ⟨#[49, 49, 49, 49, 49, 32, 48, 48, 48, 48, 49, 32, 48, 48, 48, 49, 48, 32, 48, 48, 49, 48, 48, 32, 48, 49, 48, 48, 48, 32, 49, 48, 48, 48, 48, 32, 49, 49, 49, 49, 49]⟩, .string ⟨#[49, 49, 49, 48, 48, 32, 49, 48, 48, 48, 48, 32, 49, 48, 48, 48, 48, 32, 49, 48, 48, 48, 48, 32, 49, 48, 48, 48, 48, 32, 49, 48, 48, 48, 48, 32, 49, 49, 49, 48, 48]⟩, .string ⟨#[49, 49, 49, 48, 48, 32, 48, 48, 49, 48, 48, 32, 48, 48, 49, 48, 48, 32, 48, 48, 49, 48, 48, 32, 48, 48, 49, 48, 48, 32, 48, 48, 49, 48, 48, 32, 49, 49, 49, 48, 48]⟩, .string ⟨#[48, 48, 48, 48, 48, 32, 48, 48, 48, 48, 48, 32, 48, 48, 48, 48, 48, 32, 48, 48, 48, 48, 48, 32, 48, 48, 48, 48, 48, 32, 48, 48, 48, 48, 48, 32, 49, 49, 49, 49, 49]⟩]
theorem Gl.ltrV_eq : Gl.ltrV = (Gl.ltrT.map fun l => Value.string (bS l)).toArray := rfl
theorem ltr_cell (i : Nat) (hi : i < 30) (w : World) : (w.alloc (.cells Gl.ltrV 138)).cell? ⟨w.heap.size, i, none⟩ = some (.string (bS (Gl.txt (Gl.ltrC.getD i 0)))) := by
  refine new_cell _ _ w ?_
  have h := Gl.ltr_ok ⟨i, hi⟩
  have hl : i < Gl.ltrT.length := hi
  rw [List.getD_eq_getElem?_getD, List.getElem?_eq_getElem hl, Option.getD_some] at h
  rw [Gl.ltrV_eq, List.getElem?_toArray, List.getElem?_map, List.getElem?_eq_getElem hl, ← h]
  rfl

theorem wp_lit {o : Oper} {a : Act} {w : World} {K : Act → World → Prop} {Q : Exit → Act → World → Prop} (v : Value) (h : (execOp a.eval o).run Tryz.prog w = .ok (.value v) w) (hn : K (a.put o.dst v) w) : o.wp Tryz.prog a w K Q := by
  unfold Oper.wp
  rw [h]; exact hn

theorem sgn_store (R : Array Value) (hR : R.size = 32) (h1 : R.all (·.oneCell') = true) (w : World) :
    (storeCells ⟨w.heap.size, 0, none⟩ R.toList).run Tryz.prog (w.alloc (.cells #[.string ⟨#[]⟩, .string ⟨#[]⟩, .string ⟨#[]⟩, .string ⟨#[]⟩, .string ⟨#[]⟩, .string ⟨#[]⟩, .string ⟨#[]⟩, .string ⟨#[]⟩, .string ⟨#[]⟩, .string ⟨#[]⟩, .string ⟨#[]⟩, .string ⟨#[]⟩, .string ⟨#[]⟩, .string ⟨#[]⟩, .string ⟨#[]⟩, .string ⟨#[]⟩, .string ⟨#[]⟩, .string ⟨#[]⟩, .string ⟨#[]⟩, .string ⟨#[]⟩, .string ⟨#[]⟩, .string ⟨#[]⟩, .string ⟨#[]⟩, .string ⟨#[]⟩, .string ⟨#[]⟩, .string ⟨#[]⟩, .string ⟨#[]⟩, .string ⟨#[]⟩, .string ⟨#[]⟩, .string ⟨#[]⟩, .string ⟨#[]⟩, .string ⟨#[]⟩] 137)) = .ok () (w.alloc (.cells R 137)) :=
  run_storeCells_new w 137 _ R (by rw [hR]; kernel_rfl) (by rw [hR]; rfl) h1
set_option maxHeartbeats 8000000 in
set_option maxRecDepth 100000 in
theorem fsigns_any (c : UInt8) (i : Nat) (hi : i < 32) (hci : c.toNat = 32 + i) (w : World) : Calls Tryz.prog 65 #[.int .u8 (c.toNat : Int)] w fun e w' => e = .returned (.string (bS (Gl.txt (Gl.sgnC.getD i 0)))) ∧ Ext w w' := by
  have hc := sgn_cell i hi w
  generalize bS (Gl.txt (Gl.sgnC.getD i 0)) = X at hc ⊢
  have hRs : Gl.sgnV.size = 32 := by kernel_rfl
  have hst := sgn_store Gl.sgnV hRs (by kernel_rfl) w
  have e1 : (c.toNat : Int) - 32 = (i : Int) := by omega
  generalize (c.toNat : Int) = C at e1 ⊢
  go_enter Tryz.func65, Tryz.ntmps65
  iterate 12 go_step
  refine wp_lit (.agg Gl.sgnV) (by kernel_rfl) ?_
  generalize Gl.sgnV = R at hc hst hRs ⊢
  go_wp2
  go_ret
  exact ⟨rfl, (by repeat (first | exact Ext.refl _ | assumption | refine Ext.alloc ?_ _ | refine Ext.drew ?_ | refine Ext.drewN ?_ _ | refine Ext.setCell ?_ (Nat.le_refl _) _ | refine Ext.trans ?_ (by assumption)))⟩

theorem ltr_store (R : Array Value) (hR : R.size = 30) (h1 : R.all (·.oneCell') = true) (w : World) :
    (storeCells ⟨w.heap.size, 0, none⟩ R.toList).run Tryz.prog (w.alloc (.cells #[.string ⟨#[]⟩, .string ⟨#[]⟩, .string ⟨#[]⟩, .string ⟨#[]⟩, .string ⟨#[]⟩, .string ⟨#[]⟩, .string ⟨#[]⟩, .string ⟨#[]⟩, .string ⟨#[]⟩, .string ⟨#[]⟩, .string ⟨#[]⟩, .string ⟨#[]⟩, .string ⟨#[]⟩, .string ⟨#[]⟩, .string ⟨#[]⟩, .string ⟨#[]⟩, .string ⟨#[]⟩, .string ⟨#[]⟩, .string ⟨#[]⟩, .string ⟨#[]⟩, .string ⟨#[]⟩, .string ⟨#[]⟩, .string ⟨#[]⟩, .string ⟨#[]⟩, .string ⟨#[]⟩, .string ⟨#[]⟩, .string ⟨#[]⟩, .string ⟨#[]⟩, .string ⟨#[]⟩, .string ⟨#[]⟩] 138)) = .ok () (w.alloc (.cells R 138)) :=
  run_storeCells_new w 138 _ R (by rw [hR]; kernel_rfl) (by rw [hR]; rfl) h1
set_option maxHeartbeats 8000000 in
set_option maxRecDepth 100000 in
theorem fletters_any (c : UInt8) (i : Nat) (hi : i < 30) (hci : c.toNat = 64 + i) (hi2 : i < 27) (w : World) : Calls Tryz.prog 66 #[.int .u8 (c.toNat : Int)] w fun e w' => e = .returned (.string (bS (Gl.txt (Gl.ltrC.getD i 0)))) ∧ Ext w w' := by
  have hc := ltr_cell i hi w
  generalize bS (Gl.txt (Gl.ltrC.getD i 0)) = X at hc ⊢
  have hRs : Gl.ltrV.size = 30 := by kernel_rfl
  have hst := ltr_store Gl.ltrV hRs (by kernel_rfl) w
  have e1 : (c.toNat : Int) - 64 = (i : Int) := by omega
  have d1 : ((c.toNat : Int) == 91) = false := beq_eq_false_iff_ne.2 (by omega)
  have d2 : ((c.toNat : Int) == 93) = false := beq_eq_false_iff_ne.2 (by omega)
  have d3 : ((c.toNat : Int) == 95) = false := beq_eq_false_iff_ne.2 (by omega)
  generalize (c.toNat : Int) = C at *
  go_enter Tryz.func66, Tryz.ntmps66
  iterate 12 go_step
  refine wp_lit (.agg Gl.ltrV) (by kernel_rfl) ?_
  generalize Gl.ltrV = R at hc hst hRs ⊢
  go_wp2
  go_ret
  exact ⟨rfl, (by repeat (first | exact Ext.refl _ | assumption | refine Ext.alloc ?_ _ | refine Ext.drew ?_ | refine Ext.drewN ?_ _ | refine Ext.setCell ?_ (Nat.le_refl _) _ | refine Ext.trans ?_ (by assumption)))⟩

set_option maxHeartbeats 8000000 in
set_option maxRecDepth 100000 in
theorem fletters_91 (w : World) : Calls Tryz.prog 66 #[.int .u8 91] w fun e w' => e = .returned (.string (bS (Gl.txt 91))) ∧ Ext w w' := by
  have hc := ltr_cell 27 (by omega) w
  rw [show Gl.ltrC.getD 27 0 = 91 from rfl] at hc
  generalize bS (Gl.txt 91) = X at hc ⊢
  have hRs : Gl.ltrV.size = 30 := by kernel_rfl
  have hst := ltr_store Gl.ltrV hRs (by kernel_rfl) w
  go_enter Tryz.func66, Tryz.ntmps66
  iterate 12 go_step
  refine wp_lit (.agg Gl.ltrV) (by kernel_rfl) ?_
  generalize Gl.ltrV = R at hc hst hRs ⊢
  go_wp2
  go_ret
  exact ⟨rfl, (by repeat (first | exact Ext.refl _ | assumption | refine Ext.alloc ?_ _ | refine Ext.drew ?_ | refine Ext.drewN ?_ _ | refine Ext.setCell ?_ (Nat.le_refl _) _ | refine Ext.trans ?_ (by assumption)))⟩

set_option maxHeartbeats 8000000 in
set_option maxRecDepth 100000 in
theorem fletters_93 (w : World) : Calls Tryz.prog 66 #[.int .u8 93] w fun e w' => e = .returned (.string (bS (Gl.txt 93))) ∧ Ext w w' := by
  have hc := ltr_cell 28 (by omega) w
  rw [show Gl.ltrC.getD 28 0 = 93 from rfl] at hc
  generalize bS (Gl.txt 93) = X at hc ⊢
  have hRs : Gl.ltrV.size = 30 := by kernel_rfl
  have hst := ltr_store Gl.ltrV hRs (by kernel_rfl) w
  go_enter Tryz.func66, Tryz.ntmps66
  iterate 12 go_step
  refine wp_lit (.agg Gl.ltrV) (by kernel_rfl) ?_
  generalize Gl.ltrV = R at hc hst hRs ⊢
  go_wp2
  go_ret
  exact ⟨rfl, (by repeat (first | exact Ext.refl _ | assumption | refine Ext.alloc ?_ _ | refine Ext.drew ?_ | refine Ext.drewN ?_ _ | refine Ext.setCell ?_ (Nat.le_refl _) _ | refine Ext.trans ?_ (by assumption)))⟩

set_option maxHeartbeats 8000000 in
set_option maxRecDepth 100000 in
theorem fletters_95 (w : World) : Calls Tryz.prog 66 #[.int .u8 95] w fun e w' => e = .returned (.string (bS (Gl.txt 95))) ∧ Ext w w' := by
  have hc := ltr_cell 29 (by omega) w
  rw [show Gl.ltrC.getD 29 0 = 95 from rfl] at hc
  generalize bS (Gl.txt 95) = X at hc ⊢
  have hRs : Gl.ltrV.size = 30 := by kernel_rfl
  have hst := ltr_store Gl.ltrV hRs (by kernel_rfl) w
  go_enter Tryz.func66, Tryz.ntmps66
  iterate 12 go_step
  refine wp_lit (.agg Gl.ltrV) (by kernel_rfl) ?_
  generalize Gl.ltrV = R at hc hst hRs ⊢
  go_wp2
  go_ret
  exact ⟨rfl, (by repeat (first | exact Ext.refl _ | assumption | refine Ext.alloc ?_ _ | refine Ext.drew ?_ | refine Ext.drewN ?_ _ | refine Ext.setCell ?_ (Nat.le_refl _) _ | refine Ext.trans ?_ (by assumption)))⟩

theorem fsigns_at (c : UInt8) (hk : Gl.known c = true) (h : decide ((c.toNat : Int) < 64) = true) (w : World) : Calls Tryz.prog 65 #[.int .u8 (c.toNat : Int)] w fun e w' => e = .returned (.string (bS (Gl.txt c))) ∧ Ext w w' := by
  have h := of_decide_eq_true h
  have h32 : 32 ≤ c.toNat := by
    unfold Gl.known at hk
    simp only [Bool.or_eq_true, Bool.and_eq_true, decide_eq_true_eq, beq_iff_eq] at hk
    omega
  have e : Gl.sgnC.getD (c.toNat - 32) 0 = c := by
    have : ∀ i : Fin 32, Gl.sgnC.getD i.1 0 = UInt8.ofNat (32 + i.1) := by decide
    rw [this ⟨c.toNat - 32, by omega⟩]
    show UInt8.ofNat (32 + (c.toNat - 32)) = c
    rw [show 32 + (c.toNat - 32) = c.toNat by omega, UInt8.ofNat_toNat]
  have := fsigns_any c (c.toNat - 32) (by omega) (by omega) w
  rw [e] at this
  exact this
theorem fletters_at (c : UInt8) (hk : Gl.known c = true) (h : decide ((c.toNat : Int) < 64) = false) (w : World) : Calls Tryz.prog 66 #[.int .u8 (c.toNat : Int)] w fun e w' => e = .returned (.string (bS (Gl.txt c))) ∧ Ext w w' := by
  have h := of_decide_eq_false h
  unfold Gl.known at hk
  simp only [Bool.or_eq_true, Bool.and_eq_true, decide_eq_true_eq, beq_iff_eq] at hk
  by_cases h1 : c.toNat = 91
  · obtain rfl : c = 91 := UInt8.toNat_inj.1 h1
    exact fletters_91 w
  by_cases h2 : c.toNat = 93
  · obtain rfl : c = 93 := UInt8.toNat_inj.1 h2
    exact fletters_93 w
  by_cases h3 : c.toNat = 95
  · obtain rfl : c = 95 := UInt8.toNat_inj.1 h3
    exact fletters_95 w
  have e : Gl.ltrC.getD (c.toNat - 64) 0 = c := by
    have : ∀ i : Fin 27, Gl.ltrC.getD i.1 0 = UInt8.ofNat (64 + i.1) := by decide
    rw [this ⟨c.toNat - 64, by omega⟩]
    show UInt8.ofNat (64 + (c.toNat - 64)) = c
    rw [show 64 + (c.toNat - 64) = c.toNat by omega, UInt8.ofNat_toNat]
  have := fletters_any c (c.toNat - 64) (by omega) (by omega) (by omega) w
  rw [e] at this
  exact this

end Go.Proofs.YtamkgbodifjlaaaGreatDoor

/-
  Chapter 48, the program: font.Glyph.
  No condition.
-/
namespace Go.Proofs.YtamkgbodifjlaaaGreatDoor
open Go.RowKit

/-- The pixels that bytes of a table give. -/
def Gl.dk (l : List UInt8) : List Bool := (l.filter (· != 32)).map (· == 49)
theorem Gl.dk_sp (l : List UInt8) : Gl.dk (l ++ [32]) = Gl.dk l := by simp [Gl.dk]
theorem Gl.dk_px (l : List UInt8) (c : UInt8) (h : c ≠ 32) : Gl.dk (l ++ [c]) = Gl.dk l ++ [c == 49] := by simp [Gl.dk, h]
theorem Gl.dk_len (l : List UInt8) : (Gl.dk l).length ≤ l.length := by
  unfold Gl.dk
  rw [List.length_map]; exact List.length_filter_le _ _
theorem Gl.txt_byte (c : UInt8) : ∀ x ∈ Gl.txt c, x = 32 ∨ x = 48 ∨ x = 49 := by
  intro x hx
  obtain ⟨i, _, rfl⟩ := List.mem_map.1 hx
  split
  · exact .inl rfl
  · split
    · exact .inr (.inr rfl)
    · exact .inr (.inl rfl)
theorem map_snocT (l : List Bool) (b : Bool) : (l ++ [b]).map encT = l.map encT ++ [encT b] := by simp
/-- The three blocks of a walk over the rows of a glyph: the result, the bitmap, the iterator. -/
def GlR (b0 b1 : Nat) (s : ByteArray) (w0 wr : World) (k : Nat) (v : Value) (l : List Bool) : Prop :=
  wr.heap[b0]? = some (.cells #[.int .i64 0, .int .i64 0, .slice none 0 0] 24 (0, 0)) ∧
  wr.heap[b1]? = some (.cells #[.int .i64 5, .int .i64 7, v] 24 (0, 0)) ∧
  wr.heap[b1 + 1]? = some (.stringIter s k) ∧ Own 4 wr (b1 + 2) v (l.map encT) ∧ Ext w0 wr
theorem Own.iterAt {t : TypeId} {w : World} {B : Nat} {v : Value} {xs : List Value} {k : Nat} {s : ByteArray} {pos : Nat} (h : Own t w B v xs) (hk : k < B) : Own t (w.iterAt k s pos) B v xs := ownsRow_iterAt h hk s pos
theorem Own.setCell {t : TypeId} {w : World} {B : Nat} {v : Value} {xs : List Value} {a : Addr} (h : Own t w B v xs) (ha : a.block < B) (u : Value) : Own t (w.setCell a u) B v xs := ownsRow_setCell_below h ha u

set_option maxRecDepth 100000 in
set_option maxHeartbeats 2000000 in
theorem fglyph_lo (c : UInt8) (hk : Gl.known c = true) (h64 : decide ((c.toNat : Int) < 64) = true) (w : World) :
    Calls Tryz.prog 38 #[.int .u8 (c.toNat : Int)] w fun e w' => ∃ v, e = .returned (.tuple #[.agg #[.int .i64 5, .int .i64 7, v], .int .i64 0]) ∧ Own 4 w' w.heap.size v ((Gl.pix c).map encT) ∧ Ext w w' := by
  have HS := Lib.hid (fsigns_at c hk h64)
  have HP : Hid (Gl.dk (Gl.txt c) = Gl.pix c) := Lib.hid (Gl.txt_pix c (by have := Gl.known_mem c; rw [hk] at this; exact of_decide_eq_true this.symm))
  have hkn := fun w => known_any c.toNat (by have := c.toNat_lt; omega) w
  rw [show Gl.kn c.toNat = true from hk] at hkn
  have HK := Lib.hid hkn
  have hC0 : 0 ≤ (c.toNat : Int) := by omega
  have hC1 : (c.toNat : Int) ≤ 255 := by have := c.toNat_lt; omega
  obtain ⟨S, hS⟩ : ∃ S, bS (Gl.txt c) = S := ⟨_, rfl⟩
  have hSl : S.data.toList = Gl.txt c := by rw [← hS, bS_list]
  have hsz : S.size = 41 := by rw [size_of_toList hSl, Gl.txt_len]
  have HB : Hid (∀ k (h : k < S.size), S[k] = 32 ∨ S[k] = 48 ∨ S[k] = 49) := Lib.hid (fun k h => Gl.txt_byte c _ (by rw [← hSl]; exact mem_at S k h))
  have HL := Lib.hid hSl
  have HZ := Lib.hid hsz
  have hs41 : S.size ≤ 41 := by omega
  rw [hS] at HS
  clear hkn hS hSl hsz hk
  generalize (c.toNat : Int) = C at *
  go_enter Tryz.func38, Tryz.ntmps38
  go_wp2_with fail
  refine (HK.out _).mono ?_
  rintro e w1 ⟨rfl, rfl⟩
  go_wp2_with fail
  refine (HS.out _).mono ?_
  rintro e w2 ⟨rfl, hx2⟩
  have HB0 := Lib.hid (row_new rfl hx2 : w2.heap[w.heap.size]? = some (.cells #[.int .i64 0, .int .i64 0, .slice none 0 0] 24 (0, 0)))
  have hxw := hx2.before
  have hlt : w.heap.size < w2.heap.size := lt_at HB0.out
  clear hx2
  go_wp2
  go_loopw [] (fun wr => ∃ (k : Nat) (v : Value), k ≤ S.size ∧ GlR w.heap.size w2.heap.size S w wr k v (Gl.dk (S.data.toList.take k))) (fun wr => S.size - wr.iterPos (w2.heap.size + 1))
  case atStart =>
    refine ⟨0, .slice none 0 0, Nat.zero_le _, row_on (row_on HB0.out ((Ext.refl _).alloc _)) ((Ext.refl _).alloc _), row_on (heap_alloc_new _ _) ((Ext.refl _).alloc _), ?_, Own.nil _ _ _, (hxw.alloc _).alloc _⟩
    have := World.iter_heap (w2.alloc (.cells #[.int .i64 5, .int .i64 7, .slice none 0 0] 24)) S 0
    rw [World.size_alloc] at this
    exact this
  case round =>
    obtain ⟨k, v, hkl, hr0, hr1, hit, hown, hxr⟩ := hrel
    have hlow := hown.low
    obtain ⟨va, vc, hv⟩ := hown.sl.form
    obtain ⟨vn, hvn⟩ : ∃ n, ((Gl.dk (S.data.toList.take k)).map encT).length = n := ⟨_, rfl⟩
    rw [hvn] at hv
    subst hv
    obtain ⟨v, hv⟩ : ∃ v, Value.slice va vn vc = v := ⟨_, rfl⟩
    have HVV := Lib.hid hv
    rw [hv] at hr1 hown hlow
    clear hvn hv
    have hws : w.heap.size ≤ w2.heap.size := by omega
    by_cases hlt2 : k < S.size
    · have hbk := HB.out k hlt2
      have hnx : ∀ ty, (Instr.next (.pointer (some ⟨w2.heap.size + 1, 0, none⟩)) true ty).run Tryz.prog wr = _ := fun ty => Lib.run_next_ascii_at wr (w2.heap.size + 1) S k ty hit hlt2 (by rcases hbk with h | h | h <;> rw [h] <;> decide)
      have HT : Hid (S.data.toList.take (k + 1) = S.data.toList.take k ++ [S[k]]) := Lib.hid (take_snoc S k hlt2)
      have hgl : (Gl.dk (S.data.toList.take k)).length ≤ 41 := Nat.le_trans (Gl.dk_len _) (by rw [len_take S k hkl]; omega)
      obtain ⟨W, hW⟩ : ∃ W, wr.iterAt (w2.heap.size + 1) S (k + 1) = W := ⟨_, rfl⟩
      rw [hW] at hnx
      have q0 : W.heap[w.heap.size]? = some (.cells #[.int .i64 0, .int .i64 0, .slice none 0 0] 24 (0, 0)) := by rw [← hW, Lib.iterAt_other _ _ _ _ _ (by omega)]; exact hr0
      have q1 : W.heap[w2.heap.size]? = some (.cells #[.int .i64 5, .int .i64 7, v] 24 (0, 0)) := by rw [← hW, Lib.iterAt_other _ _ _ _ _ (by omega)]; exact hr1
      have q2 : W.heap[w2.heap.size + 1]? = some (.stringIter S (k + 1)) := by rw [← hW]; exact Lib.iterAt_heap wr _ S k (k + 1) hit
      have q3 : Own 4 W (w2.heap.size + 2) v ((Gl.dk (S.data.toList.take k)).map encT) := by rw [← hW]; exact hown.iterAt (by omega)
      have q4 : Ext w W := by rw [← hW]; exact Lib.below_iterAt hxr (by omega) S (k + 1)
      have hpos : W.iterPos (w2.heap.size + 1) = k + 1 := iterPos_of q2
      have hpos0 : wr.iterPos (w2.heap.size + 1) = k := iterPos_of hit
      have Q0 := Lib.hid q0
      have Q1 := Lib.hid q1
      have Q2 := Lib.hid q2
      have Q3 := Lib.hid q3
      have Q4 := Lib.hid q4
      have HPP := Lib.hid (And.intro hpos hpos0)
      clear hr0 hr1 hit hown hxr hW q0 q1 q2 q3 q4 hpos hpos0 hbk
      have hbk := HB.out k hlt2
      by_cases h32 : S[k] = 32
      · have hne : (((S[k].toNat : Nat) : Int) != 32) = false := by rw [h32]; rfl
        have HD : Hid (Gl.dk (S.data.toList.take (k + 1)) = Gl.dk (S.data.toList.take k)) := Lib.hid (by rw [HT.out, h32, Gl.dk_sp])
        clear hbk h32
        go_wp2
        go_roundw
        case rel => exact ⟨k + 1, v, hlt2, Q0.out, Q1.out, Q2.out, by rw [HD.out]; exact Q3.out, Q4.out⟩
        case measure => rw [HPP.out.1, HPP.out.2]; omega
      · have hne : (((S[k].toNat : Nat) : Int) != 32) = true := by rcases hbk with h | h | h <;> first | exact absurd h h32 | (rw [h]; rfl)
        have HD : Hid (Gl.dk (S.data.toList.take (k + 1)) = Gl.dk (S.data.toList.take k) ++ [S[k] == 49]) := Lib.hid (by rw [HT.out, Gl.dk_px _ _ h32])
        have hbit : (((S[k].toNat : Nat) : Int) == 49) = (S[k] == 49) := by rcases hbk with h | h | h <;> rw [h] <;> rfl
        generalize Gl.dk (S.data.toList.take k) = got at *
        generalize (S[k] == 49) = bt at *
        rw [← HVV.out] at Q1 Q3 hlow
        have c0 := cell_at Q1.out (i := 2) rfl
        have f0 := frz_at Q1.out (i := 2)
        have l0 := lt_at Q1.out
        have l1 := lt_at Q2.out
        have hown3 := Q3.out
        clear hbk h32
        go_wp2_with (at_builtin; refine append_bool rfl _ _ rfl (w2.heap.size + 2) _ got rfl (hown3.alloc _) _ bt rfl ?c1 ?c2 ?c3 ?_)
        case c1 => simp [go_sem, encT]
        case c2 => omega
        case c3 => simp; omega
        intro v' w5 hown5 hg5
        have HX5 := Lib.hid ((Q4.out.alloc _).ofGrown hg5 (fun j hj => by have := hlow j hj; omega))
        have R0 := Lib.hid (row_grown (row_on Q0.out ((Ext.refl _).alloc _)) hg5 hlow (by omega))
        have R1 := Lib.hid (row_grown (row_on Q1.out ((Ext.refl _).alloc _)) hg5 hlow (by omega))
        have R2 := Lib.hid (row_grown (row_on Q2.out ((Ext.refl _).alloc _)) hg5 hlow (by omega))
        rw [← map_snocT] at hown5
        obtain ⟨a5, cc5, rfl⟩ := hown5.sl.form
        have hl5 : (List.map encT (got ++ [bt])).length = got.length + 1 := by simp
        rw [hl5] at hown5
        have HO5 := Lib.hid hown5
        clear hown3 hg5 hbit c0 f0 l0 l1 Q0 Q1 Q2 Q3 Q4 hown5
        have c0 := cell_at R1.out (i := 2) rfl
        have f0 := frz_at R1.out (i := 2)
        have l0 := lt_at R1.out
        go_wp2
        go_roundw
        case rel => exact ⟨k + 1, _, hlt2, far1 (by omega) R0.out, heap_set R1.out, far1 (by omega) R2.out, by rw [HD.out]; exact HO5.out.setCell (a := ⟨w2.heap.size, 2, none⟩) (by show w2.heap.size < w2.heap.size + 2; omega) _, HX5.out.setCell (p := ⟨w2.heap.size, 2, none⟩) (by show w.heap.size ≤ w2.heap.size; omega) _⟩
        case measure =>
          rw [iterPos_of (far1 (by omega) R2.out), HPP.out.2]; omega
    · have hnx : ∀ ty, (Instr.next (.pointer (some ⟨w2.heap.size + 1, 0, none⟩)) true ty).run Tryz.prog wr = _ := fun ty => Lib.run_next_end_at wr (w2.heap.size + 1) S k ty hit hlt2
      obtain rfl : k = S.size := by omega
      rw [← HVV.out] at hr1 hown hlow
      have HD : Hid (Gl.dk (S.data.toList.take S.size) = Gl.pix c) := Lib.hid (by rw [take_all, HL.out]; exact HP.out)
      have c0 := cell_at hr1 (i := 0) rfl
      have c1 := cell_at hr1 (i := 1) rfl
      have c2 := cell_at hr1 (i := 2) rfl
      have l0 := lt_at hr1
      have d0 := cell_at hr0 (i := 0) rfl
      have d1 := cell_at hr0 (i := 1) rfl
      have d2 := cell_at hr0 (i := 2) rfl
      have f0 := frz_at hr0 (i := 0)
      have f1 := frz_at hr0 (i := 1)
      have f2 := frz_at hr0 (i := 2)
      have l1 := lt_at hr0
      have Q0 := Lib.hid hr0
      have Q3 := Lib.hid hown
      have Q4 := Lib.hid hxr
      clear hr0 hr1 hit hown hxr
      go_wp2
      refine bodyPost_ret (results_mat Tryz.results38 rfl (row3_set Q0) rfl) rfl ?_
      refine ⟨_, rfl, ?_, ((Q4.out.setCell (Nat.le_refl _) _).setCell (Nat.le_refl _) _).setCell (Nat.le_refl _) _⟩
      rw [← HD.out]
      have hb2 : w.heap.size < w2.heap.size + 2 := by omega
      exact (((Q3.out.setCell (a := ⟨w.heap.size, 0, none⟩) hb2 _).setCell (a := ⟨w.heap.size, 1, none⟩) hb2 _).setCell (a := ⟨w.heap.size, 2, none⟩) hb2 _).mono (by omega)
set_option maxRecDepth 100000 in
set_option maxHeartbeats 2000000 in
theorem fglyph_hi (c : UInt8) (hk : Gl.known c = true) (h64 : decide ((c.toNat : Int) < 64) = false) (w : World) :
    Calls Tryz.prog 38 #[.int .u8 (c.toNat : Int)] w fun e w' => ∃ v, e = .returned (.tuple #[.agg #[.int .i64 5, .int .i64 7, v], .int .i64 0]) ∧ Own 4 w' w.heap.size v ((Gl.pix c).map encT) ∧ Ext w w' := by
  have HS := Lib.hid (fletters_at c hk h64)
  have HP : Hid (Gl.dk (Gl.txt c) = Gl.pix c) := Lib.hid (Gl.txt_pix c (by have := Gl.known_mem c; rw [hk] at this; exact of_decide_eq_true this.symm))
  have hkn := fun w => known_any c.toNat (by have := c.toNat_lt; omega) w
  rw [show Gl.kn c.toNat = true from hk] at hkn
  have HK := Lib.hid hkn
  have hC0 : 0 ≤ (c.toNat : Int) := by omega
  have hC1 : (c.toNat : Int) ≤ 255 := by have := c.toNat_lt; omega
  obtain ⟨S, hS⟩ : ∃ S, bS (Gl.txt c) = S := ⟨_, rfl⟩
  have hSl : S.data.toList = Gl.txt c := by rw [← hS, bS_list]
  have hsz : S.size = 41 := by rw [size_of_toList hSl, Gl.txt_len]
  have HB : Hid (∀ k (h : k < S.size), S[k] = 32 ∨ S[k] = 48 ∨ S[k] = 49) := Lib.hid (fun k h => Gl.txt_byte c _ (by rw [← hSl]; exact mem_at S k h))
  have HL := Lib.hid hSl
  have HZ := Lib.hid hsz
  have hs41 : S.size ≤ 41 := by omega
  rw [hS] at HS
  clear hkn hS hSl hsz hk
  generalize (c.toNat : Int) = C at *
  go_enter Tryz.func38, Tryz.ntmps38
  go_wp2_with fail
  refine (HK.out _).mono ?_
  rintro e w1 ⟨rfl, rfl⟩
  go_wp2_with fail
  refine (HS.out _).mono ?_
  rintro e w2 ⟨rfl, hx2⟩
  have HB0 := Lib.hid (row_new rfl hx2 : w2.heap[w.heap.size]? = some (.cells #[.int .i64 0, .int .i64 0, .slice none 0 0] 24 (0, 0)))
  have hxw := hx2.before
  have hlt : w.heap.size < w2.heap.size := lt_at HB0.out
  clear hx2
  go_wp2
  go_loopw [] (fun wr => ∃ (k : Nat) (v : Value), k ≤ S.size ∧ GlR w.heap.size w2.heap.size S w wr k v (Gl.dk (S.data.toList.take k))) (fun wr => S.size - wr.iterPos (w2.heap.size + 1))
  case atStart =>
    refine ⟨0, .slice none 0 0, Nat.zero_le _, row_on (row_on HB0.out ((Ext.refl _).alloc _)) ((Ext.refl _).alloc _), row_on (heap_alloc_new _ _) ((Ext.refl _).alloc _), ?_, Own.nil _ _ _, (hxw.alloc _).alloc _⟩
    have := World.iter_heap (w2.alloc (.cells #[.int .i64 5, .int .i64 7, .slice none 0 0] 24)) S 0
    rw [World.size_alloc] at this
    exact this
  case round =>
    obtain ⟨k, v, hkl, hr0, hr1, hit, hown, hxr⟩ := hrel
    have hlow := hown.low
    obtain ⟨va, vc, hv⟩ := hown.sl.form
    obtain ⟨vn, hvn⟩ : ∃ n, ((Gl.dk (S.data.toList.take k)).map encT).length = n := ⟨_, rfl⟩
    rw [hvn] at hv
    subst hv
    obtain ⟨v, hv⟩ : ∃ v, Value.slice va vn vc = v := ⟨_, rfl⟩
    have HVV := Lib.hid hv
    rw [hv] at hr1 hown hlow
    clear hvn hv
    have hws : w.heap.size ≤ w2.heap.size := by omega
    by_cases hlt2 : k < S.size
    · have hbk := HB.out k hlt2
      have hnx : ∀ ty, (Instr.next (.pointer (some ⟨w2.heap.size + 1, 0, none⟩)) true ty).run Tryz.prog wr = _ := fun ty => Lib.run_next_ascii_at wr (w2.heap.size + 1) S k ty hit hlt2 (by rcases hbk with h | h | h <;> rw [h] <;> decide)
      have HT : Hid (S.data.toList.take (k + 1) = S.data.toList.take k ++ [S[k]]) := Lib.hid (take_snoc S k hlt2)
      have hgl : (Gl.dk (S.data.toList.take k)).length ≤ 41 := Nat.le_trans (Gl.dk_len _) (by rw [len_take S k hkl]; omega)
      obtain ⟨W, hW⟩ : ∃ W, wr.iterAt (w2.heap.size + 1) S (k + 1) = W := ⟨_, rfl⟩
      rw [hW] at hnx
      have q0 : W.heap[w.heap.size]? = some (.cells #[.int .i64 0, .int .i64 0, .slice none 0 0] 24 (0, 0)) := by rw [← hW, Lib.iterAt_other _ _ _ _ _ (by omega)]; exact hr0
      have q1 : W.heap[w2.heap.size]? = some (.cells #[.int .i64 5, .int .i64 7, v] 24 (0, 0)) := by rw [← hW, Lib.iterAt_other _ _ _ _ _ (by omega)]; exact hr1
      have q2 : W.heap[w2.heap.size + 1]? = some (.stringIter S (k + 1)) := by rw [← hW]; exact Lib.iterAt_heap wr _ S k (k + 1) hit
      have q3 : Own 4 W (w2.heap.size + 2) v ((Gl.dk (S.data.toList.take k)).map encT) := by rw [← hW]; exact hown.iterAt (by omega)
      have q4 : Ext w W := by rw [← hW]; exact Lib.below_iterAt hxr (by omega) S (k + 1)
      have hpos : W.iterPos (w2.heap.size + 1) = k + 1 := iterPos_of q2
      have hpos0 : wr.iterPos (w2.heap.size + 1) = k := iterPos_of hit
      have Q0 := Lib.hid q0
      have Q1 := Lib.hid q1
      have Q2 := Lib.hid q2
      have Q3 := Lib.hid q3
      have Q4 := Lib.hid q4
      have HPP := Lib.hid (And.intro hpos hpos0)
      clear hr0 hr1 hit hown hxr hW q0 q1 q2 q3 q4 hpos hpos0 hbk
      have hbk := HB.out k hlt2
      by_cases h32 : S[k] = 32
      · have hne : (((S[k].toNat : Nat) : Int) != 32) = false := by rw [h32]; rfl
        have HD : Hid (Gl.dk (S.data.toList.take (k + 1)) = Gl.dk (S.data.toList.take k)) := Lib.hid (by rw [HT.out, h32, Gl.dk_sp])
        clear hbk h32
        go_wp2
        go_roundw
        case rel => exact ⟨k + 1, v, hlt2, Q0.out, Q1.out, Q2.out, by rw [HD.out]; exact Q3.out, Q4.out⟩
        case measure => rw [HPP.out.1, HPP.out.2]; omega
      · have hne : (((S[k].toNat : Nat) : Int) != 32) = true := by rcases hbk with h | h | h <;> first | exact absurd h h32 | (rw [h]; rfl)
        have HD : Hid (Gl.dk (S.data.toList.take (k + 1)) = Gl.dk (S.data.toList.take k) ++ [S[k] == 49]) := Lib.hid (by rw [HT.out, Gl.dk_px _ _ h32])
        have hbit : (((S[k].toNat : Nat) : Int) == 49) = (S[k] == 49) := by rcases hbk with h | h | h <;> rw [h] <;> rfl
        generalize Gl.dk (S.data.toList.take k) = got at *
        generalize (S[k] == 49) = bt at *
        rw [← HVV.out] at Q1 Q3 hlow
        have c0 := cell_at Q1.out (i := 2) rfl
        have f0 := frz_at Q1.out (i := 2)
        have l0 := lt_at Q1.out
        have l1 := lt_at Q2.out
        have hown3 := Q3.out
        clear hbk h32
        go_wp2_with (at_builtin; refine append_bool rfl _ _ rfl (w2.heap.size + 2) _ got rfl (hown3.alloc _) _ bt rfl ?c1 ?c2 ?c3 ?_)
        case c1 => simp [go_sem, encT]
        case c2 => omega
        case c3 => simp; omega
        intro v' w5 hown5 hg5
        have HX5 := Lib.hid ((Q4.out.alloc _).ofGrown hg5 (fun j hj => by have := hlow j hj; omega))
        have R0 := Lib.hid (row_grown (row_on Q0.out ((Ext.refl _).alloc _)) hg5 hlow (by omega))
        have R1 := Lib.hid (row_grown (row_on Q1.out ((Ext.refl _).alloc _)) hg5 hlow (by omega))
        have R2 := Lib.hid (row_grown (row_on Q2.out ((Ext.refl _).alloc _)) hg5 hlow (by omega))
        rw [← map_snocT] at hown5
        obtain ⟨a5, cc5, rfl⟩ := hown5.sl.form
        have hl5 : (List.map encT (got ++ [bt])).length = got.length + 1 := by simp
        rw [hl5] at hown5
        have HO5 := Lib.hid hown5
        clear hown3 hg5 hbit c0 f0 l0 l1 Q0 Q1 Q2 Q3 Q4 hown5
        have c0 := cell_at R1.out (i := 2) rfl
        have f0 := frz_at R1.out (i := 2)
        have l0 := lt_at R1.out
        go_wp2
        go_roundw
        case rel => exact ⟨k + 1, _, hlt2, far1 (by omega) R0.out, heap_set R1.out, far1 (by omega) R2.out, by rw [HD.out]; exact HO5.out.setCell (a := ⟨w2.heap.size, 2, none⟩) (by show w2.heap.size < w2.heap.size + 2; omega) _, HX5.out.setCell (p := ⟨w2.heap.size, 2, none⟩) (by show w.heap.size ≤ w2.heap.size; omega) _⟩
        case measure =>
          rw [iterPos_of (far1 (by omega) R2.out), HPP.out.2]; omega
    · have hnx : ∀ ty, (Instr.next (.pointer (some ⟨w2.heap.size + 1, 0, none⟩)) true ty).run Tryz.prog wr = _ := fun ty => Lib.run_next_end_at wr (w2.heap.size + 1) S k ty hit hlt2
      obtain rfl : k = S.size := by omega
      rw [← HVV.out] at hr1 hown hlow
      have HD : Hid (Gl.dk (S.data.toList.take S.size) = Gl.pix c) := Lib.hid (by rw [take_all, HL.out]; exact HP.out)
      have c0 := cell_at hr1 (i := 0) rfl
      have c1 := cell_at hr1 (i := 1) rfl
      have c2 := cell_at hr1 (i := 2) rfl
      have l0 := lt_at hr1
      have d0 := cell_at hr0 (i := 0) rfl
      have d1 := cell_at hr0 (i := 1) rfl
      have d2 := cell_at hr0 (i := 2) rfl
      have f0 := frz_at hr0 (i := 0)
      have f1 := frz_at hr0 (i := 1)
      have f2 := frz_at hr0 (i := 2)
      have l1 := lt_at hr0
      have Q0 := Lib.hid hr0
      have Q3 := Lib.hid hown
      have Q4 := Lib.hid hxr
      clear hr0 hr1 hit hown hxr
      go_wp2
      refine bodyPost_ret (results_mat Tryz.results38 rfl (row3_set Q0) rfl) rfl ?_
      refine ⟨_, rfl, ?_, ((Q4.out.setCell (Nat.le_refl _) _).setCell (Nat.le_refl _) _).setCell (Nat.le_refl _) _⟩
      rw [← HD.out]
      have hb2 : w.heap.size < w2.heap.size + 2 := by omega
      exact (((Q3.out.setCell (a := ⟨w.heap.size, 0, none⟩) hb2 _).setCell (a := ⟨w.heap.size, 1, none⟩) hb2 _).setCell (a := ⟨w.heap.size, 2, none⟩) hb2 _).mono (by omega)
end Go.Proofs.YtamkgbodifjlaaaGreatDoor

/-
  Chapter 48, the program: font.Glyph of every byte, font.Chars, font.Distance.
  No condition.
-/
namespace Go.Proofs.YtamkgbodifjlaaaGreatDoor
open Go.RowKit

theorem fglyph_any (c : UInt8) (hk : Gl.known c = true) (w : World) :
    Calls Tryz.prog 38 #[.int .u8 (c.toNat : Int)] w fun e w' => ∃ v, e = .returned (.tuple #[.agg #[.int .i64 5, .int .i64 7, v], .int .i64 0]) ∧ Own 4 w' w.heap.size v ((Gl.pix c).map encT) ∧ Ext w w' := by
  cases h : decide ((c.toNat : Int) < 64)
  · exact fglyph_hi c hk h w
  · exact fglyph_lo c hk h w
set_option maxHeartbeats 1000000 in
theorem fglyph_no (c : UInt8) (hk : Gl.known c = false) (w : World) :
    Calls Tryz.prog 38 #[.int .u8 (c.toNat : Int)] w fun e w' => e = .returned (.tuple #[.agg #[.int .i64 0, .int .i64 0, .slice none 0 0], .int .i64 6]) ∧ Ext w w' := by
  have hkn := fun w => known_any c.toNat (by have := c.toNat_lt; omega) w
  rw [show Gl.kn c.toNat = false from hk] at hkn
  have HK := Lib.hid hkn
  have hC0 : 0 ≤ (c.toNat : Int) := by omega
  have hC1 : (c.toNat : Int) ≤ 255 := by have := c.toNat_lt; omega
  clear hkn hk
  generalize (c.toNat : Int) = C at *
  go_enter Tryz.func38, Tryz.ntmps38
  go_wp2_with fail
  refine (HK.out _).mono ?_
  rintro e w1 ⟨rfl, rfl⟩
  go_wp2
  refine bodyPost_ret (results_mat Tryz.results38 rfl (heap_alloc_new w _) rfl) rfl ?_
  exact ⟨rfl, (Ext.refl w).alloc _⟩

/-- The characters below n. -/
def Gl.upTo (n : Nat) : List UInt8 := ((List.range n).filter Gl.kn).map UInt8.ofNat
theorem Gl.upTo_succ (n : Nat) : Gl.upTo (n + 1) = Gl.upTo n ++ (if Gl.kn n then [UInt8.ofNat n] else []) := by
  unfold Gl.upTo
  rw [List.range_succ, List.filter_append, List.map_append]
  congr 1
  by_cases h : Gl.kn n = true
  · rw [if_pos h, List.filter_cons_of_pos h]; rfl
  · rw [if_neg h, List.filter_cons_of_neg h]; rfl
theorem Gl.upTo_len (n : Nat) : (Gl.upTo n).length ≤ n := by
  unfold Gl.upTo
  rw [List.length_map]
  exact Nat.le_trans (List.length_filter_le _ _) (by simp)
theorem Gl.upTo_128 : Gl.upTo 128 = Gl.chars := by decide +kernel
theorem Gl.upTo_256 : Gl.upTo 256 = Gl.chars := by decide +kernel
/-- A row of bytes of the call's own. -/
def OwnsB (m : List UInt8) (w : World) (e : Ending) (w' : World) : Prop := ∃ v, e = .returned v ∧ Own 5 w' w.heap.size v (m.map encB) ∧ Ext w w'
set_option maxRecDepth 100000 in
set_option maxHeartbeats 1000000 in
theorem fchars_any (w : World) : Calls Tryz.prog 37 #[] w (OwnsB Gl.chars w) := by
  rw [← Gl.upTo_128]
  go_enter Tryz.func37, Tryz.ntmps37
  go_wp2
  go_loopw [1, 2] (fun v1 v2 wr => ∃ k : Nat, k ≤ 128 ∧ v2 = .int .i32 (k : Int) ∧ Own 5 wr w.heap.size v1 ((Gl.upTo k).map encB) ∧ Ext w wr) (fun _ v2 _ => 128 - (intOf v2).toNat)
  case atStart => exact ⟨0, Nat.zero_le _, rfl, Own.nil _ _ _, Ext.refl _⟩
  case round =>
    obtain ⟨k, hk, rfl, hown, hxr⟩ := hrel
    by_cases hlt : k < 128
    · have HK := Lib.hid (fun w => known_any k (by omega) w)
      have HU := Lib.hid (Gl.upTo_succ k)
      have hgl := Gl.upTo_len k
      generalize Gl.upTo k = got at *
      by_cases hb : Gl.kn k = true
      · rw [hb] at HK
        have HU2 : Hid (Gl.upTo (k + 1) = got ++ [UInt8.ofNat k]) := Lib.hid (by rw [HU.out, if_pos hb])
        have hmod : (k : Int) = ((UInt8.ofNat k).toNat : Int) := by
          rw [UInt8.toNat_ofNat']
          omega
        obtain ⟨u, hu⟩ : ∃ u, UInt8.ofNat k = u := ⟨_, rfl⟩
        rw [hu] at HU2 hmod
        have HM := Lib.hid hmod
        clear HU hb hu hmod
        go_wp2_with fail
        refine (HK.out _).mono ?_
        rintro e w1 ⟨rfl, rfl⟩
        go_wp2_with (at_builtin; refine append_byte rfl _ _ rfl w.heap.size _ got rfl (hown.alloc _) _ u rfl ?c1 ?c2 ?c3 ?_)
        case c1 => rw [show encB u = .int .u8 (k : Int) from by unfold encB; rw [HM.out]]; simp [go_sem]
        case c2 => omega
        case c3 => have := hxr.size; simp; omega
        intro v' w5 hown5 hg5
        have hx5 := (hxr.alloc _).ofGrown hg5 hown.low
        clear hown hg5
        go_wp2
        go_roundw
        case rel => exact ⟨k + 1, by omega, by go_num, by rw [HU2.out, List.map_append]; exact hown5, hx5⟩
        case measure => simp [intOf]; omega
      · have hb : Gl.kn k = false := by simpa using hb
        rw [hb] at HK
        have HU2 : Hid (Gl.upTo (k + 1) = got) := Lib.hid (by rw [HU.out, hb]; simp)
        clear HU hb
        go_wp2_with fail
        refine (HK.out _).mono ?_
        rintro e w1 ⟨rfl, rfl⟩
        go_wp2
        go_roundw
        case rel => exact ⟨k + 1, by omega, by go_num, by rw [HU2.out]; exact hown, hxr⟩
        case measure => simp [intOf]; omega
    · obtain rfl : k = 128 := by omega
      clear hk hlt
      go_wp2
      go_ret
      exact ⟨_, rfl, hown, hxr⟩

/-- The cells of a row of the call's own that is not empty. -/
theorem Own.cells {t : TypeId} {w : World} {B : Nat} {v : Value} {m : List Bool} (h : Own t w B v (m.map encT)) (hm : 0 < m.length) :
    ∃ g c, v = .slice (some ⟨g, 0, none⟩) m.length c ∧ B ≤ g ∧ g < w.heap.size ∧ ∀ i, i < m.length → w.cell? ⟨g, i, none⟩ = some (.bool (m.getD i false)) := by
  have h0 := h
  rcases h.2 with ⟨_, hz⟩ | ⟨g, cap, cur, hv, hbase, hb, _⟩
  · rw [List.length_map] at hz; omega
  · rw [List.length_map] at hv
    refine ⟨g, cap, hv, hbase, (Array.getElem?_eq_some_iff.1 hb).1, fun i hi => ?_⟩
    subst hv
    have := World.ownsRow.cellAt (by unfold Own at h0; rw [List.length_map] at h0; exact h0) i (by omega)
    rw [this, List.getElem?_map, List.getElem?_eq_getElem hi, List.getD_eq_getElem?_getD, List.getElem?_eq_getElem hi]; rfl
/-- The pixels of a glyph, wherever they lie in a later world. -/
theorem Own.pix {w : World} {B : Nat} {v : Value} {c : UInt8} (h : Own 4 w B v ((Gl.pix c).map encT)) :
    ∃ g cp, v = .slice (some ⟨g, 0, none⟩) 35 cp ∧ B ≤ g ∧ g < w.heap.size ∧ ∀ w', Ext w w' → ∀ i, i < 35 → w'.cell? ⟨g, i, none⟩ = some (.bool (Gl.bitAt (Gl.code c) i)) := by
  obtain ⟨g, cp, h1, h2, h3, h4⟩ := h.cells (by rw [Gl.pix_len]; omega)
  rw [Gl.pix_len] at h1 h4
  refine ⟨g, cp, h1, h2, h3, fun w' hx i hi => ?_⟩
  rw [hx.cell (p := ⟨g, i, none⟩) h3, h4 i hi, Gl.pix_at c hi]
/-- The pixels of the first n at which two glyphs differ. -/
def Gl.diffs (a b : UInt8) (n : Nat) : Nat := (List.range n).countP fun i => Gl.bitAt (Gl.code a) i != Gl.bitAt (Gl.code b) i
theorem Gl.diffs_succ (a b : UInt8) (n : Nat) : Gl.diffs a b (n + 1) = Gl.diffs a b n + if Gl.bitAt (Gl.code a) n != Gl.bitAt (Gl.code b) n then 1 else 0 := by
  unfold Gl.diffs
  rw [List.range_succ, List.countP_append]
  simp [List.countP_cons]
theorem Gl.diffs_all (a b : UInt8) : Gl.diffs a b 35 = Gl.dist a b := by
  unfold Gl.diffs Gl.dist Gl.cost
  refine List.countP_congr fun i hi => ?_
  rw [Gl.pix_at a (List.mem_range.1 hi)]
theorem Gl.diffs_le (a b : UInt8) (n : Nat) : Gl.diffs a b n ≤ n := by
  unfold Gl.diffs
  exact Nat.le_trans List.countP_le_length (by simp)
set_option maxRecDepth 100000 in
set_option maxHeartbeats 2000000 in
theorem fdist_any (a b : UInt8) (ha : Gl.known a = true) (hb : Gl.known b = true) (w : World) :
    Calls Tryz.prog 46 #[.int .u8 (a.toNat : Int), .int .u8 (b.toNat : Int)] w fun e w' => e = .returned (.tuple #[.int .i64 (Gl.dist a b : Int), .int .i64 0]) ∧ Ext w w' := by
  have HA := Lib.hid (fglyph_any a ha)
  have HB := Lib.hid (fglyph_any b hb)
  rw [← Gl.diffs_all]
  have HS := Lib.hid (Gl.diffs_succ a b)
  have HL := Lib.hid (Gl.diffs_le a b)
  obtain ⟨D, hD⟩ : ∃ D, Gl.diffs a b = D := ⟨_, rfl⟩
  have HD0 : Hid (D 0 = 0) := Lib.hid (by rw [← hD]; rfl)
  rw [hD] at HS HL ⊢
  clear hD ha hb
  go_enter Tryz.func46, Tryz.ntmps46
  go_wp2_with fail
  refine (HA.out _).mono ?_
  rintro e w1 ⟨v1, rfl, hown1, hx1⟩
  obtain ⟨g1, p1, rfl, h11, h12, hc1⟩ := hown1.pix
  have HC1 := Lib.hid hc1
  clear hown1 hc1
  go_wp2_with fail
  refine (HB.out _).mono ?_
  rintro e w2 ⟨v2, rfl, hown2, hx2⟩
  obtain ⟨g2, p2, rfl, h21, h22, hc2⟩ := hown2.pix
  have HC2 := Lib.hid hc2
  have HR1 := Lib.hid (row_new rfl hx2)
  have hxw : Ext w w2 := hx1.trans hx2.before
  have HX := Lib.hid (hxw.alloc (.cells #[.int .i64 5, .int .i64 7, .slice (some ⟨g2, 0, none⟩) 35 p2] 24))
  have hx12 := hx2.before
  have HC1' := Lib.hid (HC1.out _ (hx12.alloc (.cells #[.int .i64 5, .int .i64 7, .slice (some ⟨g2, 0, none⟩) 35 p2] 24)))
  have HC2' := Lib.hid (HC2.out _ ((Ext.refl w2).alloc (.cells #[.int .i64 5, .int .i64 7, .slice (some ⟨g2, 0, none⟩) 35 p2] 24)))
  have HQ1 := Lib.hid (row_on HR1.out ((Ext.refl w2).alloc (.cells #[.int .i64 5, .int .i64 7, .slice (some ⟨g2, 0, none⟩) 35 p2] 24)))
  have HQ2 := Lib.hid (heap_alloc_new w2 (.cells #[.int .i64 5, .int .i64 7, .slice (some ⟨g2, 0, none⟩) 35 p2] 24))
  obtain ⟨W, hW⟩ : ∃ W, w2.alloc (.cells #[.int .i64 5, .int .i64 7, .slice (some ⟨g2, 0, none⟩) 35 p2] 24) = W := ⟨_, rfl⟩
  have q1 := cell_at HQ1.out (i := 2) rfl
  have q2 := cell_at HQ2.out (i := 2) rfl
  rw [hW] at HX HC1' HC2' HQ1 HQ2
  have HW := Lib.hid hW
  clear hW hown2 hc2 hx1 hx2 hxw hx12 HC1 HC2 HR1
  go_wp2
  rw [HW.out]
  clear q1 q2
  have q1 := cell_at HQ1.out (i := 2) rfl
  have q2 := cell_at HQ2.out (i := 2) rfl
  go_loop [9, 31] (fun v9 v31 => ∃ k : Nat, k ≤ 35 ∧ v31 = .int .i64 (k : Int) ∧ v9 = .int .i64 (D k : Int)) (fun _ v31 => 35 - (intOf v31).toNat)
  case atStart => exact ⟨0, Nat.zero_le _, rfl, by rw [HD0.out]; rfl⟩
  case round =>
    obtain ⟨k, hk, rfl, rfl⟩ := hrel
    by_cases hlt : k < 35
    · have c1 := HC1'.out k hlt
      have c2 := HC2'.out k hlt
      have hS := HS.out k
      have hl := HL.out k
      generalize Gl.bitAt (Gl.code a) k = da at *
      generalize Gl.bitAt (Gl.code b) k = db at *
      obtain ⟨n, hn⟩ : ∃ n, D k = n := ⟨_, rfl⟩
      rw [hn] at hS hl ⊢
      have HS' := Lib.hid hS
      clear hS hn
      cases da <;> cases db
      all_goals
        go_wp2
        go_round
        case rel => exact ⟨k + 1, by omega, by go_num, by rw [HS'.out]; simp⟩
        case measure => simp [intOf]; omega
    · obtain rfl : k = 35 := by omega
      clear hk hlt
      go_wp2
      go_ret2
      exact ⟨rfl, HX.out⟩
end Go.Proofs.YtamkgbodifjlaaaGreatDoor
