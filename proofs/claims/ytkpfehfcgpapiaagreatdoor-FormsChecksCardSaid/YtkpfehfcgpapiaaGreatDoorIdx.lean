/-
  strings.IndexByte, in short words.
  No condition.
-/
import Derived.Test.YtkpfehfcgpapiaaGreatDoorKit
import Derived.Test.YtkpfehfcgpapiaaGreatDoorShelf
import Derived.Lib.IndexLaws
namespace Go.Proofs.YtkpfehfcgpapiaaGreatDoor
open Go.RowKit

theorem index_any (s : ByteArray) (c : Int) (w : World) :
    Calls Tryz.prog 114 #[.string s, .int .u8 c] w fun e w' => e = .returned (.int .i64 (Lib.indexByte s.data.toList c.toNat.toUInt8)) ∧ w = w' :=
  (Tryz.strings_IndexByte _ c w).mono fun _ _ ⟨he, hw⟩ => ⟨he, hw.symm⟩

theorem byte_num (c : UInt8) : ((c.toNat : Int).toNat).toUInt8 = c := by
  rw [Int.toNat_natCast]; simp

theorem index_lt (l : List UInt8) (c : UInt8) (n : Nat) (h : Lib.indexByte l c = (n : Int)) : n < l.length := by
  have := (Lib.indexByte_some h).1
  rw [List.getElem?_eq_some_iff] at this
  exact this.1
end Go.Proofs.YtkpfehfcgpapiaaGreatDoor
