/-
  Two neighbours of a string exchanged.
  No condition.
-/
import Derived.Test.YtkpfehfcgpapiaaGreatDoorCdM5
import Derived.Test.YtkpfehfcgpapiaaGreatDoorKit
namespace Go.Proofs.YtkpfehfcgpapiaaGreatDoor
open Go.RowKit

theorem swp_cut (s : ByteArray) (i : Nat) : (s.extract 0 i ++ s.extract (i + 1) (i + 2) ++ s.extract i (i + 1) ++ s.extract (i + 2) s.size).data.toList = Cd.swp s.data.toList i := by
  simp only [ByteArray.data_append, Array.toList_append, cut_mid, Cd.swp]
  rw [show i + 2 - (i + 1) = 1 by omega, show i + 1 - i = 1 by omega, Nat.sub_zero, List.drop_zero, List.take_of_length_le (i := s.size - (i + 2)) (by rw [len_drop]; exact Nat.le_refl _)]

end Go.Proofs.YtkpfehfcgpapiaaGreatDoor
