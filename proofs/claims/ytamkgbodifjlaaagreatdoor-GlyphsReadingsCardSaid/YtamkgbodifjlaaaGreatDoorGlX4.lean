/-
  Chapter 48, the reference: dark.
  Condition: a valid bitmap.
-/
import Derived.Test.YtamkgbodifjlaaaGreatDoorGlPa
import Derived.Test.YtamkgbodifjlaaaGreatDoorGlW1
import Derived.Test.YtamkgbodifjlaaaGreatDoorSl
import Derived.BigRegion
namespace Go.Proofs.YtamkgbodifjlaaaGreatDoor
set_option linter.unusedVariables false
open Go.RowKit

/-- The ends of a row as numbers, -1 where there are none. -/
def Gl.endI : Option (Nat × Nat) → Int × Int
  | none => (-1, -1)
  | some (a, b) => (a, b)
set_option maxRecDepth 100000 in
set_option maxHeartbeats 4000000 in
theorem xdark_any (b off c ln : Nat) (m : List Bool) (W H y : Nat) (w : World) (hpx : ∀ w', Ext w w' → ∀ i, i < ln → w'.cell? ⟨b, off + i, none⟩ = some (.bool (m.getD i false))) (hm : m.length = W * H) (hln : ln = m.length) (hb : b < w.heap.size) (hW : W ≤ 4096) (hH : H ≤ 4096) (hy : y < H) :
    Calls Tryz.prog 34 #[.agg #[.int .i64 (W : Int), .int .i64 (H : Int), .slice (some ⟨b, off, none⟩) ln c], .int .i64 (y : Int)] w
      fun e w' => e = .returned (.tuple #[.int .i64 (Gl.endI (Gl.ends (Gl.rowAt m W y))).1, .int .i64 (Gl.endI (Gl.ends (Gl.rowAt m W y))).2]) ∧ Ext w w' := by
  have hrl := Gl.rowAt_len m W y H hm hy
  have hrow := fun x (hx : x < W) => Gl.rowAt_at m W y x hx
  have hall : y * W + W ≤ ln := by
    have : (y + 1) * W ≤ W * H := by rw [Nat.mul_comm W H]; exact Nat.mul_le_mul_right W hy
    rw [Nat.add_mul, Nat.one_mul] at this
    omega
  have hlb : ln ≤ 16777216 := by rw [hln, hm]; exact Nat.mul_le_mul hW hH
  have HE : Hid (Gl.ends (Gl.rowAt m W y) = Gl.endsN (Gl.rowAt m W y) W) := Lib.hid (by unfold Gl.ends; rw [hrl])
  obtain ⟨Z, hZ⟩ : ∃ Z, y * W = Z := ⟨_, rfl⟩
  have eZ : (y : Int) * (W : Int) = (Z : Int) := by rw [← hZ]; simp
  rw [hZ] at hall
  simp only [hZ] at hrow
  have HROW := Lib.hid hrow
  have HPX := Lib.hid hpx
  rw [HE.out]
  generalize Gl.rowAt m W y = r at *
  clear hrl hrow hpx hln hm hZ HE
  go_enter Tryz.func34, Tryz.ntmps34
  go_wp2
  go_loop [6, 7, 8] (fun v6 v7 v8 => ∃ x : Nat, x ≤ W ∧ v8 = .int .i64 (x : Int) ∧ v6 = .int .i64 (Gl.endI (Gl.endsN r x)).1 ∧ v7 = .int .i64 (Gl.endI (Gl.endsN r x)).2) (fun _ _ v8 => W - (intOf v8).toNat)
  case atStart => exact ⟨0, Nat.zero_le _, rfl, rfl, rfl⟩
  case round =>
    obtain ⟨x, hx, rfl, rfl, rfl⟩ := hrel
    by_cases hlt : x < W
    · have hp := HPX.out (w.alloc (.cells #[.int .i64 (W : Int), .int .i64 (H : Int), .slice (some ⟨b, off, none⟩) ln c] 24)) ((Ext.refl _).alloc _) (Z + x) (by omega)
      rw [← HROW.out x hlt] at hp
      have hs : Gl.endsN r (x + 1) = if r.getD x false = true then (match Gl.endsN r x with | none => some (x, x) | some (a, _) => some (a, x)) else Gl.endsN r x := rfl
      have hix : Z + x < ln := by omega
      obtain ⟨I, hI⟩ : ∃ I, Z + x = I := ⟨_, rfl⟩
      have eI : (Z : Int) + (x : Int) = (I : Int) := by omega
      rw [hI] at hp hix
      generalize r.getD x false = d at *
      clear hI
      cases d
      · have HS : Hid (Gl.endsN r (x + 1) = Gl.endsN r x) := Lib.hid hs
        clear hs
        go_wp2
        go_round
        case rel => exact ⟨x + 1, by omega, by go_num, by rw [HS.out], by rw [HS.out]⟩
        case measure => simp [intOf]; omega
      · generalize Gl.endsN r x = e0 at *
        cases e0 with
        | none =>
          have HS : Hid (Gl.endsN r (x + 1) = some (x, x)) := Lib.hid hs
          clear hs
          have g1 : Gl.endI none = (-1, -1) := rfl
          rw [g1]
          clear g1
          dsimp only
          go_wp2
          go_round
          case rel => exact ⟨x + 1, by omega, by go_num, by rw [HS.out]; rfl, by rw [HS.out]; rfl⟩
          case measure => simp [intOf]; omega
        | some p =>
          obtain ⟨a, a2⟩ := p
          have HS : Hid (Gl.endsN r (x + 1) = some (a, x)) := Lib.hid hs
          clear hs
          have g1 : Gl.endI (some (a, a2)) = ((a : Int), (a2 : Int)) := rfl
          rw [g1]
          clear g1
          dsimp only
          have ha : 0 ≤ (a : Int) := by omega
          go_wp2
          go_round
          case rel => exact ⟨x + 1, by omega, by go_num, by rw [HS.out]; rfl, by rw [HS.out]; rfl⟩
          case measure => simp [intOf]; omega
    · obtain rfl : x = W := by omega
      clear hx hlt
      go_wp2
      go_ret2
      exact ⟨rfl, (Ext.refl _).alloc _⟩
end Go.Proofs.YtamkgbodifjlaaaGreatDoor
