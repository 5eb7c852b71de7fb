/-
  'append(v, make([]T, n)...)' at a row of the call's own.
  No condition.
-/
import Derived.Test.YtfpliihglgjijaaGreatSl
import Derived.Lib.AppendZeros
namespace Go.Proofs.YtfpliihglgjijaaGreat
open Go.RowKit

theorem zero_one (z : Value) (n : Nat) : (Builtin.zeroCells #[z] n).toList = List.replicate n z := by
  apply List.ext_getElem
  · simp [Builtin.zeroCells]
  · intro i h1 h2
    simp [Builtin.zeroCells, Nat.mod_one]
theorem run_append_zeros {w : World} (T tn ty t : TypeId) (kn : IntKind) (z : Value) (bytes : Nat)
    (hT : Tryz.prog.underlying T = some (.slice t)) (htn : Tryz.prog.underlying tn = some (.int kn)) (hi : (Tryz.prog.info? t).map (fun i => (i.zero, i.size, i.bytes)) = some (some z, 1, bytes)) (hz : z.cells = #[z]) (hone : z.oneCell' = true) (hby : bytes ≤ 16)
    (B : Nat) (v : Value) (xs : List Value) (hown : Own t w B v xs) (hx0 : 0 < xs.length) (n : Nat) (hn : xs.length + n ≤ 1000000000) (hB : B ≤ w.heap.size) :
    ∃ v' w', (Builtin.append_ #[T, tn] ty #[v, .int .i64 (n : Int)]).run Tryz.prog w = .ok v' w' ∧ Own t w' B v' (xs ++ List.replicate n z) ∧ w.grownBy w' v.ownBlock := by
  obtain ⟨i0, hi, hz0, hz1, hz2⟩ := info_parts hi
  have hwn : IntKind.i64.wrap (n : Int) = n := by rw [IntKind.wrap_i64]; omega
  have hneg : ¬ ((n : Int) < 0) := by omega
  have hb1 : (xs.length + n) * bytes ≤ 16000000000 := Nat.le_trans (Nat.mul_le_mul hn hby) (by decide)
  have hb2 : n * bytes ≤ 16000000000 := Nat.le_trans (Nat.mul_le_mul (show n ≤ 1000000000 by omega) hby) (by decide)
  have h48i : ¬ (281474976710656 < (n : Int) * (i0.bytes : Int)) := by rw [hz2, ← Int.natCast_mul]; omega
  have hlen : (xs ++ List.replicate n z).length = xs.length + n := by rw [List.length_append, List.length_replicate]
  rcases hown.2 with ⟨_, h0⟩ | ⟨g, cap, cur, hv, hbase, hb, hc1, hc2, hc3, hc4⟩
  · omega
  · subst hv
    have hw0 : IntKind.i64.wrap 0 = 0 := rfl
    by_cases hn0 : n = 0
    · subst hn0
      refine ⟨.slice (some ⟨g, 0, none⟩) xs.length cap, w, ?_, by rw [List.replicate_zero, List.append_nil]; exact hown, ⟨rfl, rfl, rfl, Nat.le_refl _, fun _ _ _ => rfl⟩⟩
      simp [Builtin.append_, run_underlying hT, run_underlying htn, sizeOf, typeInfo, hi, asInt, asIntOf, hw0, hc1, storeCells]
    · by_cases hroom : xs.length + n ≤ cap
      · have hst := run_storeCells_at Tryz.prog g (xs.length * i0.size) t (List.replicate n z) 0 cur w hb (by rw [List.length_replicate, hz1, Nat.mul_one, hc3]; omega) (fun u hu => by rw [List.eq_of_mem_replicate hu]; exact hone)
        simp only [Nat.add_zero, hz1, Nat.mul_one, List.length_replicate] at hst
        refine ⟨.slice (some ⟨g, 0, none⟩) (xs.length + n) cap, w.setRow g (cur.toList.take xs.length ++ List.replicate n z ++ cur.toList.drop (xs.length + n)).toArray, ?_, ?_, ⟨rfl, rfl, rfl, ?_, fun k _ hk => setRow_other w g k (cur.toList.take xs.length ++ List.replicate n z ++ cur.toList.drop (xs.length + n)).toArray (fun e => hk (by simp [Value.ownBlock, e]))⟩⟩
        · simp [Builtin.append_, run_underlying hT, run_underlying htn, sizeOf, typeInfo, zeroValue, hi, hz0, hz1, hz, asInt, asIntOf, hwn, hneg, h48i, hroom, hn0, Addr.add_lit, zero_one, hst]
        · refine ⟨by rw [hlen]; simp, .inr ⟨g, cap, _, by rw [hlen], hbase, setRow_heap w g cur _ t _ hb, by rw [hlen]; exact hroom, hc2, ?_, ?_⟩⟩
          · simp only [List.size_toArray, List.length_append, List.length_take, List.length_drop, Array.length_toList, List.length_replicate]
            omega
          · have e : cur.toList.take xs.length = xs := by rw [← Nat.mul_one xs.length]; exact hc4
            rw [e, Nat.mul_one]
            exact List.take_left
        · simp
      · have holds : ∀ j u, xs[j]? = some u → w.cell? ((⟨g, 0, none⟩ : Addr).add j) = some u := hown.cells (g := g) rfl
        have hf := run_firstCells_some (P := Tryz.prog) w.drew i0.size xs.length ⟨g, 0, none⟩ xs.length cap xs (by rw [hz1]; simp) (by simpa using holds)
        rw [hz1] at hf
        have hfit : ¬ (281474976710656 < Builtin.nextslicecap (xs.length + n) cap * i0.bytes) := by
          have := growslice_fits (need := xs.length + n) (old := cap) (bytes := bytes) (by omega) (by omega)
          rw [hz2]; omega
        have hge := grownCap_ge w (xs.length + n) cap t
        have h63' : ¬ (9223372036854775807 < ((xs.length : Int) + (n : Int))) := by omega
        refine ⟨.slice (some ⟨w.heap.size, 0, none⟩) (xs.length + n) (grownCap w (xs.length + n) cap t), w.drew.alloc (.cells (xs.toArray ++ Builtin.zeroCells z.cells n ++ Builtin.zeroCells z.cells (grownCap w (xs.length + n) cap t - (xs.length + n))) t), ?_, ?_, ⟨rfl, rfl, rfl, by simp, fun k hk _ => heap_alloc_old w.drew _ hk⟩⟩
        · simp [Builtin.append_, run_underlying hT, run_underlying htn, sizeOf, typeInfo, zeroValue, hi, hz0, hz1, asInt, asIntOf, hwn, hneg, h48i, hroom, hn0, h63', hfit, Question.forced, hf, newRow, grownCap]
        · refine ⟨by rw [hlen]; simp, .inr ⟨w.heap.size, _, _, by rw [hlen], hB, heap_alloc_new w.drew _, by rw [hlen]; exact hge, grownCap_le_maxLen w _ cap t (by unfold maxLen; omega), ?_, ?_⟩⟩
          · rw [hz]; simp [Builtin.zeroCells]; omega
          · rw [hz, Nat.mul_one, hlen, ← hlen]
            simp only [Array.toList_append, zero_one]
            exact List.take_left
end Go.Proofs.YtfpliihglgjijaaGreat
