/- The reference's polynomial, walked: its bits in a row, the highest first. -/
import Derived.Test.YtnggcldghpmeaaaMid
import Derived.Test.YtnggcldghpmeaaaW5
set_option linter.unusedVariables false
set_option linter.unusedSimpArgs false
set_option maxRecDepth 100000
namespace Go.Proofs.Ytnggcldghpmeaaa
open Go.RowKit
attribute [local irreducible] Calls
def BB (l : List Bool) : List Value := l.map Value.bool
theorem BB_length (l : List Bool) : (BB l).length = l.length := by simp [BB]
theorem BB_one (l : List Bool) : ∀ u ∈ BB l, u.oneCell' = true := by
  intro u hu
  simp only [BB, List.mem_map] at hu
  obtain ⟨b, _, rfl⟩ := hu
  rfl
theorem BB_get {l : List Bool} {k : Nat} (h : k < l.length) : (BB l).toArray[k]? = some (.bool l[k]) := by simp [BB, h]
/-- The bits of a word, the highest first. -/
def bits (s : BitVec 32) : List Bool := (List.range 32).map fun j => s.getMsbD j
theorem bits_length (s : BitVec 32) : (bits s).length = 32 := by simp [bits]
def polyK (k : Nat) : List Bool := (List.range 32).map fun j => decide (32 - k ≤ j) && crcPoly.getMsbD j
theorem polyK_length (k : Nat) : (polyK k).length = 32 := by simp [polyK]
theorem polyK_32 : polyK 32 = bits crcPoly := by simp [polyK, bits]
theorem polyK_0 : polyK 0 = List.replicate 32 false := by decide
def polyN : Nat := 0x04c11db7
theorem poly_0 : Hid ((79764919 : Int) = ((polyN / 2 ^ 0 : Nat) : Int)) := by
  show _ = _
  rw [Nat.pow_zero, Nat.div_one]; rfl
theorem poly_next {z : Int} {k : Nat} (h : Hid (z = ((polyN / 2 ^ k : Nat) : Int))) : Hid (z / 2 = ((polyN / 2 ^ (k + 1) : Nat) : Int)) := by
  show _ = _
  rw [Nat.pow_succ, ← Nat.div_div_eq_div_mul, h.out]
  generalize polyN / 2 ^ k = q
  omega
theorem poly_bit {z : Int} {k : Nat} (h : Hid (z = ((polyN / 2 ^ k : Nat) : Int))) : (z % 2 == 1) = decide (polyN / 2 ^ k % 2 = 1) := by
  rw [h.out]
  generalize polyN / 2 ^ k = q
  show decide _ = decide _
  exact decide_eq_decide.2 (by omega)
theorem BB_set (l : List Bool) (k : Nat) (b : Bool) : (BB l).toArray.setIfInBounds k (.bool b) = (BB (l.set k b)).toArray := by
  simp [BB, List.map_set]
theorem polyK_next : ∀ k : Nat, k < 32 → (polyK k).set (31 - k) (decide (polyN / 2 ^ k % 2 = 1)) = polyK (k + 1) := by decide
theorem sz255 : (Try.prog.info? 255).map (·.size) = some 32 := by kernel_rfl
theorem BB_size {P : Program} {ty n : Nat} (h : (P.info? ty).map (·.size) = some n) {l : List Bool} (hl : l.length = n) : (P.info? ty).map (·.size) = some (BB l).toArray.size := by
  rw [h]; simp [BB_length, hl]
set_option maxHeartbeats 1000000 in
theorem poly_calls (w : World) : Calls Try.prog 184 #[] w fun e w' => e = .returned (.agg (BB (bits crcPoly)).toArray) ∧ Ext w w' := by
  have HS := hid (BB_size sz255 (bits_length crcPoly))
  go_enter Try.func184, Try.ntmps184
  have HZ := hid (BB_size sz255 (show (List.replicate 32 false).length = 32 from rfl))
  have HA := hid (all_oneCell_toArray (BB_one (List.replicate 32 false)))
  go_wp2_with (refine fit (.store 255 (.tmp 1) (.tmp 4)) ?_; refine wpl_fresh2 rfl 255 (.tmp 1) (.tmp 4) rfl rfl (by simp) rfl HZ.out rfl HA.out ?_; intro W1 E1 G1 hs1; have G0 : Blk W1 w.heap.size 255 (BB (List.replicate 32 false)).toArray := (Blk.new w 255 _).ext E1; have E0 : Ext w W1 := (Ext.rfl'.al _).tr E1; clear E1)
  have hW1 := G1.lt
  go_loopw [2, 3] (fun n i wr => ∃ (k : Nat) (z x : Int), k ≤ 32 ∧ x = 31 - k ∧ i = .int .i64 x ∧ n = .int .u32 z ∧ 0 ≤ z ∧ z < 4294967296 ∧ Hid (z = ((polyN / 2 ^ k : Nat) : Int)) ∧ Blk wr (w.heap.size + 1) 255 (BB (polyK k)).toArray ∧ Blk wr w.heap.size 255 (BB (List.replicate 32 false)).toArray ∧ Below w.heap.size w wr) (fun _ i _ => (intOf i + 1).toNat)
  case atStart => exact ⟨0, 79764919, 31, by omega, by omega, rfl, rfl, by omega, by omega, poly_0, by rw [polyK_0]; exact G1, G0, E0⟩
  case round =>
    obtain ⟨k, z, x, hk, hx, rfl, rfl, hz0, hz1, HZ2, B1, B0, hE⟩ := hrel
    have HX := hid hx
    by_cases hlt : 0 ≤ x
    · have hb := B1.cell (31 - k)
      have hf := B1.frozen (31 - k)
      rw [BB_get (by rw [polyK_length]; omega)] at hb
      have hxk : x.toNat = 31 - k := by omega
      go_wp2
      go_roundw
      case rel =>
        refine ⟨k + 1, z / 2, 31 - k - 1, by omega, by omega, rfl, rfl, by omega, by omega, poly_next HZ2, ?_, B0.far (by simp) _, Below.setCell hE (by simp) _⟩
        have := B1.set_ (31 - k) (.bool (z % 2 == 1))
        rw [BB_set, poly_bit HZ2, polyK_next k (by omega)] at this
        rw [poly_bit HZ2]
        exact this
      case measure => simp [intOf]; omega
    · go_wp2_with (first
        | (refine fit (.load 255 (.tmp 1)) ?_; refine wpl_do rfl (wp_load 255 (.tmp 1) rfl rfl B1 Try.underlying255 rfl (by rw [BB_size sz255 (polyK_length k)]) ?_))
        | (refine fit (.store 255 (.tmp 0) (.tmp 16)) ?_; refine wpl_store rfl 255 (.tmp 0) (.tmp 16) rfl rfl rfl B0 (BB_size sz255 (polyK_length k)) (by simp [BB_length, polyK_length]) (all_oneCell_toArray (BB_one _)) ?_; intro W5 hW5 G5 hb5 hf5 hs5))
      have hk32 : k = 32 := by have := HX.out; omega
      subst hk32
      rw [polyK_32] at G5
      exact ret_cell rfl rfl G5 Try.underlying255 rfl HS.out rfl ⟨rfl, hE.trans (hb5.mono (Nat.le_refl _))⟩
end Go.Proofs.Ytnggcldghpmeaaa
