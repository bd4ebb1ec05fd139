/- The reference's sum, walked: a row of thirty-two bits, bit after bit. -/
import Derived.Test.YtnggcldghpmeaaaW11
import Derived.Test.YtnggcldghpmeaaaCrcB
set_option linter.unusedVariables false
set_option linter.unusedSimpArgs false
set_option maxRecDepth 100000
namespace Go.Proofs.Ytnggcldghpmeaaa
open Go.RowKit
attribute [local irreducible] Calls
def tk (k : Nat) : List Bool := (List.range 32).map fun j => decide (j < k)
theorem tk_length (k : Nat) : (tk k).length = 32 := by simp [tk]
theorem tk_next : ∀ k : Nat, k < 32 → (tk k).set k true = tk (k + 1) := by decide
theorem tk_0 : tk 0 = List.replicate 32 false := by decide
theorem tk_32 : tk 32 = bits 0xffffffff#32 := by decide
def nx (s : BitVec 32) (top : Bool) (k : Nat) : List Bool := (List.range 32).map fun j => xor ((s <<< 1).getMsbD j) (top && decide (j < k) && crcPoly.getMsbD j)
theorem nx_length (s : BitVec 32) (top : Bool) (k : Nat) : (nx s top k).length = 32 := by simp [nx]
theorem nx_0 (s : BitVec 32) (top : Bool) : nx s top 0 = bits (s <<< 1) := by simp [nx, bits]
theorem nx_32 (s : BitVec 32) (b : Bool) : nx s (s.msb != b) 32 = bits (bitStep s b) := by
  unfold nx bits bitStep
  refine List.map_congr_left fun j hj => ?_
  have hj : j < 32 := by simpa using hj
  rw [BitVec.getMsbD_xor]
  cases (s.msb != b) <;> simp [hj]
theorem nx_get (s : BitVec 32) (top : Bool) (k : Nat) (h : k < 32) : (nx s top k)[k]'(by rw [nx_length]; exact h) = (s <<< 1).getMsbD k := by
  simp [nx]
theorem nx_next (s : BitVec 32) (k : Nat) (h : k < 32) (hp : crcPoly.getMsbD k = true) : (nx s true k).set k (!(nx s true k)[k]'(by rw [nx_length]; exact h)) = nx s true (k + 1) := by
  rw [nx_get s true k h]
  apply List.ext_getElem
  · simp [nx_length]
  · intro i h1 h2
    rw [List.getElem_set]
    by_cases hik : k = i
    · subst hik; simp [nx, hp]
    · rw [if_neg hik]
      have hd : decide (i < k + 1) = decide (i < k) := decide_eq_decide.2 (by omega)
      simp only [nx, List.getElem_map, List.getElem_range, hd]
theorem nx_same (s : BitVec 32) (top : Bool) (k : Nat) (h : (top && crcPoly.getMsbD k) = false) : nx s top k = nx s top (k + 1) := by
  unfold nx
  refine List.map_congr_left fun j hj => ?_
  by_cases hk : j = k
  · subst hk
    simp [h]
  · have hd : decide (j < k + 1) = decide (j < k) := decide_eq_decide.2 (by omega)
    rw [hd]
theorem bits_copy (s : BitVec 32) : (bits s).drop 1 ++ [false] = bits (s <<< 1) := by
  apply List.ext_getElem
  · simp [bits_length]
  · intro i h1 h2
    rw [bits_length] at h2
    rw [List.getElem_append]
    split
    · rename_i h3
      simp only [List.length_drop, bits_length] at h3
      simp only [List.getElem_drop, bits, List.getElem_map, List.getElem_range, BitVec.getMsbD_shiftLeft]
      simp [h2, Nat.add_comm]
    · rename_i h3
      simp only [List.length_drop, bits_length] at h3
      obtain rfl : i = 31 := by omega
      simp [bits]
theorem bits_get (s : BitVec 32) (k : Nat) (h : k < 32) : (bits s)[k]'(by rw [bits_length]; exact h) = s.getMsbD k := by simp [bits]
theorem bits_0 (s : BitVec 32) : s.getMsbD 0 = s.msb := rfl
end Go.Proofs.Ytnggcldghpmeaaa
