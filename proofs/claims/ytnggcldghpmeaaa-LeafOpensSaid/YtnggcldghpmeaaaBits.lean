/- The numbers of machine words as Lean's: the sum's step in bits, bytes as cells. -/
import Derived.Test.YtnggcldghpmeaaaBase
import Derived.Test.YtnggcldghpmeaaaCrc
set_option linter.unusedVariables false
set_option linter.unusedSimpArgs false
namespace Go.Proofs.Ytnggcldghpmeaaa
open Go.RowKit
theorem xor32 (a b : BitVec 32) : bits .xor .u32 (a.toNat : Int) (b.toNat : Int) = ((a ^^^ b).toNat : Int) := by
  rw [u32_xor_nat _ _ a.isLt b.isLt, BitVec.toNat_xor]
theorem sh1_yes (x : BitVec 32) (h : ((x.toNat : Int) / 2147483648 == 1) = true) : bits .xor .u32 ((x.toNat : Int) * 2 % 4294967296) 79764919 = ((sh1 x).toNat : Int) := by
  have hm : x.msb = true := by
    rw [msb_eq]; simp at h ⊢; omega
  have e : ((x.toNat : Int) * (2 : Int) % (4294967296 : Int)) = ((x <<< 1).toNat : Int) := by rw [shl1_toNat, Int.natCast_emod, Int.natCast_mul]; rfl
  have e2 : (79764919 : Int) = (crcPoly.toNat : Int) := rfl
  rw [e, e2, xor32]
  simp [sh1, hm]
theorem sh1_no (x : BitVec 32) (h : ((x.toNat : Int) / 2147483648 == 1) = false) : ((x.toNat : Int) * 2 % 4294967296) = ((sh1 x).toNat : Int) := by
  have hm : x.msb = false := by
    rw [msb_eq]; simp at h ⊢; omega
  have e : ((x.toNat : Int) * (2 : Int) % (4294967296 : Int)) = ((x <<< 1).toNat : Int) := by rw [shl1_toNat, Int.natCast_emod, Int.natCast_mul]; rfl
  rw [e]
  simp [sh1, hm]

/-! ### Bytes as cells -/
def bv (b : UInt8) : Value := .int .u8 (b.toNat : Int)
def BV (l : List UInt8) : List Value := l.map bv
theorem BV_length (l : List UInt8) : (BV l).length = l.length := by simp [BV]
theorem BV_append (l m : List UInt8) : BV (l ++ m) = BV l ++ BV m := by simp [BV]
theorem BV_one (l : List UInt8) : ∀ u ∈ BV l, u.oneCell' = true := by
  intro u hu
  obtain ⟨b, _, rfl⟩ := List.mem_map.1 hu
  rfl
theorem BV_get (l : List UInt8) (k : Nat) (h : k < (BV l).length) : (BV l)[k] = .int .u8 ((l[k]'(by rw [BV_length] at h; exact h)).toNat : Int) := by simp [BV, bv]
theorem BV_take (l : List UInt8) (k : Nat) : BV (l.take k) = (BV l).take k := by simp [BV, List.map_take]
theorem BV_drop (l : List UInt8) (k : Nat) : BV (l.drop k) = (BV l).drop k := by simp [BV, List.map_drop]
theorem BV_cons (b : UInt8) (l : List UInt8) : BV (b :: l) = bv b :: BV l := rfl
theorem BV_nil : BV [] = [] := rfl
theorem BV_inj {l m : List UInt8} (h : BV l = BV m) : l = m := by
  unfold BV at h
  refine (List.map_inj_right ?_).1 h
  intro x y hxy
  unfold bv at hxy
  injection hxy with _ h2
  exact UInt8.toNat_inj.1 (by omega)
/-- A reading byte at k. -/
theorem Rd.byte {w : World} {A : Option Addr} {l : List UInt8} (h : Rd w A (BV l)) (k : Nat) (hk : k < l.length) : ∃ ad, A = some ad ∧ w.cell? (ad.add k) = some (.int .u8 (l[k].toNat : Int)) := by
  obtain ⟨ad, e, hc⟩ := h.at_ k (by rw [BV_length]; exact hk)
  exact ⟨ad, e, by rw [hc, BV_get]⟩
theorem u8_lt (b : UInt8) : (b.toNat : Int) ≤ 255 := by have := b.toNat_lt; omega
/-- A number's lowest byte. -/
def lo8 (n : Nat) : UInt8 := UInt8.ofNat n
theorem lo8_toNat (n : Nat) : (lo8 n).toNat = n % 256 := by simp [lo8]
theorem BV_all (l : List UInt8) : (BV l).toArray.all (·.oneCell') = true := all_oneCell_toArray (BV_one l)
theorem BV_size {P : Program} {ty n : Nat} (h : (P.info? ty).map (·.size) = some n) {l : List UInt8} (hl : l.length = n) : (P.info? ty).map (·.size) = some (BV l).toArray.size := by
  rw [h]; simp [BV_length, hl]
theorem BV_sizes {l m : List UInt8} (h : l.length = m.length) : (BV l).toArray.size = (BV m).toArray.size := by simp [BV_length, h]
end Go.Proofs.Ytnggcldghpmeaaa
