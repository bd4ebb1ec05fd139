/- The sum by single bits is the sum by bytes: plain Lean. -/
import Derived.Test.YtnggcldghpmeaaaCrc
set_option linter.unusedSimpArgs false
set_option maxRecDepth 100000
namespace Go.Proofs.Ytnggcldghpmeaaa
def topBit (b : Bool) : BitVec 32 := if b then 0x80000000#32 else 0#32
def bitStep (s : BitVec 32) (b : Bool) : BitVec 32 := (s <<< 1) ^^^ (if (s.msb != b) then crcPoly else 0#32)
theorem bitStep_eq (s : BitVec 32) (b : Bool) : bitStep s b = sh1 (s ^^^ topBit b) := by
  have h0 : (0#32 <<< 1 : BitVec 32) = 0#32 := by decide
  have h1 : (0x80000000#32 <<< 1 : BitVec 32) = 0#32 := by decide
  have h2 : (0#32 : BitVec 32).msb = false := by decide
  have h3 : (0x80000000#32 : BitVec 32).msb = true := by decide
  unfold bitStep sh1 topBit
  rw [BitVec.msb_xor, BitVec.shiftLeft_xor_distrib]
  cases b <;> cases s.msb <;> simp [h0, h1, h2, h3]
/-- The bits of bytes, each byte's highest first. -/
def bitAt (l : List UInt8) (i : Nat) : Bool := (l.getD (i / 8) 0).toNat / 2 ^ (7 - i % 8) % 2 == 1
def st (l : List UInt8) : Nat → BitVec 32
  | 0 => 0xffffffff#32
  | i + 1 => bitStep (st l i) (bitAt l i)
def bit8 (c : UInt8) (j : Nat) : Bool := c.toNat / 2 ^ (7 - j) % 2 == 1
def step8 (s : BitVec 32) (c : UInt8) : BitVec 32 :=
  bitStep (bitStep (bitStep (bitStep (bitStep (bitStep (bitStep (bitStep s (bit8 c 0)) (bit8 c 1)) (bit8 c 2)) (bit8 c 3)) (bit8 c 4)) (bit8 c 5)) (bit8 c 6)) (bit8 c 7)
theorem step8_zero : ∀ n : Fin 256, step8 0#32 (UInt8.ofNat n.val) = sh8 (crcTop (UInt8.ofNat n.val)) := by decide +kernel
theorem step8_zero' (c : UInt8) : step8 0#32 c = sh8 (crcTop c) := by
  have := step8_zero ⟨c.toNat, c.toNat_lt⟩
  simpa using this
theorem step8_lin (s : BitVec 32) (c : UInt8) : step8 s c = sh8 s ^^^ step8 0#32 c := by
  unfold step8 sh8
  simp only [bitStep_eq, sh1_xor, sh1_zero, BitVec.zero_xor]
  ac_rfl
theorem step8_eq (s : BitVec 32) (c : UInt8) : step8 s c = crcStep s c := by
  rw [step8_lin, step8_zero', crcStep, sh8_xor]
theorem st_byte (l : List UInt8) (k : Nat) (h : k < l.length) : st l (8 * (k + 1)) = crcStep (st l (8 * k)) l[k] := by
  rw [← step8_eq]
  have e : 8 * (k + 1) = 8 * k + 1 + 1 + 1 + 1 + 1 + 1 + 1 + 1 := by omega
  rw [e]
  simp only [st]
  unfold step8
  have b : ∀ j, j < 8 → bitAt l (8 * k + j) = bit8 l[k] j := by
    intro j hj
    unfold bitAt bit8
    rw [show (8 * k + j) / 8 = k by omega, show (8 * k + j) % 8 = j by omega]
    simp [h]
  rw [show bitAt l (8 * k) = bit8 l[k] 0 from b 0 (by omega), b 1 (by omega), show bitAt l (8 * k + 1 + 1) = bit8 l[k] 2 from b 2 (by omega), show bitAt l (8 * k + 1 + 1 + 1) = bit8 l[k] 3 from b 3 (by omega),
    show bitAt l (8 * k + 1 + 1 + 1 + 1) = bit8 l[k] 4 from b 4 (by omega), show bitAt l (8 * k + 1 + 1 + 1 + 1 + 1) = bit8 l[k] 5 from b 5 (by omega), show bitAt l (8 * k + 1 + 1 + 1 + 1 + 1 + 1) = bit8 l[k] 6 from b 6 (by omega),
    show bitAt l (8 * k + 1 + 1 + 1 + 1 + 1 + 1 + 1) = bit8 l[k] 7 from b 7 (by omega)]
theorem st_take (l : List UInt8) (k : Nat) (h : k ≤ l.length) : st l (8 * k) = crc 0xffffffff#32 (l.take k) := by
  induction k with
  | zero => rfl
  | succ k ih =>
    rw [st_byte l k (by omega), ih (by omega)]
    have : l.take (k + 1) = l.take k ++ [l[k]'(by omega)] := by
      rw [List.take_add_one, List.getElem?_eq_getElem (by omega)]; rfl
    rw [this, crc_append]
    rfl
theorem st_all (l : List UInt8) : st l (8 * l.length) = crc 0xffffffff#32 l := by rw [st_take l _ (Nat.le_refl _), List.take_length]
end Go.Proofs.Ytnggcldghpmeaaa
