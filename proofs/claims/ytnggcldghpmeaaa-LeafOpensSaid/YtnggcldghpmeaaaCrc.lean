/- The sum of bytes (a cyclic code's rest), as plain Lean: it is linear, a changed byte or two neighbours change it, bytes and their sum together have the sum nought. No program in sight. -/
set_option linter.unusedSimpArgs false
namespace Go.Proofs.Ytnggcldghpmeaaa
/-- one bit's shift of the sum -/
def crcPoly : BitVec 32 := 0x04c11db7#32
def sh1 (s : BitVec 32) : BitVec 32 := if s.msb then (s <<< 1) ^^^ crcPoly else s <<< 1
def sh8 (s : BitVec 32) : BitVec 32 := sh1 (sh1 (sh1 (sh1 (sh1 (sh1 (sh1 (sh1 s)))))))
def crcTop (c : UInt8) : BitVec 32 := (c.toBitVec.setWidth 32) <<< 24
def crcStep (s : BitVec 32) (c : UInt8) : BitVec 32 := sh8 (s ^^^ crcTop c)
def crc (s : BitVec 32) (l : List UInt8) : BitVec 32 := l.foldl crcStep s

theorem sh1_xor (a b : BitVec 32) : sh1 (a ^^^ b) = sh1 a ^^^ sh1 b := by
  unfold sh1
  rw [BitVec.msb_xor, BitVec.shiftLeft_xor_distrib]
  cases a.msb <;> cases b.msb <;> simp only [Bool.xor_self, Bool.xor_false, Bool.false_xor, Bool.xor_true, Bool.not_true, Bool.not_false, if_true, Bool.false_eq_true, if_false]
  · ac_rfl
  · ac_rfl
  · rw [show a <<< 1 ^^^ crcPoly ^^^ (b <<< 1 ^^^ crcPoly) = a <<< 1 ^^^ b <<< 1 ^^^ (crcPoly ^^^ crcPoly) by ac_rfl]; simp
theorem sh1_zero : sh1 0#32 = 0#32 := by decide
theorem sh1_inj0 (a : BitVec 32) (h : sh1 a = 0#32) : a = 0#32 := by
  unfold sh1 at h
  split at h
  · have h0 := congrArg (fun x : BitVec 32 => x.getLsbD 0) h
    simp [crcPoly] at h0
  · rename_i hm
    apply BitVec.eq_of_getLsbD_eq
    intro i hi
    by_cases h31 : i = 31
    · subst h31
      rw [BitVec.msb_eq_getLsbD_last] at hm
      simpa using hm
    · have h1 := congrArg (fun x : BitVec 32 => x.getLsbD (i + 1)) h
      simp at h1
      have := h1 (by omega)
      simpa using this
theorem sh8_xor (a b : BitVec 32) : sh8 (a ^^^ b) = sh8 a ^^^ sh8 b := by simp only [sh8, sh1_xor]
theorem sh8_zero : sh8 0#32 = 0#32 := by decide
theorem sh8_inj0 (a : BitVec 32) (h : sh8 a = 0#32) : a = 0#32 :=
  sh1_inj0 _ (sh1_inj0 _ (sh1_inj0 _ (sh1_inj0 _ (sh1_inj0 _ (sh1_inj0 _ (sh1_inj0 _ (sh1_inj0 _ h)))))))
theorem xor_eq_zero {a b : BitVec 32} (h : a ^^^ b = 0#32) : a = b := by
  have := congrArg (· ^^^ b) h
  simpa [BitVec.xor_assoc] using this
theorem sh8_inj {a b : BitVec 32} (h : sh8 a = sh8 b) : a = b := by
  apply xor_eq_zero
  apply sh8_inj0
  rw [sh8_xor, h]; simp
theorem step_inj_left {s t : BitVec 32} {c : UInt8} (h : crcStep s c = crcStep t c) : s = t := by
  have := sh8_inj h
  have h2 := congrArg (· ^^^ crcTop c) this
  simpa [BitVec.xor_assoc] using h2
theorem crc_append (s : BitVec 32) (l m : List UInt8) : crc s (l ++ m) = crc (crc s l) m := by simp [crc]
theorem crc_inj_left {l : List UInt8} : ∀ {s t : BitVec 32}, crc s l = crc t l → s = t := by
  induction l with
  | nil => intro s t h; exact h
  | cons c l ih => intro s t h; exact step_inj_left (ih h)
theorem top_inj {c d : UInt8} (h : crcTop c = crcTop d) : c = d := by
  apply UInt8.toBitVec_inj.1
  apply BitVec.eq_of_getLsbD_eq
  intro i hi
  have := congrArg (fun x : BitVec 32 => x.getLsbD (24 + i)) h
  simp only [crcTop, BitVec.getLsbD_shiftLeft, show 24 + i < 32 by omega, show ¬ (24 + i < 24) by omega, decide_true, decide_false, Bool.not_false, Bool.true_and, Nat.add_sub_cancel_left] at this
  simpa [show i < 32 by omega] using this
theorem step_inj_right {s : BitVec 32} {c d : UInt8} (h : crcStep s c = crcStep s d) : c = d := by
  have := sh8_inj h
  have h2 := congrArg (s ^^^ ·) this
  simp only [← BitVec.xor_assoc, BitVec.xor_self, BitVec.zero_xor] at h2
  exact top_inj h2
/-- one byte changed -/
theorem crc_one (s : BitVec 32) (l r : List UInt8) (c d : UInt8) (h : crc s (l ++ c :: r) = crc s (l ++ d :: r)) : c = d := by
  rw [crc_append, crc_append] at h
  have := crc_inj_left (l := r) (s := crcStep (crc s l) c) (t := crcStep (crc s l) d) h
  exact step_inj_right this

/-- the crcTop byte taken off: eight shifts without a one on crcTop -/
theorem sh1_small (s : BitVec 32) (h : s.msb = false) : sh1 s = s <<< 1 := by simp [sh1, h]
theorem sh8_small (s : BitVec 32) (h : s.toNat < 2 ^ 24) : sh8 s = s <<< 8 := by
  have key : ∀ k, k < 8 → (s <<< k).msb = false := by
    intro k hk
    rw [BitVec.msb_eq_getLsbD_last]
    simp only [BitVec.getLsbD_shiftLeft]
    have : s.getLsbD (32 - 1 - k) = false := by
      rw [← BitVec.testBit_toNat]
      exact Nat.testBit_lt_two_pow (Nat.lt_of_lt_of_le h (Nat.pow_le_pow_right (by omega) (by omega)))
    simp [this]
  unfold sh8
  rw [sh1_small s (by simpa using key 0 (by omega)), sh1_small _ (key 1 (by omega)), ← BitVec.shiftLeft_add, sh1_small _ (key 2 (by omega)), ← BitVec.shiftLeft_add, sh1_small _ (key 3 (by omega)), ← BitVec.shiftLeft_add, sh1_small _ (key 4 (by omega)), ← BitVec.shiftLeft_add, sh1_small _ (key 5 (by omega)), ← BitVec.shiftLeft_add, sh1_small _ (key 6 (by omega)), ← BitVec.shiftLeft_add, sh1_small _ (key 7 (by omega)), ← BitVec.shiftLeft_add]

def crcTb (s : BitVec 32) : UInt8 := UInt8.ofBitVec (s.extractLsb' 24 8)
def crcTail (s : BitVec 32) : List UInt8 := [crcTb s, crcTb (s <<< 8), crcTb (s <<< 16), crcTb (s <<< 24)]
theorem step_tb (s : BitVec 32) : crcStep s (crcTb s) = s <<< 8 := by
  have e : s ^^^ crcTop (crcTb s) = s &&& 0xffffff#32 := by
    apply BitVec.eq_of_getLsbD_eq
    intro i hi
    simp only [crcTop, crcTb, BitVec.getLsbD_xor, BitVec.getLsbD_shiftLeft, BitVec.getLsbD_and, UInt8.toBitVec_ofBitVec, BitVec.getLsbD_setWidth, BitVec.getLsbD_extractLsb']
    by_cases h : i < 24
    · have h2 : (0xffffff#32).getLsbD i = true := by
        have : ∀ j : Fin 24, (0xffffff#32).getLsbD j.1 = true := by decide
        exact this ⟨i, h⟩
      simp [h, h2]
    · have h2 : (0xffffff#32).getLsbD i = false := by
        have : ∀ j : Fin 8, (0xffffff#32).getLsbD (24 + j.1) = false := by decide
        have := this ⟨i - 24, by omega⟩
        simpa [show 24 + (i - 24) = i by omega] using this
      simp only [h2, Bool.and_false, hi, decide_true, h, decide_false, Bool.not_false, Bool.true_and, show i - 24 < 32 by omega, show i - 24 < 8 by omega, show 24 + (i - 24) = i by omega, Bool.xor_self]
  have hlt : (s &&& 0xffffff#32).toNat < 2 ^ 24 := by
    rw [BitVec.toNat_and]
    exact Nat.lt_of_le_of_lt Nat.and_le_right (by decide)
  unfold crcStep
  rw [e, sh8_small _ hlt]
  apply BitVec.eq_of_getLsbD_eq
  intro i hi
  simp only [BitVec.getLsbD_shiftLeft, BitVec.getLsbD_and]
  by_cases h : i < 8
  · simp [h]
  · have h2 : (0xffffff#32).getLsbD (i - 8) = true := by
      have : ∀ j : Fin 24, (0xffffff#32).getLsbD j.1 = true := by decide
      exact this ⟨i - 8, by omega⟩
    simp [h2]
theorem crc_tail (s : BitVec 32) : crc s (crcTail s) = 0#32 := by
  simp only [crc, crcTail, List.foldl_cons, List.foldl_nil]
  rw [step_tb, step_tb, show s <<< 16 = (s <<< 8) <<< 8 by rw [← BitVec.shiftLeft_add], step_tb,
    show s <<< 24 = (s <<< 8) <<< 8 <<< 8 by rw [← BitVec.shiftLeft_add, ← BitVec.shiftLeft_add], step_tb, ← BitVec.shiftLeft_add, ← BitVec.shiftLeft_add, ← BitVec.shiftLeft_add]
  apply BitVec.eq_of_getLsbD_eq
  intro i hi
  simp [hi]
theorem step_zero : crcStep 0#32 0 = 0#32 := by decide
theorem crc_zeros (n : Nat) : crc 0#32 (List.replicate n 0) = 0#32 := by
  induction n with
  | zero => rfl
  | succ n ih =>
    rw [List.replicate_succ]
    show crc (crcStep 0#32 0) _ = _
    rw [step_zero]; exact ih
/-- whose crcTail is it: a sum that goes to nought over four bytes has those for its crcTail -/
theorem crc_cons (s : BitVec 32) (c : UInt8) (l : List UInt8) : crc s (c :: l) = crc (crcStep s c) l := rfl
theorem xor_byte (c m : UInt8) : crcTop (c ^^^ m) = crcTop c ^^^ crcTop m := by
  simp only [crcTop, UInt8.toBitVec_xor, BitVec.setWidth_xor, BitVec.shiftLeft_xor_distrib]
theorem step_xor (s : BitVec 32) (c m : UInt8) : crcStep s (c ^^^ m) = crcStep s c ^^^ sh8 (crcTop m) := by
  unfold crcStep; rw [xor_byte, ← BitVec.xor_assoc, sh8_xor]
theorem step_add (s t : BitVec 32) (c : UInt8) : crcStep (s ^^^ t) c = crcStep s c ^^^ sh8 t := by
  unfold crcStep; rw [BitVec.xor_assoc, BitVec.xor_comm t, ← BitVec.xor_assoc, sh8_xor]
theorem top_zero : crcTop 0 = 0#32 := by decide
/-- two neighbours changed -/
theorem crc_two (s : BitVec 32) (l r : List UInt8) (c d m n : UInt8) (h : crc s (l ++ (c ^^^ m) :: (d ^^^ n) :: r) = crc s (l ++ c :: d :: r)) : m = 0 ∧ n = 0 := by
  rw [crc_append, crc_append] at h
  have h1 : crcStep (crcStep (crc s l) (c ^^^ m)) (d ^^^ n) = crcStep (crcStep (crc s l) c) d := crc_inj_left (l := r) h
  rw [step_xor (crc s l), step_add, step_xor, BitVec.xor_assoc] at h1
  have h2 : sh8 (crcTop n) ^^^ sh8 (sh8 (crcTop m)) = 0#32 := by
    have := congrArg (crcStep (crcStep (crc s l) c) d ^^^ ·) h1
    simpa only [← BitVec.xor_assoc, BitVec.xor_self, BitVec.zero_xor] using this
  rw [← sh8_xor] at h2
  have h3 := sh8_inj0 _ h2
  -- crcTop n = sh8 (crcTop m); and crcTop n = sh8 (crcTop n >>> 8)
  have h4 : crcTop n = sh8 (crcTop m) := xor_eq_zero h3
  have h5 : sh8 ((n.toBitVec.setWidth 32) <<< 16) = crcTop n := by
    rw [sh8_small, ← BitVec.shiftLeft_add, crcTop]
    rw [BitVec.toNat_shiftLeft, BitVec.toNat_setWidth]
    have := n.toBitVec.isLt
    rw [Nat.shiftLeft_eq]
    omega
  have h6 := sh8_inj (h5.trans h4)
  have key : m = 0 := by
    apply UInt8.toBitVec_inj.1
    apply BitVec.eq_of_getLsbD_eq
    intro i hi
    have := congrArg (fun x : BitVec 32 => x.getLsbD (24 + i)) h6
    simp only [crcTop, BitVec.getLsbD_shiftLeft, show 24 + i < 32 by omega, show ¬ (24 + i < 24) by omega, show ¬ (24 + i < 16) by omega, decide_true, decide_false, Bool.not_false, Bool.true_and, Nat.add_sub_cancel_left, BitVec.getLsbD_setWidth, show i < 32 by omega, show 24 + i - 16 < 32 by omega] at this
    rw [← this]
    have e : n.toBitVec.getLsbD (24 + i - 16) = false := BitVec.getLsbD_of_ge _ _ (by omega)
    rw [e]; simp
  refine ⟨key, ?_⟩
  subst key
  rw [top_zero, sh8_zero] at h4
  exact top_inj (h4.trans top_zero.symm)

def shN : Nat → BitVec 32 → BitVec 32
  | 0, s => s
  | k + 1, s => sh1 (shN k s)
theorem shN_8 (s : BitVec 32) : shN 8 s = sh8 s := rfl
theorem shl1_toNat (x : BitVec 32) : (x <<< 1).toNat = x.toNat * 2 % 4294967296 := by
  rw [BitVec.toNat_shiftLeft, Nat.shiftLeft_eq]
theorem msb_eq (x : BitVec 32) : x.msb = decide (x.toNat / 2147483648 = 1) := by
  rw [BitVec.msb_eq_decide]
  have := x.isLt
  by_cases h : 2 ^ (32 - 1) ≤ x.toNat
  · simp only [h, decide_true]; symm; rw [decide_eq_true_eq]; omega
  · simp only [h, decide_false]; symm; rw [decide_eq_false_iff_not]; omega
theorem top_toNat (c : UInt8) : (crcTop c).toNat = c.toNat * 16777216 := by
  unfold crcTop
  rw [BitVec.toNat_shiftLeft, BitVec.toNat_setWidth, Nat.shiftLeft_eq]
  have := c.toNat_lt
  show c.toNat % 2 ^ 32 * 2 ^ 24 % 2 ^ 32 = _
  omega
end Go.Proofs.Ytnggcldghpmeaaa
