/- What the package ends computes, walked: which widths there are, numbers as bytes. -/
import Derived.Test.YtnggcldghpmeaaaW2
set_option linter.unusedVariables false
set_option linter.unusedSimpArgs false
set_option maxRecDepth 100000
namespace Go.Proofs.Ytnggcldghpmeaaa
open Go.RowKit

theorem ones_1 (w : World) : Calls Try.prog 191 #[.int .u64 1] w fun e w' => e = .returned (.int .i64 1) ∧ w = w' := by
  go_enter Try.func191, Try.ntmps191
  go_wp2
  go_ret
  exact ⟨by kernel_rfl, rfl⟩
theorem ones_2 (w : World) : Calls Try.prog 191 #[.int .u64 2] w fun e w' => e = .returned (.int .i64 1) ∧ w = w' := by
  go_enter Try.func191, Try.ntmps191
  go_wp2
  go_ret
  exact ⟨by kernel_rfl, rfl⟩
theorem ones_4 (w : World) : Calls Try.prog 191 #[.int .u64 4] w fun e w' => e = .returned (.int .i64 1) ∧ w = w' := by
  go_enter Try.func191, Try.ntmps191
  go_wp2
  go_ret
  exact ⟨by kernel_rfl, rfl⟩
theorem ones_8 (w : World) : Calls Try.prog 191 #[.int .u64 8] w fun e w' => e = .returned (.int .i64 1) ∧ w = w' := by
  go_enter Try.func191, Try.ntmps191
  go_wp2
  go_ret
  exact ⟨by kernel_rfl, rfl⟩

theorem onesCount (n : Int) (h : n = 1 ∨ n = 2 ∨ n = 4 ∨ n = 8) (w : World) : Calls Try.prog 181 #[.int .u64 n] w fun e w' => e = .returned (.int .i64 1) ∧ w = w' := by
  rcases h with rfl | rfl | rfl | rfl
  · go_enter Try.func181, Try.ntmps181
    go_wp2_with (go_at_call 191; refine (ones_1 _).mono ?_; rintro e w' ⟨rfl, rfl⟩)
    go_ret; exact ⟨rfl, rfl⟩
  · go_enter Try.func181, Try.ntmps181
    go_wp2_with (go_at_call 191; refine (ones_2 _).mono ?_; rintro e w' ⟨rfl, rfl⟩)
    go_ret; exact ⟨rfl, rfl⟩
  · go_enter Try.func181, Try.ntmps181
    go_wp2_with (go_at_call 191; refine (ones_4 _).mono ?_; rintro e w' ⟨rfl, rfl⟩)
    go_ret; exact ⟨rfl, rfl⟩
  · go_enter Try.func181, Try.ntmps181
    go_wp2_with (go_at_call 191; refine (ones_8 _).mono ?_; rintro e w' ⟨rfl, rfl⟩)
    go_ret; exact ⟨rfl, rfl⟩
/-- The widths that there are. -/
def IsWidth (n : Nat) : Prop := n = 1 ∨ n = 2 ∨ n = 4 ∨ n = 8
theorem right_calls (n : Nat) (h : IsWidth n) (w : World) : Calls Try.prog 156 #[.int .i64 n] w fun e w' => e = .returned (.bool true) ∧ w = w' := by
  have h' : (n : Int) = 1 ∨ (n : Int) = 2 ∨ (n : Int) = 4 ∨ (n : Int) = 8 := by unfold IsWidth at h; omega
  have h1 : 0 < n := by omega
  have h2 : n ≤ 8 := by omega
  have H := hid h'
  clear h h'
  go_enter Try.func156, Try.ntmps156
  go_wp2_with (go_at_call 181; refine (onesCount _ H.out _).mono ?_; rintro e w' ⟨rfl, rfl⟩)
  go_ret; exact ⟨rfl, rfl⟩

/-- How many bits a number has. -/
def IsLen (n L : Nat) : Prop := (n = 0 → L = 0) ∧ (n ≠ 0 → 1 ≤ L ∧ 2 ^ (L - 1) ≤ n)
theorem IsLen.le {n L k : Nat} (h : IsLen n L) (hk : n < 2 ^ k) : L ≤ k := by
  rcases Nat.eq_zero_or_pos n with h0 | h0
  · rw [h.1 h0]; omega
  · obtain ⟨h1, h2⟩ := h.2 (by omega)
    have h3 : 2 ^ (L - 1) < 2 ^ k := Nat.lt_of_le_of_lt h2 hk
    have := (Nat.pow_lt_pow_iff_right (by omega : 1 < 2)).1 h3
    omega
def lenB (n L : Nat) : Bool := if n = 0 then L == 0 else decide (1 ≤ L) && decide (2 ^ (L - 1) ≤ n) && decide (L ≤ 8)
def tableB (s : ByteArray) : Bool := s.size == 256 && (List.range 256).all fun j => lenB j ((s.data.getD j 0).toNat)
theorem table_at {s : ByteArray} (h : tableB s = true) (j : Int) (h0 : 0 ≤ j) (h1 : j < 256) : ∃ L : Nat, L ≤ 8 ∧ IsLen j.toNat L ∧ (∃ hj : j.toNat < s.size, ((s[j.toNat]'hj).toNat : Int) = L) := by
  unfold tableB at h
  rw [Bool.and_eq_true, List.all_eq_true] at h
  obtain ⟨hs, h⟩ := h
  have hs : s.size = 256 := by simpa using hs
  have hj : j.toNat < s.size := by omega
  have hb := h j.toNat (List.mem_range.2 (by omega))
  have e : s.data.getD j.toNat 0 = s[j.toNat]'hj := by
    have hj' : j.toNat < s.data.size := hj
    simp only [Array.getD, hj', dif_pos]
    rfl
  rw [e] at hb
  refine ⟨(s[j.toNat]'hj).toNat, ?_, ?_, hj, rfl⟩
  · unfold lenB at hb
    split at hb
    · simp at hb; simp [hb]
    · simp only [Bool.and_eq_true, decide_eq_true_eq] at hb; exact hb.2
  · unfold lenB at hb
    constructor
    · intro hz; rw [if_pos hz] at hb; simpa using hb
    · intro hz; rw [if_neg hz] at hb; simp only [Bool.and_eq_true, decide_eq_true_eq] at hb; exact hb.1
theorem wpl_table {P : Program} {w : World} {ops : Array Oper} {rest : List Oper} {o : Oper} {a : Act} {Q : Exit → Act → World → Prop} (hgd : o.guard = none) (t : TypeId) (s : ByteArray) (x : Operand)
    (ho : o.op = .index t (.const (.string s)) x) (hu : P.underlying t = some .string) (hT : tableB s = true) (k : IntKind) (j : Int) (hx : a.eval x = .int k j) (h0 : 0 ≤ j) (h1 : j < 256)
    (h : ∀ L : Nat, L ≤ 8 → IsLen j.toNat L → wpList P ops Q rest (a.put o.dst (.int .u8 (L : Int))) w) : wpList P ops Q (o :: rest) a w := by
  obtain ⟨L, hL, hI, hj, e⟩ := table_at hT j h0 h1
  refine wpList_plain hgd fun _ hK => ?_
  have he : a.eval (.const (.string s)) = .string s := rfl
  have hg : s[j.toNat]? = some (s[j.toNat]'hj) := getElem?_pos s j.toNat hj
  unfold Oper.wp execOp
  simp only [ho, hx, he, Instr.index, asIntOf, Sem.run_bind, Sem.run_pure, Result.andThen_ok, run_underlying hu, h0, if_true, hg]
  have h2 := h L hL hI
  rw [← e] at h2
  exact hK _ _ h2
theorem isLen_shift {n L k : Nat} (h : IsLen (n / 2 ^ k) L) (hn : n / 2 ^ k ≠ 0) : IsLen n (k + L) := by
  obtain ⟨h1, h2⟩ := h.2 hn
  refine ⟨fun h0 => absurd (by rw [h0]; exact Nat.zero_div _) hn, fun _ => ⟨by omega, ?_⟩⟩
  rw [show k + L - 1 = (L - 1) + k by omega, Nat.pow_add]
  exact Nat.le_trans (Nat.mul_le_mul_right _ h2) (Nat.div_mul_le_self n (2 ^ k))
theorem isLen_fin {x y : Int} {k L : Nat} (h : IsLen y.toNat L) (hy : y.toNat = x.toNat / 2 ^ k) (hn : x.toNat / 2 ^ k ≠ 0) (e : Int) (he : e = ((k + L : Nat) : Int)) (hk : k ≤ 56) (hL : L ≤ 8) :
    ∃ M : Nat, M ≤ 64 ∧ IsLen x.toNat M ∧ Ending.returned (.int .i64 e) = .returned (.int .i64 M) := by
  rw [hy] at h
  exact ⟨k + L, by omega, isLen_shift h hn, by rw [he]⟩
theorem len64_int (x : Int) (h0 : 0 ≤ x) (hx : x < 18446744073709551616) (w : World) : Calls Try.prog 158 #[.int .u64 x] w fun e w' => (∃ L : Nat, L ≤ 64 ∧ IsLen x.toNat L ∧ e = .returned (.int .i64 L)) ∧ w = w' := by
  have Hx := hid hx
  clear hx
  go_enter Try.func158, Try.ntmps158
  go_wp2_with (refine wpl_table rfl 9 _ (.tmp 21) rfl Try.underlying9 (by decide +kernel) _ _ rfl (by omega) (by omega) ?_; intro L hL hI)
  all_goals go_ret; refine ⟨?_, rfl⟩
  · exact isLen_fin (k := 56) hI (by have := Hx.out; omega) (by omega) _ (by simp) (by omega) hL
  · exact isLen_fin (k := 48) hI (by omega) (by omega) _ (by simp) (by omega) hL
  · exact isLen_fin (k := 40) hI (by omega) (by omega) _ (by simp) (by omega) hL
  · exact isLen_fin (k := 32) hI (by omega) (by omega) _ (by simp) (by omega) hL
  · exact isLen_fin (k := 24) hI (by omega) (by omega) _ (by simp) (by omega) hL
  · exact isLen_fin (k := 16) hI (by omega) (by omega) _ (by simp) (by omega) hL
  · exact isLen_fin (k := 8) hI (by omega) (by omega) _ (by simp) (by omega) hL
  · exact ⟨L, by omega, hI, by simp⟩
end Go.Proofs.Ytnggcldghpmeaaa
