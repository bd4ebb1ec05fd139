/- The reference's fields, walked: a number's bytes; the bytes of a list of fields. -/
import Derived.Test.YtnggcldghpmeaaaW6
set_option linter.unusedVariables false
set_option linter.unusedSimpArgs false
set_option maxRecDepth 100000
namespace Go.Proofs.Ytnggcldghpmeaaa
open Go.RowKit
theorem u64_div {z : Int} (h0 : 0 ≤ z) (h : z < 18446744073709551616) : IntKind.u64.wrap (z.tdiv 256) = z / 256 := by
  rw [Int.tdiv_eq_ediv_of_nonneg h0]
  simp only [IntKind.wrap, IntKind.signed, IntKind.bits]
  simp
  omega
theorem le_lt {n k : Nat} {z : Int} (hn : n < 18446744073709551616) (h : z = ((n / 256 ^ k : Nat) : Int)) : z < 18446744073709551616 := by
  have := Nat.div_le_self n (256 ^ k)
  rw [h]; omega
set_option maxHeartbeats 1000000 in
theorem Bytes_calls (n : Nat) (hn : n < 18446744073709551616) (W : Nat) (hW : W ≤ 1000) (w : World) :
    Calls Try.prog 163 #[.int .u64 n, .int .i64 W] w fun e w' => ∃ A' c', e = .returned (.tuple #[.slice A' W c', .bool (decide (n / 256 ^ W = 0))]) ∧ Own w' w.heap.size 5 1 A' W c' (BV (leB W n)) ∧ Ext w w' := by
  obtain ⟨i0, hi, hz0, hz1, hz2⟩ := info_parts info5
  obtain ⟨y, hy⟩ : ∃ y : Int, y = n := ⟨_, rfl⟩
  have hy0 : (0 : Int) ≤ y := by omega
  rw [← hy]
  have HY := hid hy
  have HN := hid hn
  clear hy hn
  go_enter Try.func163, Try.ntmps163
  go_wp2
  go_loopw [0, 6] (fun v s wr => ∃ (k : Nat) (z : Int) (A2 : Option Addr) (c2 : Nat), k ≤ W ∧ 0 ≤ z ∧ v = .int .u64 z ∧ Hid (z = ((n / 256 ^ k : Nat) : Int)) ∧ s = .slice A2 k c2 ∧ Own wr w.heap.size 5 1 A2 k c2 (BV (leB k n)) ∧ Ext w wr) (fun _ s _ => W - (match s with | .slice _ k _ => k | _ => 0))
  case atStart => exact ⟨0, y, _, _, by omega, hy0, rfl, by simpa using HY, rfl, Own.empty (Nat.le_refl _) rfl (by omega), Ext.rfl'.al _⟩
  case round =>
    obtain ⟨k, z, A2, c2, hk, hz, rfl, HZ, rfl, hown, hex⟩ := hrel
    by_cases hlt : k < W
    · have hsz3 := hex.size
      have hlk : (leB k n).length = k := leB_length k n
      go_wp2_with (at_builtin; refine wpl_app rfl (.tmp 12) (.tmp 16) 63 rfl Try.underlying63 hi hz0 hz1 hz2 rfl (by omega) rfl (hown.al _) (ys := [.int .u8 (z % 256)]) rfl rfl ((Blk.new _ 5 #[.int .u8 (z % 256)]).rd 0) (by simp [Value.oneCell']) (by unfold maxLen; omega) (by omega) (by simp; omega) ?_; intro A4 c4 w4 hown4 hg4)
      have hsz4 := hg4.size
      simp at hsz4
      go_roundw
      case rel =>
        refine ⟨k + 1, z / 256, A4, c4, by omega, by omega, by rw [u64_div hz (le_lt HN.out HZ.out)], le_next HZ.out, rfl, ?_, ?_⟩
        · rw [leB_snoc, BV_append, le_byte HZ.out]; exact hown4
        · exact (hex.al _).grown hg4 (by simp; omega) (fun i hi => (hown.block i hi).1)
      case measure => simp; omega
    · have hS := hex.size
      go_wp2
      go_ret2
      obtain rfl : k = W := by omega
      refine ⟨A2, c2, ?_, hown, hex⟩
      have : (decide (z = 0)) = decide (n / 256 ^ k = 0) := decide_eq_decide.2 (by rw [HZ.out]; omega)
      rw [← this]
      rfl
end Go.Proofs.Ytnggcldghpmeaaa
