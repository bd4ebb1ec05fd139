/- The reference's seal, walked. -/
import Derived.Test.YtnggcldghpmeaaaW13
import Derived.Test.YtnggcldghpmeaaaW10
set_option linter.unusedVariables false
set_option linter.unusedSimpArgs false
set_option maxRecDepth 100000
namespace Go.Proofs.Ytnggcldghpmeaaa
open Go.RowKit
attribute [local irreducible] Calls
set_option maxHeartbeats 1000000 in
theorem RefSeal_calls (A : Option Addr) (c : Nat) (l : List UInt8) (w : World) (hr : Rd w A (BV l)) (hl : l.length ≤ 100000) :
    Calls Try.prog 88 #[.slice A l.length c] w fun e w' => ∃ A' c', e = .returned (.slice A' (l.length + 4) c') ∧ Own w' w.heap.size 5 1 A' (l.length + 4) c' (BV (sealB l)) ∧ Ext w w' := by
  obtain ⟨i0, hi, hz0, hz1, hz2⟩ := info_parts info5
  have HR := hid hr
  clear hr
  obtain ⟨S, hS⟩ : ∃ S, S = crc 0xffffffff#32 l := ⟨_, rfl⟩
  obtain ⟨z, hz⟩ : ∃ z : Int, z = (S.toNat : Int) := ⟨_, rfl⟩
  have hb0 : 0 ≤ z := by omega
  have hb1 : z < 4294967296 := by have := S.isLt; omega
  have HC := fun W (h : Rd W A (BV l)) => hid (RefOf_calls A c l W h hl)
  rw [← hS, ← hz] at HC
  have HS := hid hS
  have HZ := hid hz
  clear hS hz
  go_enter Try.func88, Try.ntmps88
  go_wp2_with (first
    | (go_at_call 162; refine (HC _ HR.out).out.mono ?_; rintro e W1 ⟨rfl, hE1⟩; have R1 := HR.out.ext hE1; have hsz1 := hE1.size)
    | (at_builtin; refine wpl_app rfl (.tmp 7) (.tmp 8) 63 rfl Try.underlying63 hi hz0 hz1 hz2 rfl (by omega) rfl (Own.empty (B := w.heap.size) (by omega) rfl (by omega)) (ys := BV l) rfl (by simp [BV_length]) (R1.al _) (BV_one _) (by unfold maxLen; omega) (by omega) (by simp; omega) ?_; intro A2 c2 w2 hown2 hg2; rw [Nat.zero_add, List.nil_append] at hown2; have E2 : Ext w w2 := (hE1.al _).grown hg2 (by simp; omega) (fun i hi => ((Own.empty (w := W1) (e := 5) (cs := #[]) (c := 0) (B := w.heap.size) (by omega) rfl (by omega)).block i hi).1); have hsz2 := E2.size)
    | (at_builtin; (refine wpl_app rfl (.tmp 10) (.tmp 25) 63 rfl Try.underlying63 hi hz0 hz1 hz2 rfl (by omega) rfl (hown2.al _) (ys := [.int .u8 (z / 16777216), .int .u8 (z / 65536 % 256), .int .u8 (z / 256 % 256), .int .u8 (z % 256)]) rfl rfl ((Blk.new w2 5 #[.int .u8 (z / 16777216), .int .u8 (z / 65536 % 256), .int .u8 (z / 256 % 256), .int .u8 (z % 256)]).rd 0) (by simp [Value.oneCell']) (by unfold maxLen; omega) (by omega) (Nat.le_trans hsz2 (by simp)) ?_; intro A3 c3 w3 hown3 hg3; have E3 : Ext w w3 := (E2.al _).grown hg3 (Nat.le_trans hsz2 (by simp)) (fun i hi => (hown2.block i hi).1))))
  go_ret
  rw [HZ.out, ← BV_tail, ← BV_append, HS.out] at hown3
  exact ⟨A3, c3, by simp, hown3, E3⟩
end Go.Proofs.Ytnggcldghpmeaaa
