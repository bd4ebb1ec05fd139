/- The law TallyPages, walked. -/
import Derived.Test.YtnggcldghpmeaaaW16
set_option linter.unusedVariables false
set_option linter.unusedSimpArgs false
set_option maxRecDepth 100000
namespace Go.Proofs.Ytnggcldghpmeaaa
open Go.RowKit
attribute [local irreducible] Calls
set_option maxHeartbeats 2000000 in
theorem pages_aux (g : Int) (h0 : 0 ≤ g) (c p x q : List UInt8) (ec : Int) (hc : c.length = 240) (hp : p.length = 256) (hx : x.length = 240) (hq : q.length = 256)
    (O1 : ∀ W, Hid (Calls Try.prog 27 #[.agg (BV p).toArray, .int .u64 g] W fun e w' => e = .returned (.tuple #[.agg (BV x).toArray, .int .i64 ec]) ∧ Ext W w'))
    (O2 : ∀ W, Hid (Calls Try.prog 28 #[.agg (BV p).toArray, .int .u64 g] W fun e w' => e = .returned (.tuple #[.agg (BV x).toArray, .int .i64 ec]) ∧ Ext W w'))
    (P1 : ∀ W, Hid (Calls Try.prog 26 #[.int .u64 g, .agg (BV c).toArray] W fun e w' => e = .returned (.agg (BV q).toArray) ∧ Ext W w'))
    (P2 : ∀ W, Hid (Calls Try.prog 29 #[.int .u64 g, .agg (BV c).toArray] W fun e w' => e = .returned (.agg (BV q).toArray) ∧ Ext W w'))
    (w : World) : Calls Try.prog 4 #[.int .u64 g, .agg (BV c).toArray, .agg (BV p).toArray] w fun e w' => e = .returned (.bool true) ∧ Ext w w' := by
  have HSc := hid (BV_size sz24 hc)
  have HSp := hid (BV_size sz28 hp)
  have HSx := hid (BV_size sz31 hx)
  have HSx2 := hid (BV_size sz24 hx)
  have HC := hid hc
  have HX := hid hx
  have HQ := hid hq
  have U := fun W => hid (Used_calls c hc W)
  have A1 := fun W => hid (Area_calls g h0 W)
  have A2 := fun W => hid (RefArea_calls g h0 W)
  have HZ5 : Hid (Try.zeroCells31.size = (BV x).toArray.size) := hid (by rw [z31]; exact BV_sizes (by rw [hx]; simp))
  have HZ6 : Hid (Try.zeroCells24.size = (BV x).toArray.size) := hid (by rw [z24]; exact BV_sizes (by rw [hx]; simp))
  clear hc hp hx hq
  obtain ⟨i0, hi, hz0, hz1, hz2⟩ := info_parts info5
  have Hi := hid hi
  have H1 := hid hz1
  clear hi hz0 hz1 hz2
  go_enter Try.func4, Try.ntmps4
  go_wp2_with (first
    | (go_at_call 24; refine (tallyAlive_calls _).mono ?_; rintro e W1 ⟨rfl, hE1⟩; have B4 : Blk W1 w.heap.size 24 (BV c).toArray := ((Blk.new w 24 _).al _).ext hE1; have B5 : Blk W1 (w.heap.size + 1) 28 (BV p).toArray := (Blk.new_ (by simp)).ext hE1; have E1 : Ext w W1 := ((Ext.rfl'.al _).al _).tr hE1)
    | (refine fit (.load 28 (.tmp 5)) ?_; refine wpl_do rfl (wp_load 28 (.tmp 5) rfl rfl B5 Try.underlying28 rfl HSp.out ?_))
    | (go_at_call 27; refine (O1 _).out.mono ?_; rintro e W2 ⟨rfl, hE2⟩; have E2 := E1.tr hE2; have C4 := B4.ext hE2; have C5 := B5.ext hE2; clear B5)
    | (refine fit (.store 31 (.tmp 7) (.tmp 20)) ?_; refine wpl_fresh2 rfl 31 (.tmp 7) (.tmp 20) rfl rfl rfl rfl HSx.out HZ5.out (BV_all _) ?_; intro W3 hE3 X3 hs3; have E3 := E2.tr hE3; have D4 := C4.ext hE3; have D5 := C5.ext hE3)
    | (refine fit (.load 28 (.tmp 5)) ?_; refine wpl_do rfl (wp_load 28 (.tmp 5) rfl rfl D5 Try.underlying28 rfl HSp.out ?_))
    | (go_at_call 28; refine (O2 _).out.mono ?_; rintro e W4 ⟨rfl, hE4⟩; have E4 := E3.tr hE4; have F4 := D4.ext hE4; have X4 := X3.ext hE4)
    | (refine fit (.store 24 (.tmp 9) (.tmp 26)) ?_; refine wpl_fresh2 rfl 24 (.tmp 9) (.tmp 26) rfl rfl rfl rfl HSx2.out HZ6.out (BV_all _) ?_; intro W5 hE5 Y5 hs5; have E5 := E4.tr hE5; have G4 := F4.ext hE5; have X5 := X4.ext hE5)
    | (refine fit (.load 24 (.tmp 4)) ?_; refine wpl_do rfl (wp_load 24 (.tmp 4) rfl rfl G4 Try.underlying24 rfl HSc.out ?_)))
  go_loop [11, 29] (fun n i => ∃ k : Nat, k ≤ 240 ∧ i = .int .i64 k ∧ n = .int .i64 (usedN (c.take k))) (fun _ i => 240 - (intOf i).toNat)
  case atStart => exact ⟨0, by omega, rfl, rfl⟩
  case round =>
    obtain ⟨k, hk, rfl, rfl⟩ := hrel
    have hu := usedN_take c k
    by_cases hlt : k < 240
    · have hkc : k < c.length := by rw [HC.out]; exact hlt
      have hS := hid (usedN_snoc c k hkc)
      have hb := u8_lt c[k]
      have hz : ((c[k].toNat : Int) = 0) ↔ c[k] = 0 := ⟨fun h => UInt8.toNat_inj.1 (by simpa using h), fun h => by rw [h]; rfl⟩
      have HZ := hid hz
      clear hz
      have h0 : (0 : Int) ≤ (c[k].toNat : Int) := by omega
      obtain ⟨y, hy⟩ : ∃ y : Int, y = (c[k].toNat : Int) := ⟨_, rfl⟩
      rw [← hy] at hb h0
      have HY := hid hy
      clear hy
      by_cases hy0 : y = 0
      · subst hy0
        go_wp2_with (refine fit (.index 24 (.tmp 28) (.tmp 29)) ?_; refine wpl_idx rfl 24 (.tmp 28) (.tmp 29) rfl Try.underlying24 Hi.out H1.out Try.underlying5 rfl rfl HC.out hkc ?_; rw [← HY.out])
        go_round
        case rel =>
          refine ⟨k + 1, by omega, by go_num, ?_⟩
          rw [hS.out, if_pos (HZ.out.1 (by have := HY.out; omega))]
          go_num
        case measure => simp [intOf]; omega
      · go_wp2_with (refine fit (.index 24 (.tmp 28) (.tmp 29)) ?_; refine wpl_idx rfl 24 (.tmp 28) (.tmp 29) rfl Try.underlying24 Hi.out H1.out Try.underlying5 rfl rfl HC.out hkc ?_; rw [← HY.out])
        go_round
        case rel =>
          refine ⟨k + 1, by omega, by go_num, ?_⟩
          rw [hS.out, if_neg (fun h => hy0 (by have := HZ.out.2 h; have := HY.out; omega))]
          go_num
        case measure => simp [intOf]; omega
    · obtain rfl : k = 240 := by omega
      rw [List.take_of_length_le (by rw [HC.out]; omega)] at hu
      rw [List.take_of_length_le (by rw [HC.out]; omega)]
      go_wp2
      have D4 := hid G4.dr1
      have DX := hid X5.dr1
      have DY := hid Y5.dr1
      have DE := hid E5.dr1
      clear B4 C4 C5 D5 F4 G4 X3 X4 X5 Y5 E1 E2 E3 E4 E5 hE1 hE2 hE3 hE4 hE5 hs3 hs5
      refine seq (fun W => Ext W5.drew W) [0, 1, 3, 4, 2, 5, 6, 7, 8, 9, 10, 11, 12, 13, 14, 15, 16, 17, 18, 20, 19, 21, 22, 23, 24, 25, 27, 26, 28, 29, 30] (by kernel_rfl) (by kernel_rfl) (by kernel_rfl) (by decide) (fun _ _ _ _ _ h => h) Ext.rfl' ?_
      refine seq_take (v := ?_) rfl rfl rfl (fun W hW => ?_) ?_
      rotate_left
      · go_simp
        rfl
      try simp only [Act.put, List.getElem_toArray, List.getElem_cons_zero, List.getElem_cons_succ, List.setIfInBounds_toArray, List.set_cons_zero, List.set_cons_succ]
      refine seq_load rfl 24 (.tmp 4) rfl rfl rfl (fun W hW => D4.out.ext hW) Try.underlying24 rfl HSc.out ?_
      try simp only [Act.put, List.getElem_toArray, List.getElem_cons_zero, List.getElem_cons_succ, List.setIfInBounds_toArray, List.set_cons_zero, List.set_cons_succ]
      refine seq_take (v := ?_) rfl rfl rfl (fun W hW => ?_) ?_
      rotate_left
      · go_simp
        rfl
      try simp only [Act.put, List.getElem_toArray, List.getElem_cons_zero, List.getElem_cons_succ, List.setIfInBounds_toArray, List.set_cons_zero, List.set_cons_succ]
      refine seq_load rfl 24 (.tmp 4) rfl rfl rfl (fun W hW => D4.out.ext hW) Try.underlying24 rfl HSc.out ?_
      try simp only [Act.put, List.getElem_toArray, List.getElem_cons_zero, List.getElem_cons_succ, List.setIfInBounds_toArray, List.set_cons_zero, List.set_cons_succ]
      refine seq_do rfl rfl rfl ?_
      go_simp
      go_at_call 26
      refine (P1 _).out.mono ?_
      rintro e W6 ⟨rfl, hE6⟩
      refine ⟨hE6, ?_⟩
      try simp only [Act.put, List.getElem_toArray, List.getElem_cons_zero, List.getElem_cons_succ, List.setIfInBounds_toArray, List.set_cons_zero, List.set_cons_succ]
      refine seq_do rfl rfl rfl ?_
      go_simp
      go_at_call 29
      refine (P2 _).out.mono ?_
      rintro e W7 ⟨rfl, hE7⟩
      have E7 := hE6.tr hE7
      refine ⟨E7, ?_⟩
      try simp only [Act.put, List.getElem_toArray, List.getElem_cons_zero, List.getElem_cons_succ, List.setIfInBounds_toArray, List.set_cons_zero, List.set_cons_succ]
      refine seq_eq rfl .eql (.inl rfl) 28 (.tmp 39) (.tmp 42) 28 rfl rfl Try.underlying28 Hi.out co5 Try.underlying5 eg28 rfl rfl HQ.out HQ.out true (by simp) ?_
      try simp only [Act.put, List.getElem_toArray, List.getElem_cons_zero, List.getElem_cons_succ, List.setIfInBounds_toArray, List.set_cons_zero, List.set_cons_succ]
      refine seq_take (v := ?_) rfl rfl rfl (fun W hW => ?_) ?_
      rotate_left
      · go_simp
        rfl
      try simp only [Act.put, List.getElem_toArray, List.getElem_cons_zero, List.getElem_cons_succ, List.setIfInBounds_toArray, List.set_cons_zero, List.set_cons_succ]
      refine seq_load rfl 31 (.tmp 7) rfl rfl rfl (fun W hW => DX.out.ext hW) Try.underlying31 rfl HSx.out ?_
      try simp only [Act.put, List.getElem_toArray, List.getElem_cons_zero, List.getElem_cons_succ, List.setIfInBounds_toArray, List.set_cons_zero, List.set_cons_succ]
      refine seq_load rfl 24 (.tmp 9) rfl rfl rfl (fun W hW => DY.out.ext hW) Try.underlying24 rfl HSx2.out ?_
      try simp only [Act.put, List.getElem_toArray, List.getElem_cons_zero, List.getElem_cons_succ, List.setIfInBounds_toArray, List.set_cons_zero, List.set_cons_succ]
      refine seq_eq rfl .eql (.inl rfl) 24 (.tmp 45) (.tmp 46) 24 rfl rfl Try.underlying24 Hi.out co5 Try.underlying5 eg24' rfl rfl HX.out HX.out true (by simp) ?_
      try simp only [Act.put, List.getElem_toArray, List.getElem_cons_zero, List.getElem_cons_succ, List.setIfInBounds_toArray, List.set_cons_zero, List.set_cons_succ]
      refine seq_take (v := ?_) rfl rfl rfl (fun W hW => ?_) ?_
      rotate_left
      · go_simp
        rfl
      try simp only [Act.put, List.getElem_toArray, List.getElem_cons_zero, List.getElem_cons_succ, List.setIfInBounds_toArray, List.set_cons_zero, List.set_cons_succ]
      refine seq_take (v := ?_) rfl rfl rfl (fun W hW => ?_) ?_
      rotate_left
      · go_simp
        rfl
      try simp only [Act.put, List.getElem_toArray, List.getElem_cons_zero, List.getElem_cons_succ, List.setIfInBounds_toArray, List.set_cons_zero, List.set_cons_succ]
      refine seq_take (v := ?_) rfl rfl rfl (fun W hW => ?_) ?_
      rotate_left
      · go_simp
        rfl
      try simp only [Act.put, List.getElem_toArray, List.getElem_cons_zero, List.getElem_cons_succ, List.setIfInBounds_toArray, List.set_cons_zero, List.set_cons_succ]
      refine seq_take (v := ?_) rfl rfl rfl (fun W hW => ?_) ?_
      rotate_left
      · go_simp
        rfl
      try simp only [Act.put, List.getElem_toArray, List.getElem_cons_zero, List.getElem_cons_succ, List.setIfInBounds_toArray, List.set_cons_zero, List.set_cons_succ]
      refine seq_take (v := .bool true) rfl rfl rfl (fun W hW => ?_) ?_
      · go_simp
      try simp only [Act.put, List.getElem_toArray, List.getElem_cons_zero, List.getElem_cons_succ, List.setIfInBounds_toArray, List.set_cons_zero, List.set_cons_succ]
      refine seq_take (v := ?_) rfl rfl rfl (fun W hW => ?_) ?_
      rotate_left
      · go_simp
        rfl
      try simp only [Act.put, List.getElem_toArray, List.getElem_cons_zero, List.getElem_cons_succ, List.setIfInBounds_toArray, List.set_cons_zero, List.set_cons_succ]
      refine seq_take (v := ?_) rfl rfl rfl (fun W hW => ?_) ?_
      rotate_left
      · go_simp
        rfl
      try simp only [Act.put, List.getElem_toArray, List.getElem_cons_zero, List.getElem_cons_succ, List.setIfInBounds_toArray, List.set_cons_zero, List.set_cons_succ]
      refine seq_take (v := ?_) rfl rfl rfl (fun W hW => ?_) ?_
      rotate_left
      · go_simp
        rfl
      try simp only [Act.put, List.getElem_toArray, List.getElem_cons_zero, List.getElem_cons_succ, List.setIfInBounds_toArray, List.set_cons_zero, List.set_cons_succ]
      refine seq_take (v := ?_) rfl rfl rfl (fun W hW => ?_) ?_
      rotate_left
      · go_simp
        rfl
      try simp only [Act.put, List.getElem_toArray, List.getElem_cons_zero, List.getElem_cons_succ, List.setIfInBounds_toArray, List.set_cons_zero, List.set_cons_succ]
      refine seq_do rfl rfl rfl ?_
      go_simp
      go_at_call 30
      refine (A1 _).out.mono ?_
      rintro e W8 ⟨rfl, rfl⟩
      refine ⟨E7, ?_⟩
      try simp only [Act.put, List.getElem_toArray, List.getElem_cons_zero, List.getElem_cons_succ, List.setIfInBounds_toArray, List.set_cons_zero, List.set_cons_succ]
      refine seq_do rfl rfl rfl ?_
      go_simp
      go_at_call 31
      refine (A2 _).out.mono ?_
      rintro e W9 ⟨rfl, rfl⟩
      refine ⟨E7, ?_⟩
      try simp only [Act.put, List.getElem_toArray, List.getElem_cons_zero, List.getElem_cons_succ, List.setIfInBounds_toArray, List.set_cons_zero, List.set_cons_succ]
      refine seq_take (v := .bool true) rfl rfl rfl (fun W hW => ?_) ?_
      · go_simp
      try simp only [Act.put, List.getElem_toArray, List.getElem_cons_zero, List.getElem_cons_succ, List.setIfInBounds_toArray, List.set_cons_zero, List.set_cons_succ]
      refine seq_take (v := ?_) rfl rfl rfl (fun W hW => ?_) ?_
      rotate_left
      · go_simp
        rfl
      try simp only [Act.put, List.getElem_toArray, List.getElem_cons_zero, List.getElem_cons_succ, List.setIfInBounds_toArray, List.set_cons_zero, List.set_cons_succ]
      refine seq_take (v := ?_) rfl rfl rfl (fun W hW => ?_) ?_
      rotate_left
      · go_simp
        rfl
      try simp only [Act.put, List.getElem_toArray, List.getElem_cons_zero, List.getElem_cons_succ, List.setIfInBounds_toArray, List.set_cons_zero, List.set_cons_succ]
      refine seq_load rfl 24 (.tmp 4) rfl rfl rfl (fun W hW => D4.out.ext hW) Try.underlying24 rfl HSc.out ?_
      try simp only [Act.put, List.getElem_toArray, List.getElem_cons_zero, List.getElem_cons_succ, List.setIfInBounds_toArray, List.set_cons_zero, List.set_cons_succ]
      refine seq_take (v := ?_) rfl rfl rfl (fun W hW => ?_) ?_
      rotate_left
      · go_simp
        rfl
      try simp only [Act.put, List.getElem_toArray, List.getElem_cons_zero, List.getElem_cons_succ, List.setIfInBounds_toArray, List.set_cons_zero, List.set_cons_succ]
      refine seq_do rfl rfl rfl ?_
      go_simp
      go_at_call 25
      refine (U _).out.mono ?_
      rintro e W10 ⟨rfl, hE10⟩
      have E10 := E7.tr hE10
      refine ⟨E10, ?_⟩
      try simp only [Act.put, List.getElem_toArray, List.getElem_cons_zero, List.getElem_cons_succ, List.setIfInBounds_toArray, List.set_cons_zero, List.set_cons_succ]
      refine seq_take (v := .bool true) rfl rfl rfl (fun W hW => ?_) ?_
      · go_simp
      try simp only [Act.put, List.getElem_toArray, List.getElem_cons_zero, List.getElem_cons_succ, List.setIfInBounds_toArray, List.set_cons_zero, List.set_cons_succ]
      refine seq_take (v := ?_) rfl rfl rfl (fun W hW => ?_) ?_
      rotate_left
      · go_simp
        rfl
      try simp only [Act.put, List.getElem_toArray, List.getElem_cons_zero, List.getElem_cons_succ, List.setIfInBounds_toArray, List.set_cons_zero, List.set_cons_succ]
      refine seq_take (v := ?_) rfl rfl rfl (fun W hW => ?_) ?_
      rotate_left
      · go_simp
        rfl
      try simp only [Act.put, List.getElem_toArray, List.getElem_cons_zero, List.getElem_cons_succ, List.setIfInBounds_toArray, List.set_cons_zero, List.set_cons_succ]
      refine seq_nil ?_
      go_wp2
      go_ret
      exact ⟨rfl, DE.out.tr E10⟩
end Go.Proofs.Ytnggcldghpmeaaa
