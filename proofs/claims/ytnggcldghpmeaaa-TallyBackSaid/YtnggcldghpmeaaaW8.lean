/- The law TallyApart, walked. -/
import Derived.Test.YtnggcldghpmeaaaW7
set_option linter.unusedVariables false
set_option linter.unusedSimpArgs false
set_option maxRecDepth 100000
namespace Go.Proofs.Ytnggcldghpmeaaa
open Go.RowKit
attribute [local irreducible] Calls
theorem eg24' : Try.prog.eqGuardType Try.prog.depth 24 = false := by kernel_rfl
theorem z24 : Try.zeroCells24 = (BV (List.replicate 240 0)).toArray := by kernel_rfl
set_option maxHeartbeats 400000 in
theorem apart_aux (g0 g1 : Int) (a b p q z : List UInt8) (n : Int) (same sm sz : Bool) (ha : a.length = 240) (hb : b.length = 240) (hp : p.length = 256) (hq : q.length = 256) (hz : z.length = 240)
    (hsame : same = decide (a = b)) (hsm : sm = decide (p = q)) (hss : sm = (decide (g0 = g1) && same)) (hsz : sz = decide (a = z)) (hn0 : 0 ≤ n) (hn1 : n ≤ 240) (hnz : decide (n = 0) = sz)
    (HZb : Hid (Try.zeroCells24 = (BV z).toArray))
    (P0 : ∀ W, Hid (Calls Try.prog 26 #[.int .u64 g0, .agg (BV a).toArray] W fun e w' => e = .returned (.agg (BV p).toArray) ∧ Ext W w'))
    (P1 : ∀ W, Hid (Calls Try.prog 26 #[.int .u64 g1, .agg (BV b).toArray] W fun e w' => e = .returned (.agg (BV q).toArray) ∧ Ext W w'))
    (U0 : ∀ W, Hid (Calls Try.prog 25 #[.agg (BV a).toArray] W fun e w' => e = .returned (.int .i64 n) ∧ Ext W w'))
    (w : World) : Calls Try.prog 3 #[.agg #[.int .u64 g0, .int .u64 g1], .agg (BV a).toArray, .agg (BV b).toArray] w fun e w' => e = .returned (.bool true) ∧ Ext w w' := by
  have HSa := hid (BV_size sz24 ha)
  have HSb := hid (BV_size sz24 hb)
  have Ha := hid ha
  have Hb := hid hb
  have Hp := hid hp
  have Hq := hid hq
  have Hz := hid hz
  have Hsame := hid hsame
  have Hsm := hid hsm
  have Hss := hid hss
  have Hsz := hid hsz
  have Hnz := hid hnz
  clear ha hb hp hq hz hsame hsm hss hsz hnz
  have hi5 := info_parts info5
  obtain ⟨i0, hi, hz0, hz1, hz2⟩ := hi5
  have Hi := hid hi
  clear hi hz0 hz1 hz2
  by_cases hg : g0 = g1
  · subst hg
    have Hsmf : Hid (sm = same) := hid (by rw [Hss.out]; simp)
    go_enter Try.func3, Try.ntmps3
    go_wp2_with (first
      | (go_at_call 24; refine (tallyAlive_calls _).mono ?_; rintro e W1 ⟨rfl, hE1⟩
         have B0 : Blk W1 w.heap.size 23 #[.int .u64 g0, .int .u64 g0] := (((Blk.new w 23 _).al _).al _).ext hE1
         have c0 : W1.cell? ⟨w.heap.size, 0, none⟩ = some (.int .u64 g0) := B0.cell 0
         have c1 : W1.cell? ⟨w.heap.size, 1, none⟩ = some (.int .u64 g0) := B0.cell 1
         have B1 : Blk W1 (w.heap.size + 1) 24 (BV a).toArray := ((Blk.new_ (by simp)).al _).ext hE1
         have B2 : Blk W1 (w.heap.size + 1 + 1) 24 (BV b).toArray := (Blk.new_ (by simp)).ext hE1
         have E1 : Ext w W1 := (((Ext.rfl'.al _).al _).al _).tr hE1)
      | (refine fit (.load 24 (.tmp 4)) ?_; refine wpl_do rfl (wp_load 24 (.tmp 4) rfl rfl B1 Try.underlying24 rfl HSa.out ?_))
      | (refine fit (.load 24 (.tmp 5)) ?_; refine wpl_do rfl (wp_load 24 (.tmp 5) rfl rfl B2 Try.underlying24 rfl HSb.out ?_))
      | (refine fit (.binOp .eql 24 (.tmp 17) (.tmp 18) 24) ?_; refine wpl_eq_bytes rfl .eql (.inl rfl) 24 (.tmp 17) (.tmp 18) 24 rfl Try.underlying24 Hi.out co5 Try.underlying5 eg24' rfl rfl Ha.out Hb.out same (by rw [Hsame.out]; simp) ?_)
      | (go_at_call 25; refine (U0 _).out.mono ?_; rintro e W2 ⟨rfl, hE2⟩; have E2 := E1.tr hE2; have C0 := B0.ext hE2; have C1 := B1.ext hE2; have C2 := B2.ext hE2)
      )
    have D0 := hid C0.dr1
    have D1 := hid C1.dr1
    have D2 := hid C2.dr1
    have E3 := hid E2.dr1
    have d0 : W2.drew.cell? ⟨w.heap.size, 0, none⟩ = some (.int .u64 g0) := D0.out.cell 0
    have d1 : W2.drew.cell? ⟨w.heap.size, 1, none⟩ = some (.int .u64 g0) := D0.out.cell 1
    refine seq (fun W => Ext W2.drew W) [0, 1, 2, 4, 5, 6, 9, 3, 7, 8, 10, 11, 12, 13, 14, 15, 16, 17, 18, 19, 20, 21, 22, 23, 24, 25, 26, 27] (by kernel_rfl) (by kernel_rfl) (by kernel_rfl) (by decide) (fun _ _ _ _ _ h => h) Ext.rfl' ?_
    refine seq_take (v := ?_) rfl rfl rfl (fun W hW => ?_) ?_
    rotate_left
    · go_simp
      rfl
    try simp only [Act.put, List.getElem_toArray, List.getElem_cons_zero, List.getElem_cons_succ, List.setIfInBounds_toArray, List.set_cons_zero, List.set_cons_succ]
    refine seq_take (v := ?_) rfl rfl rfl (fun W hW => ?_) ?_
    rotate_left
    · have hc := hW.cells d0;go_simp
      rfl
    try simp only [Act.put, List.getElem_toArray, List.getElem_cons_zero, List.getElem_cons_succ, List.setIfInBounds_toArray, List.set_cons_zero, List.set_cons_succ]
    refine seq_load rfl 24 (.tmp 4) rfl rfl rfl (fun W hW => D1.out.ext hW) Try.underlying24 rfl HSa.out ?_
    try simp only [Act.put, List.getElem_toArray, List.getElem_cons_zero, List.getElem_cons_succ, List.setIfInBounds_toArray, List.set_cons_zero, List.set_cons_succ]
    refine seq_take (v := ?_) rfl rfl rfl (fun W hW => ?_) ?_
    rotate_left
    · go_simp
      rfl
    try simp only [Act.put, List.getElem_toArray, List.getElem_cons_zero, List.getElem_cons_succ, List.setIfInBounds_toArray, List.set_cons_zero, List.set_cons_succ]
    refine seq_take (v := ?_) rfl rfl rfl (fun W hW => ?_) ?_
    rotate_left
    · have hc := hW.cells d1;go_simp
      rfl
    try simp only [Act.put, List.getElem_toArray, List.getElem_cons_zero, List.getElem_cons_succ, List.setIfInBounds_toArray, List.set_cons_zero, List.set_cons_succ]
    refine seq_load rfl 24 (.tmp 5) rfl rfl rfl (fun W hW => D2.out.ext hW) Try.underlying24 rfl HSb.out ?_
    try simp only [Act.put, List.getElem_toArray, List.getElem_cons_zero, List.getElem_cons_succ, List.setIfInBounds_toArray, List.set_cons_zero, List.set_cons_succ]
    refine seq_take (v := ?_) rfl rfl rfl (fun W hW => ?_) ?_
    rotate_left
    · go_simp
      rfl
    try simp only [Act.put, List.getElem_toArray, List.getElem_cons_zero, List.getElem_cons_succ, List.setIfInBounds_toArray, List.set_cons_zero, List.set_cons_succ]
    refine seq_do rfl rfl rfl ?_
    go_simp
    go_at_call 26
    refine (P0 _).out.mono ?_
    rintro e W3 ⟨rfl, hE3⟩
    refine ⟨hE3, ?_⟩
    refine seq_do rfl rfl rfl ?_
    go_simp
    go_at_call 26
    refine (P1 _).out.mono ?_
    rintro e W4 ⟨rfl, hE4⟩
    have hE5 := hE3.tr hE4
    refine ⟨hE5, ?_⟩
    refine seq_eq rfl .eql (.inl rfl) 28 (.tmp 26) (.tmp 30) 28 rfl rfl Try.underlying28 Hi.out co5 Try.underlying5 eg28 rfl rfl Hp.out Hq.out same (by rw [← Hsmf.out, Hsm.out]; simp) ?_
    try simp only [Act.put, List.getElem_toArray, List.getElem_cons_zero, List.getElem_cons_succ, List.setIfInBounds_toArray, List.set_cons_zero, List.set_cons_succ]
    refine seq_take (v := ?_) rfl rfl rfl (fun W hW => ?_) ?_
    rotate_left
    · go_simp
      rfl
    try simp only [Act.put, List.getElem_toArray, List.getElem_cons_zero, List.getElem_cons_succ, List.setIfInBounds_toArray, List.set_cons_zero, List.set_cons_succ]
    refine seq_take (v := ?_) rfl rfl rfl (fun W hW => ?_) ?_
    rotate_left
    · go_simp
      rfl
    try simp only [Act.put, List.getElem_toArray, List.getElem_cons_zero, List.getElem_cons_succ, List.setIfInBounds_toArray, List.set_cons_zero, List.set_cons_succ]
    refine seq_take (v := ?_) rfl rfl rfl (fun W hW => ?_) ?_
    rotate_left
    · go_simp
      rfl
    try simp only [Act.put, List.getElem_toArray, List.getElem_cons_zero, List.getElem_cons_succ, List.setIfInBounds_toArray, List.set_cons_zero, List.set_cons_succ]
    refine seq_take (v := .bool true) rfl rfl rfl (fun W hW => ?_) ?_
    · go_simp
    try simp only [Act.put, List.getElem_toArray, List.getElem_cons_zero, List.getElem_cons_succ, List.setIfInBounds_toArray, List.set_cons_zero, List.set_cons_succ]
    refine seq_take (v := ?_) rfl rfl rfl (fun W hW => ?_) ?_
    rotate_left
    · go_simp
      rfl
    try simp only [Act.put, List.getElem_toArray, List.getElem_cons_zero, List.getElem_cons_succ, List.setIfInBounds_toArray, List.set_cons_zero, List.set_cons_succ]
    refine seq_take (v := ?_) rfl rfl rfl (fun W hW => ?_) ?_
    rotate_left
    · go_simp
      rfl
    try simp only [Act.put, List.getElem_toArray, List.getElem_cons_zero, List.getElem_cons_succ, List.setIfInBounds_toArray, List.set_cons_zero, List.set_cons_succ]
    refine seq_take (v := ?_) rfl rfl rfl (fun W hW => ?_) ?_
    rotate_left
    · go_simp
      rfl
    try simp only [Act.put, List.getElem_toArray, List.getElem_cons_zero, List.getElem_cons_succ, List.setIfInBounds_toArray, List.set_cons_zero, List.set_cons_succ]
    refine seq_take (v := .bool true) rfl rfl rfl (fun W hW => ?_) ?_
    · go_simp
    try simp only [Act.put, List.getElem_toArray, List.getElem_cons_zero, List.getElem_cons_succ, List.setIfInBounds_toArray, List.set_cons_zero, List.set_cons_succ]
    refine seq_take (v := ?_) rfl rfl rfl (fun W hW => ?_) ?_
    rotate_left
    · go_simp
      rfl
    try simp only [Act.put, List.getElem_toArray, List.getElem_cons_zero, List.getElem_cons_succ, List.setIfInBounds_toArray, List.set_cons_zero, List.set_cons_succ]
    refine seq_take (v := ?_) rfl rfl rfl (fun W hW => ?_) ?_
    rotate_left
    · go_simp
      rfl
    try simp only [Act.put, List.getElem_toArray, List.getElem_cons_zero, List.getElem_cons_succ, List.setIfInBounds_toArray, List.set_cons_zero, List.set_cons_succ]
    refine seq_take (v := ?_) rfl rfl rfl (fun W hW => ?_) ?_
    rotate_left
    · go_simp
      rfl
    try simp only [Act.put, List.getElem_toArray, List.getElem_cons_zero, List.getElem_cons_succ, List.setIfInBounds_toArray, List.set_cons_zero, List.set_cons_succ]
    refine seq_take (v := ?_) rfl rfl rfl (fun W hW => ?_) ?_
    rotate_left
    · go_simp
      rfl
    try simp only [Act.put, List.getElem_toArray, List.getElem_cons_zero, List.getElem_cons_succ, List.setIfInBounds_toArray, List.set_cons_zero, List.set_cons_succ]
    refine seq_load rfl 24 (.tmp 4) rfl rfl rfl (fun W hW => D1.out.ext hW) Try.underlying24 rfl HSa.out ?_
    try simp only [Act.put, List.getElem_toArray, List.getElem_cons_zero, List.getElem_cons_succ, List.setIfInBounds_toArray, List.set_cons_zero, List.set_cons_succ]
    refine seq_take (v := .agg (BV z).toArray) rfl rfl rfl (fun W hW => ?_) ?_
    · rw [← HZb.out]
      go_simp
    try simp only [Act.put, List.getElem_toArray, List.getElem_cons_zero, List.getElem_cons_succ, List.setIfInBounds_toArray, List.set_cons_zero, List.set_cons_succ]
    refine seq_eq rfl .eql (.inl rfl) 24 (.tmp 45) (.tmp 46) 24 rfl rfl Try.underlying24 Hi.out co5 Try.underlying5 eg24' rfl rfl Ha.out Hz.out sz (by rw [Hsz.out]; simp) ?_
    try simp only [Act.put, List.getElem_toArray, List.getElem_cons_zero, List.getElem_cons_succ, List.setIfInBounds_toArray, List.set_cons_zero, List.set_cons_succ]
    refine seq_take (v := .bool true) rfl rfl rfl (fun W hW => ?_) ?_
    · go_simp
      rw [← Hnz.out]
      rfl
    try simp only [Act.put, List.getElem_toArray, List.getElem_cons_zero, List.getElem_cons_succ, List.setIfInBounds_toArray, List.set_cons_zero, List.set_cons_succ]
    refine seq_take (v := ?_) rfl rfl rfl (fun W hW => ?_) ?_
    rotate_left
    · go_simp
      rfl
    try simp only [Act.put, List.getElem_toArray, List.getElem_cons_zero, List.getElem_cons_succ, List.setIfInBounds_toArray, List.set_cons_zero, List.set_cons_succ]
    refine seq_take (v := ?_) rfl rfl rfl (fun W hW => ?_) ?_
    rotate_left
    · go_simp
      rfl
    try simp only [Act.put, List.getElem_toArray, List.getElem_cons_zero, List.getElem_cons_succ, List.setIfInBounds_toArray, List.set_cons_zero, List.set_cons_succ]
    refine seq_nil ?_
    go_wp2
    go_ret
    exact ⟨rfl, E3.out.tr hE5⟩
  · have Hsmf : Hid (sm = false) := hid (by rw [Hss.out]; simp [hg])
    go_enter Try.func3, Try.ntmps3
    go_wp2_with (first
      | (go_at_call 24; refine (tallyAlive_calls _).mono ?_; rintro e W1 ⟨rfl, hE1⟩
         have B0 : Blk W1 w.heap.size 23 #[.int .u64 g0, .int .u64 g1] := (((Blk.new w 23 _).al _).al _).ext hE1
         have c0 : W1.cell? ⟨w.heap.size, 0, none⟩ = some (.int .u64 g0) := B0.cell 0
         have c1 : W1.cell? ⟨w.heap.size, 1, none⟩ = some (.int .u64 g1) := B0.cell 1
         have B1 : Blk W1 (w.heap.size + 1) 24 (BV a).toArray := ((Blk.new_ (by simp)).al _).ext hE1
         have B2 : Blk W1 (w.heap.size + 1 + 1) 24 (BV b).toArray := (Blk.new_ (by simp)).ext hE1
         have E1 : Ext w W1 := (((Ext.rfl'.al _).al _).al _).tr hE1)
      | (refine fit (.load 24 (.tmp 4)) ?_; refine wpl_load rfl 24 (.tmp 4) rfl rfl B1 Try.underlying24 rfl HSa.out ?_)
      | (go_at_call 25; refine (U0 _).out.mono ?_; rintro e W2 ⟨rfl, hE2⟩; have E2 := E1.tr hE2; have C0 := B0.ext hE2; have C1 := B1.ext hE2; have C2 := B2.ext hE2)
      )
    have D0 := hid C0.dr1
    have D1 := hid C1.dr1
    have D2 := hid C2.dr1
    have E3 := hid E2.dr1
    have d0 : W2.drew.cell? ⟨w.heap.size, 0, none⟩ = some (.int .u64 g0) := D0.out.cell 0
    have d1 : W2.drew.cell? ⟨w.heap.size, 1, none⟩ = some (.int .u64 g1) := D0.out.cell 1
    refine seq (fun W => Ext W2.drew W) [0, 1, 2, 4, 5, 6, 9, 3, 7, 8, 10, 11, 12, 13, 14, 15, 16, 17, 18, 19, 20, 21, 22, 23, 24, 25, 26, 27] (by kernel_rfl) (by kernel_rfl) (by kernel_rfl) (by decide) (fun _ _ _ _ _ h => h) Ext.rfl' ?_
    refine seq_take (v := ?_) rfl rfl rfl (fun W hW => ?_) ?_
    rotate_left
    · go_simp
      rfl
    try simp only [Act.put, List.getElem_toArray, List.getElem_cons_zero, List.getElem_cons_succ, List.setIfInBounds_toArray, List.set_cons_zero, List.set_cons_succ]
    refine seq_take (v := ?_) rfl rfl rfl (fun W hW => ?_) ?_
    rotate_left
    · have hc := hW.cells d0;go_simp
      rfl
    try simp only [Act.put, List.getElem_toArray, List.getElem_cons_zero, List.getElem_cons_succ, List.setIfInBounds_toArray, List.set_cons_zero, List.set_cons_succ]
    refine seq_load rfl 24 (.tmp 4) rfl rfl rfl (fun W hW => D1.out.ext hW) Try.underlying24 rfl HSa.out ?_
    try simp only [Act.put, List.getElem_toArray, List.getElem_cons_zero, List.getElem_cons_succ, List.setIfInBounds_toArray, List.set_cons_zero, List.set_cons_succ]
    refine seq_take (v := ?_) rfl rfl rfl (fun W hW => ?_) ?_
    rotate_left
    · go_simp
      rfl
    try simp only [Act.put, List.getElem_toArray, List.getElem_cons_zero, List.getElem_cons_succ, List.setIfInBounds_toArray, List.set_cons_zero, List.set_cons_succ]
    refine seq_take (v := ?_) rfl rfl rfl (fun W hW => ?_) ?_
    rotate_left
    · have hc := hW.cells d1;go_simp
      rfl
    try simp only [Act.put, List.getElem_toArray, List.getElem_cons_zero, List.getElem_cons_succ, List.setIfInBounds_toArray, List.set_cons_zero, List.set_cons_succ]
    refine seq_load rfl 24 (.tmp 5) rfl rfl rfl (fun W hW => D2.out.ext hW) Try.underlying24 rfl HSb.out ?_
    try simp only [Act.put, List.getElem_toArray, List.getElem_cons_zero, List.getElem_cons_succ, List.setIfInBounds_toArray, List.set_cons_zero, List.set_cons_succ]
    refine seq_take (v := ?_) rfl rfl rfl (fun W hW => ?_) ?_
    rotate_left
    · go_simp
      rfl
    try simp only [Act.put, List.getElem_toArray, List.getElem_cons_zero, List.getElem_cons_succ, List.setIfInBounds_toArray, List.set_cons_zero, List.set_cons_succ]
    refine seq_do rfl rfl rfl ?_
    go_simp
    go_at_call 26
    refine (P0 _).out.mono ?_
    rintro e W3 ⟨rfl, hE3⟩
    refine ⟨hE3, ?_⟩
    refine seq_do rfl rfl rfl ?_
    go_simp
    go_at_call 26
    refine (P1 _).out.mono ?_
    rintro e W4 ⟨rfl, hE4⟩
    have hE5 := hE3.tr hE4
    refine ⟨hE5, ?_⟩
    refine seq_eq rfl .eql (.inl rfl) 28 (.tmp 26) (.tmp 30) 28 rfl rfl Try.underlying28 Hi.out co5 Try.underlying5 eg28 rfl rfl Hp.out Hq.out false (by rw [← Hsmf.out, Hsm.out]; simp) ?_
    try simp only [Act.put, List.getElem_toArray, List.getElem_cons_zero, List.getElem_cons_succ, List.setIfInBounds_toArray, List.set_cons_zero, List.set_cons_succ]
    refine seq_take (v := ?_) rfl rfl rfl (fun W hW => ?_) ?_
    rotate_left
    · go_simp
      rfl
    try simp only [Act.put, List.getElem_toArray, List.getElem_cons_zero, List.getElem_cons_succ, List.setIfInBounds_toArray, List.set_cons_zero, List.set_cons_succ]
    refine seq_take (v := ?_) rfl rfl rfl (fun W hW => ?_) ?_
    rotate_left
    · go_simp
      rfl
    try simp only [Act.put, List.getElem_toArray, List.getElem_cons_zero, List.getElem_cons_succ, List.setIfInBounds_toArray, List.set_cons_zero, List.set_cons_succ]
    refine seq_take (v := ?_) rfl rfl rfl (fun W hW => ?_) ?_
    rotate_left
    · go_simp
      rfl
    try simp only [Act.put, List.getElem_toArray, List.getElem_cons_zero, List.getElem_cons_succ, List.setIfInBounds_toArray, List.set_cons_zero, List.set_cons_succ]
    refine seq_take (v := .bool true) rfl rfl rfl (fun W hW => ?_) ?_
    · go_simp
    try simp only [Act.put, List.getElem_toArray, List.getElem_cons_zero, List.getElem_cons_succ, List.setIfInBounds_toArray, List.set_cons_zero, List.set_cons_succ]
    refine seq_take (v := ?_) rfl rfl rfl (fun W hW => ?_) ?_
    rotate_left
    · go_simp
      rfl
    try simp only [Act.put, List.getElem_toArray, List.getElem_cons_zero, List.getElem_cons_succ, List.setIfInBounds_toArray, List.set_cons_zero, List.set_cons_succ]
    refine seq_take (v := ?_) rfl rfl rfl (fun W hW => ?_) ?_
    rotate_left
    · go_simp
      rfl
    try simp only [Act.put, List.getElem_toArray, List.getElem_cons_zero, List.getElem_cons_succ, List.setIfInBounds_toArray, List.set_cons_zero, List.set_cons_succ]
    refine seq_take (v := ?_) rfl rfl rfl (fun W hW => ?_) ?_
    rotate_left
    · go_simp
      rfl
    try simp only [Act.put, List.getElem_toArray, List.getElem_cons_zero, List.getElem_cons_succ, List.setIfInBounds_toArray, List.set_cons_zero, List.set_cons_succ]
    refine seq_take (v := .bool true) rfl rfl rfl (fun W hW => ?_) ?_
    · go_simp
    try simp only [Act.put, List.getElem_toArray, List.getElem_cons_zero, List.getElem_cons_succ, List.setIfInBounds_toArray, List.set_cons_zero, List.set_cons_succ]
    refine seq_take (v := ?_) rfl rfl rfl (fun W hW => ?_) ?_
    rotate_left
    · go_simp
      rfl
    try simp only [Act.put, List.getElem_toArray, List.getElem_cons_zero, List.getElem_cons_succ, List.setIfInBounds_toArray, List.set_cons_zero, List.set_cons_succ]
    refine seq_take (v := ?_) rfl rfl rfl (fun W hW => ?_) ?_
    rotate_left
    · go_simp
      rfl
    try simp only [Act.put, List.getElem_toArray, List.getElem_cons_zero, List.getElem_cons_succ, List.setIfInBounds_toArray, List.set_cons_zero, List.set_cons_succ]
    refine seq_take (v := ?_) rfl rfl rfl (fun W hW => ?_) ?_
    rotate_left
    · go_simp
      rfl
    try simp only [Act.put, List.getElem_toArray, List.getElem_cons_zero, List.getElem_cons_succ, List.setIfInBounds_toArray, List.set_cons_zero, List.set_cons_succ]
    refine seq_take (v := ?_) rfl rfl rfl (fun W hW => ?_) ?_
    rotate_left
    · go_simp
      rfl
    try simp only [Act.put, List.getElem_toArray, List.getElem_cons_zero, List.getElem_cons_succ, List.setIfInBounds_toArray, List.set_cons_zero, List.set_cons_succ]
    refine seq_load rfl 24 (.tmp 4) rfl rfl rfl (fun W hW => D1.out.ext hW) Try.underlying24 rfl HSa.out ?_
    try simp only [Act.put, List.getElem_toArray, List.getElem_cons_zero, List.getElem_cons_succ, List.setIfInBounds_toArray, List.set_cons_zero, List.set_cons_succ]
    refine seq_take (v := .agg (BV z).toArray) rfl rfl rfl (fun W hW => ?_) ?_
    · rw [← HZb.out]
      go_simp
    try simp only [Act.put, List.getElem_toArray, List.getElem_cons_zero, List.getElem_cons_succ, List.setIfInBounds_toArray, List.set_cons_zero, List.set_cons_succ]
    refine seq_eq rfl .eql (.inl rfl) 24 (.tmp 45) (.tmp 46) 24 rfl rfl Try.underlying24 Hi.out co5 Try.underlying5 eg24' rfl rfl Ha.out Hz.out sz (by rw [Hsz.out]; simp) ?_
    try simp only [Act.put, List.getElem_toArray, List.getElem_cons_zero, List.getElem_cons_succ, List.setIfInBounds_toArray, List.set_cons_zero, List.set_cons_succ]
    refine seq_take (v := .bool true) rfl rfl rfl (fun W hW => ?_) ?_
    · go_simp
      rw [← Hnz.out]
      rfl
    try simp only [Act.put, List.getElem_toArray, List.getElem_cons_zero, List.getElem_cons_succ, List.setIfInBounds_toArray, List.set_cons_zero, List.set_cons_succ]
    refine seq_take (v := ?_) rfl rfl rfl (fun W hW => ?_) ?_
    rotate_left
    · go_simp
      rfl
    try simp only [Act.put, List.getElem_toArray, List.getElem_cons_zero, List.getElem_cons_succ, List.setIfInBounds_toArray, List.set_cons_zero, List.set_cons_succ]
    refine seq_take (v := ?_) rfl rfl rfl (fun W hW => ?_) ?_
    rotate_left
    · go_simp
      rfl
    try simp only [Act.put, List.getElem_toArray, List.getElem_cons_zero, List.getElem_cons_succ, List.setIfInBounds_toArray, List.set_cons_zero, List.set_cons_succ]
    refine seq_nil ?_
    go_wp2
    go_ret
    exact ⟨rfl, E3.out.tr hE5⟩
theorem pageB_inj {l m : List UInt8} (h : l.length = m.length) (e : pageB l = pageB m) : l = m := by
  have h1 := congrArg (List.take l.length) e
  rw [take_pageB _ _ (Nat.le_refl _), take_pageB _ _ (by omega), List.take_length, h, List.take_length] at h1
  exact h1
theorem leB_inj : ∀ (k : Nat) {n m : Nat}, n < 256 ^ k → m < 256 ^ k → leB k n = leB k m → n = m
  | 0, n, m, h1, h2, _ => by simp at h1 h2; omega
  | k + 1, n, m, h1, h2, h => by
    simp only [leB, List.cons.injEq] at h
    have h3 := leB_inj k (n := n / 256) (m := m / 256) (by rw [Nat.pow_succ] at h1; omega) (by rw [Nat.pow_succ] at h2; omega) h.2
    have h4 : n % 256 = m % 256 := by
      have := congrArg UInt8.toNat h.1
      simpa [lo8] using this
    omega
theorem usedN_zero (c : List UInt8) (hc : c.length = 240) : (usedN c = 0) ↔ c = List.replicate 240 0 := by
  unfold usedN
  rw [List.length_eq_zero_iff, List.filter_eq_nil_iff]
  constructor
  · intro h
    rw [List.eq_replicate_iff]
    exact ⟨hc, fun b hb => by simpa using h b hb⟩
  · intro h b hb
    rw [h] at hb
    have := List.eq_of_mem_replicate hb
    simp [this]
theorem Apart_calls (g0 g1 : Nat) (h0 : g0 < 18446744073709551616) (h1 : g1 < 18446744073709551616) (a b : List UInt8) (ha : a.length = 240) (hb : b.length = 240) (w : World) :
    Calls Try.prog 3 #[.agg #[.int .u64 g0, .int .u64 g1], .agg (BV a).toArray, .agg (BV b).toArray] w fun e w' => e = .returned (.bool true) ∧ Ext w w' := by
  refine apart_aux g0 g1 a b (pageB (leB 8 g0 ++ a)) (pageB (leB 8 g1 ++ b)) (List.replicate 240 0) (usedN a) (decide (a = b)) (decide (pageB (leB 8 g0 ++ a) = pageB (leB 8 g1 ++ b))) (decide (a = List.replicate 240 0)) ha hb
    (pageB_length _ (by simp [leB_length, ha])) (pageB_length _ (by simp [leB_length, hb])) (by simp) rfl rfl ?_ rfl (by omega) ?_ ?_ (hid z24)
    (fun W => hid (Page_calls g0 h0 a ha W)) (fun W => hid (Page_calls g1 h1 b hb W)) (fun W => hid (Used_calls a ha W)) w
  · have hiff : (pageB (leB 8 g0 ++ a) = pageB (leB 8 g1 ++ b)) ↔ (((g0 : Int) = g1) ∧ a = b) := by
      constructor
      · intro h
        have h2 := pageB_inj (by simp [leB_length, ha, hb]) h
        have h3 := List.append_inj h2 (by simp [leB_length])
        exact ⟨by rw [leB_inj 8 (by simpa using h0) (by simpa using h1) h3.1], h3.2⟩
      · rintro ⟨h, rfl⟩
        rw [Int.ofNat.inj h]
    rw [← Bool.decide_and]
    exact decide_eq_decide.2 hiff
  · have := usedN_le a; omega
  · exact decide_eq_decide.2 (by rw [← usedN_zero a ha]; omega)
end Go.Proofs.Ytnggcldghpmeaaa
