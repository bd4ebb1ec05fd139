/- The law LeafBack, walked. -/
import Derived.Test.YtnggcldghpmeaaaL13
import Derived.Test.YtnggcldghpmeaaaL16
set_option linter.unusedVariables false
set_option linter.unusedSimpArgs false
set_option maxRecDepth 100000
namespace Go.Proofs.Ytnggcldghpmeaaa
open Go.RowKit
attribute [local irreducible] Calls
set_option maxHeartbeats 4000000 in
theorem lback_bn {w : World} (nv nv2 : Array Value) (A1 A2 : Option Addr) (n1 n2 c1 c2 : Nat) (x y p z : List UInt8) (hs : nv.size = 18) (hs2 : nv2.size = 18) (N17 : nv[17]? = some (.slice A1 n1 c1)) (M17 : nv2[17]? = some (.slice A2 n2 c2)) (hn1 : n1 ≤ 50) (hn2 : n2 ≤ 50)
    (hx : x.length = 256) (hy : y.length = 256) (hp : p.length = 256) (hzl : z.length = 16) (hz : z = List.replicate 16 0)
    (PA : ∀ W, Ext w W → Hid (Calls Try.prog 35 #[.agg nv] W fun e w' => e = .returned (.tuple #[.agg (BV x).toArray, .int .i64 0]) ∧ Ext W w'))
    (PB : ∀ W, Ext w W → Hid (Calls Try.prog 35 #[.agg nv2] W fun e w' => e = .returned (.tuple #[.agg (BV y).toArray, .int .i64 81]) ∧ Ext W w')) (k1 : Int) (b1 : List UInt8) (l1 : List (Int × Int)) (hb1 : b1.length = 16)
    (OX : ∀ W, Hid (Calls Try.prog 36 #[.agg (BV x).toArray] W fun e w' => ∃ A c, e = .returned (.tuple #[.agg (NV k1 b1 A n1 c), .int .i64 0]) ∧ Rd w' A (EV l1) ∧ Ext W w'))
    (SA : ∀ W, Ext w W → ∀ A c, Rd W A (EV l1) → Hid (Calls Try.prog 42 #[.agg (NV k1 b1 A n1 c), .agg nv] W fun e w' => e = .returned (.bool true) ∧ Ext W w'))
    (OP : ∀ W, Hid (Calls Try.prog 36 #[.agg (BV p).toArray] W fun e w' => ∃ A c, e = .returned (.tuple #[.agg (NV 0 z A 0 c), .int .i64 81]) ∧ Rd w' A (EV []) ∧ Ext W w'))
    (SZ : ∀ W A c, Hid (Calls Try.prog 42 #[.agg (NV 0 z A 0 c), .agg (NV 0 z none 0 0)] W fun e w' => e = .returned (.bool true) ∧ Ext W w')) :
    Calls Try.prog 10 #[.agg nv, .agg nv2, .agg (BV p).toArray] w fun e w' => e = .returned (.bool true) ∧ Ext w w' := by
  have HS : Hid ((Try.prog.info? 50).map (·.size) = some nv.size) := hid (by rw [hs]; exact sz50)
  have HS2 : Hid ((Try.prog.info? 50).map (·.size) = some nv2.size) := hid (by rw [hs2]; exact sz50)
  have HX := hid hx
  have HY := hid hy
  have HP := hid hp
  have HZ := hid hzl
  have HZE := hid hz
  have HSx := hid (BV_size sz28 hx)
  have HSy := hid (BV_size sz28 hy)
  have HSp := hid (BV_size sz28 hp)
  have HZx : Hid (Try.zeroCells28.size = (BV x).toArray.size) := hid (by rw [z28]; exact BV_sizes (by rw [hx]; simp))
  have HZy : Hid (Try.zeroCells28.size = (BV y).toArray.size) := hid (by rw [z28]; exact BV_sizes (by rw [hy]; simp))
  have HZp : Hid (Try.zeroCells28.size = (BV p).toArray.size) := hid (by rw [z28]; exact BV_sizes (by rw [hp]; simp))
  obtain ⟨i0, hi, hz0, hz1, hz2⟩ := info_parts info5
  have Hi := hid hi
  clear hi hz0 hz1 hz2 hs hs2 hx hy hp hzl hz
  have HB1 := hid hb1
  have HK1 : ∀ A c, Hid ((Try.prog.info? 50).map (·.size) = some (NV k1 b1 A n1 c).size) := fun A c => hid (by rw [NV_size HB1.out]; exact sz50)
  have HK2 : ∀ A c, Hid ((NV 0 z none 0 0).size = (NV k1 b1 A n1 c).size) := fun A c => hid (by rw [NV_size HB1.out, NV_size HZ.out])
  clear hb1
  have HM1 : ∀ A c, Hid ((Try.prog.info? 50).map (·.size) = some (NV 0 z A 0 c).size) := fun A c => hid (by rw [NV_size HZ.out]; exact sz50)
  have HM2 : ∀ A c, Hid ((NV 0 z none 0 0).size = (NV 0 z A 0 c).size) := fun A c => hid (by rw [NV_size HZ.out, NV_size HZ.out])
  go_enter Try.func10, Try.ntmps10
  go_wp2_with (first
    | (go_at_call 37; refine (leafAlive_calls _).mono ?_; rintro e w1 ⟨rfl, hE1⟩; have E1 := (((Ext.rfl'.al _).al _).al _).tr hE1; have B3 : Blk w1 w.heap.size 50 nv := (((Blk.new w 50 nv).al _).al _).ext hE1; have B4 : Blk w1 (w.heap.size + 1) 50 nv2 := ((Blk.new_ (by simp)).al _).ext hE1; have B5 : Blk w1 (w.heap.size + 1 + 1) 28 (BV p).toArray := (Blk.new_ (by simp)).ext hE1; have c17 := (B3.cell 17).trans N17; have d17 := (B4.cell 17).trans M17)
    | (refine fit (.load 50 (.tmp 3)) ?_; refine wpl_do rfl (wp_load 50 (.tmp 3) rfl rfl B3 Try.underlying50 rfl HS.out ?_))
    | (go_at_call 35; refine (PA _ E1).out.mono ?_; rintro e w2 ⟨rfl, hE2⟩; have E2 := E1.tr hE2)
    | (refine fit (.store 28 (.tmp 7) (.tmp 32)) ?_; refine wpl_fresh rfl 28 (.tmp 7) (.tmp 32) rfl rfl rfl HSx.out HZx.out (BV_all _) ?_; intro w3 hE3 X3 hs3; have E3 := E2.tr hE3; have C4 := (B4.ext hE2).ext hE3; clear hs3)
    | (refine fit (.load 50 (.tmp 4)) ?_; refine wpl_do rfl (wp_load 50 (.tmp 4) rfl rfl C4 Try.underlying50 rfl HS2.out ?_))
    | (go_at_call 35; refine (PB _ E3).out.mono ?_; rintro e w4 ⟨rfl, hE4⟩; have E4 := E3.tr hE4)
    | (refine fit (.store 28 (.tmp 9) (.tmp 37)) ?_; refine wpl_fresh rfl 28 (.tmp 9) (.tmp 37) rfl rfl rfl HSy.out HZy.out (BV_all _) ?_; intro w5 hE5 Y5 hs5; have E5 := E4.tr hE5; have D3 := (((B3.ext hE2).ext hE3).ext hE4).ext hE5; have D4 := (C4.ext hE4).ext hE5; have D5 := (((B5.ext hE2).ext hE3).ext hE4).ext hE5; have X5 := (X3.ext hE4).ext hE5; clear hs5)
    | (refine fit (.load 28 (.tmp 7)) ?_; refine wpl_do rfl (wp_load 28 (.tmp 7) rfl rfl X5 Try.underlying28 rfl HSx.out ?_))
    | (go_at_call 36; refine (OX _).out.mono ?_; rintro e w6 ⟨A, c, rfl, hrd, hE6⟩; have E6 := E5.tr hE6)
    | (refine fit (.store 50 (.tmp 11) (.tmp 44)) ?_; simp only [NV_litS]; rw [← HZE.out]; refine wpl_fresh rfl 50 (.tmp 11) (.tmp 44) rfl rfl rfl (HK1 A c).out (HK2 A c).out NV_one ?_; intro w7 hE7 N11 hs7; have E7 := E6.tr hE7; have hrd7 := hrd.ext hE7; have I3 := (D3.ext hE6).ext hE7; have I4 := (D4.ext hE6).ext hE7; have I5 := (D5.ext hE6).ext hE7; have IX := (X5.ext hE6).ext hE7; have IY := (Y5.ext hE6).ext hE7; clear hs7))
  rename_i Kx hKx
  have HI3 := hid I3.dr1
  have HI4 := hid I4.dr1
  have HI5 := hid I5.dr1
  have HIX := hid IX.dr1
  have HIY := hid IY.dr1
  have H11 := hid N11.dr1
  have HRD := hid hrd7.dr1
  have HE7 := hid E7.dr1
  clear E1 E2 E3 E4 E5 E6 E7 B3 B4 B5 C4 D3 D4 D5 X3 X5 Y5 hE2 hE3 hE4 hE5 hE6 hE7 I3 I4 I5 IX IY N11 hrd7 hrd
  refine seq (fun W => Ext w7.drew W) [0, 1, 2, 3, 4, 5, 6, 7, 8, 9, 10, 11, 12, 13, 14, 15, 16, 17, 18, 19, 20] (by kernel_rfl) (by kernel_rfl) (by kernel_rfl) (by decide) (fun _ _ _ _ _ h => h) Ext.rfl' ?_
  refine seq_take (v := ?_) rfl rfl rfl (fun W hW => ?_) ?_
  rotate_left
  · go_simp
    rfl
  try simp only [Act.put, List.getElem_toArray, List.getElem_cons_zero, List.getElem_cons_succ, List.setIfInBounds_toArray, List.set_cons_zero, List.set_cons_succ]
  refine seq_take (v := ?_) rfl rfl rfl (fun W hW => ?_) ?_
  rotate_left
  · go_simp
    rfl
  try simp only [Act.put, List.getElem_toArray, List.getElem_cons_zero, List.getElem_cons_succ, List.setIfInBounds_toArray, List.set_cons_zero, List.set_cons_succ]
  refine seq_take (v := ?_) rfl rfl rfl (fun W hW => ?_) ?_
  rotate_left
  · go_simp
    rfl
  try simp only [Act.put, List.getElem_toArray, List.getElem_cons_zero, List.getElem_cons_succ, List.setIfInBounds_toArray, List.set_cons_zero, List.set_cons_succ]
  refine seq_load rfl 50 (.tmp 11) rfl rfl rfl (fun W hW => H11.out.ext hW) Try.underlying50 rfl (HK1 A c).out ?_
  try simp only [Act.put, List.getElem_toArray, List.getElem_cons_zero, List.getElem_cons_succ, List.setIfInBounds_toArray, List.set_cons_zero, List.set_cons_succ]
  refine seq_load rfl 50 (.tmp 3) rfl rfl rfl (fun W hW => HI3.out.ext hW) Try.underlying50 rfl HS.out ?_
  try simp only [Act.put, List.getElem_toArray, List.getElem_cons_zero, List.getElem_cons_succ, List.setIfInBounds_toArray, List.set_cons_zero, List.set_cons_succ]
  refine seq_do rfl rfl rfl ?_
  go_simp
  go_at_call 42
  refine (SA _ HE7.out A c HRD.out).out.mono ?_
  rintro e w8 ⟨rfl, hE8⟩
  refine ⟨hE8, ?_⟩
  have HE8 := hid hE8
  clear hE8
  try simp only [Act.put, List.getElem_toArray, List.getElem_cons_zero, List.getElem_cons_succ, List.setIfInBounds_toArray, List.set_cons_zero, List.set_cons_succ]
  refine seq_take (v := ?_) rfl rfl rfl (fun W hW => ?_) ?_
  rotate_left
  · go_simp
    rfl
  try simp only [Act.put, List.getElem_toArray, List.getElem_cons_zero, List.getElem_cons_succ, List.setIfInBounds_toArray, List.set_cons_zero, List.set_cons_succ]
  refine seq_take (v := ?_) rfl rfl rfl (fun W hW => ?_) ?_
  rotate_left
  · go_simp
    rfl
  try simp only [Act.put, List.getElem_toArray, List.getElem_cons_zero, List.getElem_cons_succ, List.setIfInBounds_toArray, List.set_cons_zero, List.set_cons_succ]
  refine seq_take (v := ?_) rfl rfl rfl (fun W hW => ?_) ?_
  rotate_left
  · go_simp
    rfl
  try simp only [Act.put, List.getElem_toArray, List.getElem_cons_zero, List.getElem_cons_succ, List.setIfInBounds_toArray, List.set_cons_zero, List.set_cons_succ]
  refine seq_take (v := ?_) rfl rfl rfl (fun W hW => ?_) ?_
  rotate_left
  · go_simp
    rfl
  try simp only [Act.put, List.getElem_toArray, List.getElem_cons_zero, List.getElem_cons_succ, List.setIfInBounds_toArray, List.set_cons_zero, List.set_cons_succ]
  refine seq_take (v := ?_) rfl rfl rfl (fun W hW => ?_) ?_
  rotate_left
  · go_simp
    rfl
  try simp only [Act.put, List.getElem_toArray, List.getElem_cons_zero, List.getElem_cons_succ, List.setIfInBounds_toArray, List.set_cons_zero, List.set_cons_succ]
  refine seq_take (v := ?_) rfl rfl rfl (fun W hW => ?_) ?_
  rotate_left
  · go_simp
    rfl
  try simp only [Act.put, List.getElem_toArray, List.getElem_cons_zero, List.getElem_cons_succ, List.setIfInBounds_toArray, List.set_cons_zero, List.set_cons_succ]
  refine seq_skip rfl rfl rfl ?_
  try simp only [Act.put, List.getElem_toArray, List.getElem_cons_zero, List.getElem_cons_succ, List.setIfInBounds_toArray, List.set_cons_zero, List.set_cons_succ]
  refine seq_skip rfl rfl rfl ?_
  try simp only [Act.put, List.getElem_toArray, List.getElem_cons_zero, List.getElem_cons_succ, List.setIfInBounds_toArray, List.set_cons_zero, List.set_cons_succ]
  refine seq_skip rfl rfl rfl ?_
  try simp only [Act.put, List.getElem_toArray, List.getElem_cons_zero, List.getElem_cons_succ, List.setIfInBounds_toArray, List.set_cons_zero, List.set_cons_succ]
  refine seq_skip rfl rfl rfl ?_
  try simp only [Act.put, List.getElem_toArray, List.getElem_cons_zero, List.getElem_cons_succ, List.setIfInBounds_toArray, List.set_cons_zero, List.set_cons_succ]
  refine seq_skip rfl rfl rfl ?_
  try simp only [Act.put, List.getElem_toArray, List.getElem_cons_zero, List.getElem_cons_succ, List.setIfInBounds_toArray, List.set_cons_zero, List.set_cons_succ]
  refine seq_not rfl rfl rfl HE8.out ?_
  try simp only [Act.put, List.getElem_toArray, List.getElem_cons_zero, List.getElem_cons_succ, List.setIfInBounds_toArray, List.set_cons_zero, List.set_cons_succ]
  refine seq_skip rfl rfl rfl ?_
  try simp only [Act.put, List.getElem_toArray, List.getElem_cons_zero, List.getElem_cons_succ, List.setIfInBounds_toArray, List.set_cons_zero, List.set_cons_succ]
  refine seq_take (v := ?_) rfl rfl rfl (fun W hW => ?_) ?_
  rotate_left
  · go_simp
    rfl
  try simp only [Act.put, List.getElem_toArray, List.getElem_cons_zero, List.getElem_cons_succ, List.setIfInBounds_toArray, List.set_cons_zero, List.set_cons_succ]
  refine seq_take (v := ?_) rfl rfl rfl (fun W hW => ?_) ?_
  rotate_left
  · go_simp
    rfl
  try simp only [Act.put, List.getElem_toArray, List.getElem_cons_zero, List.getElem_cons_succ, List.setIfInBounds_toArray, List.set_cons_zero, List.set_cons_succ]
  refine seq_nil ?_
  refine hKx _ _ ?_
  have EE := HE7.out.tr HE8.out
  have BB5 := HI5.out.ext HE8.out
  go_wp2_with (first
    | (refine fit (.load 28 (.tmp 5)) ?_; refine wpl_do rfl (wp_load 28 (.tmp 5) rfl rfl BB5 Try.underlying28 rfl HSp.out ?_))
    | (go_at_call 36; refine (OP _).out.mono ?_; rintro e V1 ⟨A, c, rfl, hrd, hF1⟩; have F1 := EE.tr hF1; have G5 := BB5.ext hF1)
    | (refine fit (.store 50 (.tmp 13) (.tmp 70)) ?_; simp only [NV_litS]; rw [← HZE.out]; refine wpl_fresh rfl 50 (.tmp 13) (.tmp 70) rfl rfl rfl (HM1 A c).out (HM2 A c).out NV_one ?_; intro V2 hF2 G13 hs8; have F2 := F1.tr hF2; have H5 := G5.ext hF2; have hrd2 := hrd.ext hF2; clear hs8)
    | (refine fit (.load 50 (.tmp 13)) ?_; refine wpl_do rfl (wp_load 50 (.tmp 13) rfl rfl G13 Try.underlying50 rfl (HM1 A c).out ?_))
    | (go_at_call 42; rw [NV_litS, ← HZE.out]; refine (SZ _ A c).out.mono ?_; rintro e V3 ⟨rfl, hF3⟩; have F3 := F2.tr hF3))
  go_ret
  exact ⟨rfl, F3⟩
end Go.Proofs.Ytnggcldghpmeaaa
