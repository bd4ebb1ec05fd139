/- The law LeafBack, walked. -/
import Derived.Test.YtnggcldghpmeaaaL13
import Derived.Test.YtnggcldghpmeaaaL16
set_option linter.unusedVariables false
set_option linter.unusedSimpArgs false
set_option maxRecDepth 100000
namespace Go.Proofs.Ytnggcldghpmeaaa
open Go.RowKit
attribute [local irreducible] Calls
set_option maxHeartbeats 4000000 in
theorem lback_an {w : World} (nv nv2 : Array Value) (A1 A2 : Option Addr) (n1 n2 c1 c2 : Nat) (x y p z : List UInt8) (eb : Int) (hs : nv.size = 18) (hs2 : nv2.size = 18) (N17 : nv[17]? = some (.slice A1 n1 c1)) (M17 : nv2[17]? = some (.slice A2 n2 c2)) (hn1 : n1 ≤ 50) (hn2 : n2 ≤ 50)
    (hx : x.length = 256) (hy : y.length = 256) (hp : p.length = 256) (hzl : z.length = 16) (hz : z = List.replicate 16 0)
    (PA : ∀ W, Ext w W → Hid (Calls Try.prog 35 #[.agg nv] W fun e w' => e = .returned (.tuple #[.agg (BV x).toArray, .int .i64 81]) ∧ Ext W w'))
    (PB : ∀ W, Ext w W → Hid (Calls Try.prog 35 #[.agg nv2] W fun e w' => e = .returned (.tuple #[.agg (BV y).toArray, .int .i64 eb]) ∧ Ext W w'))
    (OP : ∀ W, Hid (Calls Try.prog 36 #[.agg (BV p).toArray] W fun e w' => ∃ A c, e = .returned (.tuple #[.agg (NV 0 z A 0 c), .int .i64 81]) ∧ Rd w' A (EV []) ∧ Ext W w'))
    (SZ : ∀ W A c, Hid (Calls Try.prog 42 #[.agg (NV 0 z A 0 c), .agg (NV 0 z none 0 0)] W fun e w' => e = .returned (.bool true) ∧ Ext W w')) :
    Calls Try.prog 10 #[.agg nv, .agg nv2, .agg (BV p).toArray] w fun e w' => e = .returned (.bool true) ∧ Ext w w' := by
  have HS : Hid ((Try.prog.info? 50).map (·.size) = some nv.size) := hid (by rw [hs]; exact sz50)
  have HS2 : Hid ((Try.prog.info? 50).map (·.size) = some nv2.size) := hid (by rw [hs2]; exact sz50)
  have HX := hid hx
  have HY := hid hy
  have HP := hid hp
  have HZ := hid hzl
  have HZE := hid hz
  have HSx := hid (BV_size sz28 hx)
  have HSy := hid (BV_size sz28 hy)
  have HSp := hid (BV_size sz28 hp)
  have HZx : Hid (Try.zeroCells28.size = (BV x).toArray.size) := hid (by rw [z28]; exact BV_sizes (by rw [hx]; simp))
  have HZy : Hid (Try.zeroCells28.size = (BV y).toArray.size) := hid (by rw [z28]; exact BV_sizes (by rw [hy]; simp))
  have HZp : Hid (Try.zeroCells28.size = (BV p).toArray.size) := hid (by rw [z28]; exact BV_sizes (by rw [hp]; simp))
  obtain ⟨i0, hi, hz0, hz1, hz2⟩ := info_parts info5
  have Hi := hid hi
  clear hi hz0 hz1 hz2 hs hs2 hx hy hp hzl hz
  have HM1 : ∀ A c, Hid ((Try.prog.info? 50).map (·.size) = some (NV 0 z A 0 c).size) := fun A c => hid (by rw [NV_size HZ.out]; exact sz50)
  have HM2 : ∀ A c, Hid ((NV 0 z none 0 0).size = (NV 0 z A 0 c).size) := fun A c => hid (by rw [NV_size HZ.out, NV_size HZ.out])
  go_enter Try.func10, Try.ntmps10
  go_wp2_with (first
    | (go_at_call 37; refine (leafAlive_calls _).mono ?_; rintro e w1 ⟨rfl, hE1⟩; have E1 := (((Ext.rfl'.al _).al _).al _).tr hE1; have B3 : Blk w1 w.heap.size 50 nv := (((Blk.new w 50 nv).al _).al _).ext hE1; have B4 : Blk w1 (w.heap.size + 1) 50 nv2 := ((Blk.new_ (by simp)).al _).ext hE1; have B5 : Blk w1 (w.heap.size + 1 + 1) 28 (BV p).toArray := (Blk.new_ (by simp)).ext hE1; have c17 := (B3.cell 17).trans N17; have d17 := (B4.cell 17).trans M17)
    | (refine fit (.load 50 (.tmp 3)) ?_; refine wpl_do rfl (wp_load 50 (.tmp 3) rfl rfl B3 Try.underlying50 rfl HS.out ?_))
    | (go_at_call 35; refine (PA _ E1).out.mono ?_; rintro e w2 ⟨rfl, hE2⟩; have E2 := E1.tr hE2)
    | (refine fit (.store 28 (.tmp 7) (.tmp 32)) ?_; refine wpl_fresh rfl 28 (.tmp 7) (.tmp 32) rfl rfl rfl HSx.out HZx.out (BV_all _) ?_; intro w3 hE3 X3 hs3; have E3 := E2.tr hE3; have C4 := (B4.ext hE2).ext hE3; clear hs3)
    | (refine fit (.load 50 (.tmp 4)) ?_; refine wpl_do rfl (wp_load 50 (.tmp 4) rfl rfl C4 Try.underlying50 rfl HS2.out ?_))
    | (go_at_call 35; refine (PB _ E3).out.mono ?_; rintro e w4 ⟨rfl, hE4⟩; have E4 := E3.tr hE4)
    | (refine fit (.store 28 (.tmp 9) (.tmp 37)) ?_; refine wpl_fresh rfl 28 (.tmp 9) (.tmp 37) rfl rfl rfl HSy.out HZy.out (BV_all _) ?_; intro w5 hE5 Y5 hs5; have E5 := E4.tr hE5; have D3 := (((B3.ext hE2).ext hE3).ext hE4).ext hE5; have D4 := (C4.ext hE4).ext hE5; have D5 := (((B5.ext hE2).ext hE3).ext hE4).ext hE5; have X5 := (X3.ext hE4).ext hE5; clear hs5)
    | (refine fit (.load 28 (.tmp 5)) ?_; refine stop ?_))
  refine ⟨?_⟩
  have EE := E5
  have BB5 := D5
  clear E1 E2 E3 E4 B3 B4 B5 C4 D3 D4 D5 X3 X5 Y5 hE2 hE3 hE4 hE5
  go_wp2_with (first
    | (refine fit (.load 28 (.tmp 5)) ?_; refine wpl_do rfl (wp_load 28 (.tmp 5) rfl rfl BB5 Try.underlying28 rfl HSp.out ?_))
    | (go_at_call 36; refine (OP _).out.mono ?_; rintro e V1 ⟨A, c, rfl, hrd, hF1⟩; have F1 := EE.tr hF1; have G5 := BB5.ext hF1)
    | (refine fit (.store 50 (.tmp 13) (.tmp 70)) ?_; simp only [NV_litS]; rw [← HZE.out]; refine wpl_fresh rfl 50 (.tmp 13) (.tmp 70) rfl rfl rfl (HM1 A c).out (HM2 A c).out NV_one ?_; intro V2 hF2 G13 hs8; have F2 := F1.tr hF2; have H5 := G5.ext hF2; have hrd2 := hrd.ext hF2; clear hs8)
    | (refine fit (.load 50 (.tmp 13)) ?_; refine wpl_do rfl (wp_load 50 (.tmp 13) rfl rfl G13 Try.underlying50 rfl (HM1 A c).out ?_))
    | (go_at_call 42; rw [NV_litS, ← HZE.out]; refine (SZ _ A c).out.mono ?_; rintro e V3 ⟨rfl, hF3⟩; have F3 := F2.tr hF3))
  go_ret
  exact ⟨rfl, F3⟩
end Go.Proofs.Ytnggcldghpmeaaa
