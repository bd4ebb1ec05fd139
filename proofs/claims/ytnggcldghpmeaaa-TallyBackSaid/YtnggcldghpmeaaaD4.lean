/- The stand-in for a disk: reading where there is no page; counts read from it, walked. -/
import Derived.Test.YtnggcldghpmeaaaD3
set_option linter.unusedVariables false
set_option linter.unusedSimpArgs false
set_option maxRecDepth 100000
namespace Go.Proofs.Ytnggcldghpmeaaa
open Go.RowKit
attribute [local irreducible] Calls
section
variable {w : World} {lo g S M ck pc : Nat} {ds : DS} {Pd : Option Addr}
set_option maxHeartbeats 1000000 in
theorem DRead_out (D : DiskAt w lo g ds S M ck Pd pc) (y : Int) (h0 : 0 ≤ y) (h : ¬ y < ds.st.length) : Calls Try.prog 70 #[.pointer (some ⟨g, 0, none⟩), .int .i64 y] w fun e w' => e = .returned (.tuple #[.agg (BV (List.replicate 256 0)).toArray, .int .i64 41]) ∧ Ext w w' := by
  have St := fun W (h' : Ext w W) => hid (Stable_out (D.ext h') y h0 h)
  obtain ⟨p, hp⟩ : ∃ p : List UInt8, p = List.replicate 256 0 := ⟨_, rfl⟩
  have HL : Hid (p.length = 256) := hid (by rw [hp]; simp)
  rw [← hp] at St ⊢
  have HS := hid (BV_size sz28 HL.out)
  have HZ : Hid (Try.zeroCells28.size = (BV p).toArray.size) := hid (by rw [z28]; exact BV_sizes (by rw [HL.out]; simp))
  clear D h hp
  go_enter Try.func70, Try.ntmps70
  go_wp2_with (first
    | (go_at_call 85; refine (St _ (Ext.rfl'.al _)).out.mono ?_; rintro e w1 ⟨rfl, hE1⟩; have E1 := (Ext.rfl'.al (.cells Try.zeroCells28 28)).tr hE1; have B4 : Blk w1 w.heap.size 28 Try.zeroCells28 := (Blk.new w 28 _).ext hE1)
    | (refine fit (.store 28 (.tmp 6) (.tmp 14)) ?_; refine wpl_fresh rfl 28 (.tmp 6) (.tmp 14) rfl rfl rfl HS.out HZ.out (BV_all _) ?_; intro W2 hE2 Z2 hs2; have E2 := E1.tr hE2; have C4 := B4.ext hE2)
    | (refine fit (.load 28 (.tmp 6)) ?_; refine wpl_do rfl (wp_load 28 (.tmp 6) rfl rfl Z2 Try.underlying28 rfl HS.out ?_))
    | (refine fit (.store 28 (.tmp 4) (.tmp 18)) ?_; refine wpl_store rfl 28 (.tmp 4) (.tmp 18) rfl rfl rfl C4 HS.out HZ.out (BV_all _) ?_; intro W5 hW5 G5 hb5 hf5 hs5))
  exact ret2 rfl (RV.cell rfl G5 Try.underlying28 rfl HS.out) (RV.tmp rfl) rfl ⟨rfl, E2.trans (hb5.mono (Nat.le_refl _))⟩
end
set_option maxHeartbeats 1000000 in
theorem TRead_in {w : World} (q : Nat) (p x : List UInt8) (ec gi i : Int) (hx : x.length = 240) (hp : p.length = 256)
    (A : ∀ W, Hid (Calls Try.prog 30 #[.int .u64 gi] W fun e w' => e = .returned (.int .i64 i) ∧ W = w'))
    (R : ∀ W, Ext w W → Hid (Calls Try.prog 70 #[.pointer (some ⟨q, 0, none⟩), .int .i64 i] W fun e w' => e = .returned (.tuple #[.agg (BV p).toArray, .int .i64 0]) ∧ Ext W w'))
    (O : ∀ W, Hid (Calls Try.prog 27 #[.agg (BV p).toArray, .int .u64 gi] W fun e w' => e = .returned (.tuple #[.agg (BV x).toArray, .int .i64 ec]) ∧ Ext W w')) :
    Calls Try.prog 32 #[.pointer (some ⟨q, 0, none⟩), .int .u64 gi] w fun e w' => e = .returned (.tuple #[.agg (BV x).toArray, .int .i64 ec]) ∧ Ext w w' := by
  have HS := hid (BV_size sz28 hp)
  have HZ : Hid (Try.zeroCells28.size = (BV p).toArray.size) := hid (by rw [z28]; exact BV_sizes (by rw [hp]; simp))
  have HX := hid (BV_size sz31 hx)
  have HZX : Hid (Try.zeroCells31.size = (BV x).toArray.size) := hid (by rw [z31]; exact BV_sizes (by rw [hx]; simp))
  clear hx hp
  go_enter Try.func32, Try.ntmps32
  go_wp2_with (first
    | (go_at_call 30; refine (A _).out.mono ?_; rintro e w1 ⟨rfl, rfl⟩)
    | (go_at_call 70; refine (R _ (Ext.rfl'.al _)).out.mono ?_; rintro e w2 ⟨rfl, hE2⟩; have E2 := (Ext.rfl'.al (.cells Try.zeroCells31 31)).tr hE2; have B4 : Blk w2 w.heap.size 31 Try.zeroCells31 := (Blk.new w 31 _).ext hE2)
    | (refine fit (.store 28 (.tmp 6) (.tmp 13)) ?_; refine wpl_fresh rfl 28 (.tmp 6) (.tmp 13) rfl rfl rfl HS.out HZ.out (BV_all _) ?_; intro W3 hE3 Z3 hs3; have E3 := E2.tr hE3; have C4 := B4.ext hE3)
    | (refine fit (.load 28 (.tmp 6)) ?_; refine wpl_do rfl (wp_load 28 (.tmp 6) rfl rfl Z3 Try.underlying28 rfl HS.out ?_))
    | (go_at_call 27; refine (O _).out.mono ?_; rintro e W4 ⟨rfl, hE4⟩; have E4 := E3.tr hE4; have F4 := C4.ext hE4)
    | (refine fit (.store 31 (.tmp 4) (.tmp 22)) ?_; refine wpl_store rfl 31 (.tmp 4) (.tmp 22) rfl rfl rfl F4 HX.out HZX.out (BV_all _) ?_; intro W5 hW5 G5 hb5 hf5 hs5))
  exact ret2 rfl (RV.cell rfl G5 Try.underlying31 rfl HX.out) (RV.tmp rfl) rfl ⟨rfl, E4.trans (hb5.mono (Nat.le_refl _))⟩
set_option maxHeartbeats 1000000 in
theorem TRead_out {w : World} (q : Nat) (p x : List UInt8) (gi i : Int) (hp : p.length = 256) (hx : (BV x).toArray = Try.zeroCells31) (hx2 : x.length = 240)
    (A : ∀ W, Hid (Calls Try.prog 30 #[.int .u64 gi] W fun e w' => e = .returned (.int .i64 i) ∧ W = w'))
    (R : ∀ W, Ext w W → Hid (Calls Try.prog 70 #[.pointer (some ⟨q, 0, none⟩), .int .i64 i] W fun e w' => e = .returned (.tuple #[.agg (BV p).toArray, .int .i64 41]) ∧ Ext W w')) :
    Calls Try.prog 32 #[.pointer (some ⟨q, 0, none⟩), .int .u64 gi] w fun e w' => e = .returned (.tuple #[.agg (BV x).toArray, .int .i64 41]) ∧ Ext w w' := by
  have HS := hid (BV_size sz28 hp)
  have HZ : Hid (Try.zeroCells28.size = (BV p).toArray.size) := hid (by rw [z28]; exact BV_sizes (by rw [hp]; simp))
  have HX := hid (BV_size sz31 hx2)
  have HXE := hid hx
  have HZX : Hid (Try.zeroCells31.size = (BV x).toArray.size) := hid (by rw [hx])
  clear hx hp hx2
  go_enter Try.func32, Try.ntmps32
  go_wp2_with (first
    | (go_at_call 30; refine (A _).out.mono ?_; rintro e w1 ⟨rfl, rfl⟩)
    | (go_at_call 70; refine (R _ (Ext.rfl'.al _)).out.mono ?_; rintro e w2 ⟨rfl, hE2⟩; have E2 := (Ext.rfl'.al (.cells Try.zeroCells31 31)).tr hE2; have B4 : Blk w2 w.heap.size 31 Try.zeroCells31 := (Blk.new w 31 _).ext hE2)
    | (refine fit (.store 28 (.tmp 6) (.tmp 13)) ?_; refine wpl_fresh rfl 28 (.tmp 6) (.tmp 13) rfl rfl rfl HS.out HZ.out (BV_all _) ?_; intro W3 hE3 Z3 hs3; have E3 := E2.tr hE3; have C4 := B4.ext hE3)
    | (refine fit (.store 31 (.tmp 4) (.tmp 17)) ?_; rw [← HXE.out] at C4 ⊢; refine wpl_store rfl 31 (.tmp 4) (.tmp 17) rfl rfl (by rw [HXE.out]; rfl) C4 HX.out rfl (BV_all _) ?_; intro W5 hW5 G5 hb5 hf5 hs5))
  exact ret2 rfl (RV.cell rfl G5 Try.underlying31 rfl HX.out) (RV.tmp rfl) rfl ⟨rfl, E3.trans (hb5.mono (Nat.le_refl _))⟩
end Go.Proofs.Ytnggcldghpmeaaa
