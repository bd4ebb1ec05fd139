/- What the package tally computes, walked. -/
import Derived.Test.YtnggcldghpmeaaaW4
import Derived.Deep.RegionWith
import Derived.Deep.RegionLaw
import Derived.Deep.DeepMust
set_option linter.unusedVariables false
set_option linter.unusedSimpArgs false
set_option maxRecDepth 100000
namespace Go.Proofs.Ytnggcldghpmeaaa
open Go.RowKit
theorem z28 : Try.zeroCells28 = (BV (List.replicate 256 0)).toArray := by kernel_rfl
/-- A page: bytes, their sum, zeros. -/
def pageB (l : List UInt8) : List UInt8 := sealB l ++ List.replicate (252 - l.length) 0
theorem pageB_length (l : List UInt8) (h : l.length ≤ 252) : (pageB l).length = 256 := by simp [pageB, sealB_length]; omega
theorem page_splice (l : List UInt8) (h : l.length ≤ 252) : splice (BV (List.replicate 256 0)) 0 (BV (sealB l)) = BV (pageB l) := by
  unfold splice pageB
  rw [BV_append, List.take_zero, List.nil_append, Nat.zero_add, BV_length, ← BV_drop, List.drop_replicate, sealB_length]
  congr 3
  omega
theorem sz28 : (Try.prog.info? 28).map (·.size) = some 256 := by kernel_rfl
set_option maxHeartbeats 1000000 in
theorem Page_calls (g : Nat) (hg : g < 18446744073709551616) (c : List UInt8) (hc : c.length = 240) (w : World) :
    Calls Try.prog 26 #[.int .u64 g, .agg (BV c).toArray] w fun e w' => e = .returned (.agg (BV (pageB (leB 8 g ++ c))).toArray) ∧ Ext w w' := by
  have Hg := hid hg
  clear hg
  go_enter Try.func26, Try.ntmps26
  go_wp2_with (go_at_call 86; refine (Put_c [] 8 [g] 8 .nil (by simp) (by simp [IsWidth]) (.new (by simp) rfl) (by simp) (by simp; exact Hg.out) rfl rfl rfl rfl).mono ?_; rintro e w1 ⟨A1, c1, rfl, hown, hex⟩)
  have B0 : Blk w1 w.heap.size 31 (BV c).toArray := ((((Blk.new w 31 (BV c).toArray).al _).al _).al _).ext hex
  have B2 : Blk w1 (w.heap.size + 1 + 1) 28 (BV (List.replicate 256 0)).toArray := by
    rw [← z28]
    exact ((Blk.new_ (w := (w.alloc _).alloc _) (by simp)).al _).ext hex
  have B1 : Blk w1 (w.heap.size + 1) 28 (BV (List.replicate 256 0)).toArray := by
    rw [← z28]
    exact (((Blk.new_ (w := w.alloc _) (by simp)).al _).al _).ext hex
  have hE : Ext w w1 := Ext.tr ((((Ext.rfl'.al _).al _).al _).al _) hex
  have hsz : w.heap.size + 4 ≤ w1.heap.size := by have := hex.size; simp at this; omega
  have r1 : Rd w1 A1 (BV (leB 8 g)) := by have := hown.rd; simpa [leBs] using this
  clear hown hex
  have HC := hid (Seal_c (n := 2) (c := 2) [leB 8 g, c] (leB 8 g ++ c) 252 (Parts.dr1 (Parts.new2 (t := 63) (c1 := c1) (c2 := 240) rfl (leB_length 8 g).symm hc.symm r1 (B0.rd 0))) (by simp) (by simp [sumLen, leB_length, hc]) rfl (by simp) (by simp [leB_length, hc]))
  have hL : (BV (sealB (leB 8 g ++ c))).length = 252 := by rw [BV_length, sealB_length, List.length_append, leB_length, hc]
  have HL := hid hL
  clear hL
  go_region_law (first
    | (refine step_copy_splice rfl (.tmp 14) (.tmp 18) 63 63 rfl 5 Try.underlying63 (by kernel_rfl) _ _ _ _ _ _ rfl rfl (w.heap.size + 1 + 1) 0 (BV (List.replicate 256 0)) 28 (B2'.ext hex3).out (BV (sealB (leB 8 g ++ c))) HL.out (fun h => ⟨rfl, hown3.rd.out h⟩) (by rw [HL.out]; simp [BV_length]) (BV_one _) (w.heap.size + 1 + 1) w3 (Below.refl _ _) (Nat.le_refl _) ?_; intro w4 hg4 hb4)
    | (go_simp; go_at_call 87; refine HC.out.mono ?_; rintro e w3 ⟨A3, c3, rfl, hown3, hex3⟩; have B2' := (B2.al (.cells #[.slice A1 8 c1, .slice (some ⟨w.heap.size, 0, none⟩) 240 240] 63)).dr1; have hE' := (hE.al (.cells #[.slice A1 8 c1, .slice (some ⟨w.heap.size, 0, none⟩) 240 240] 63)).dr1))
  have C2 : Blk w4 (w.heap.size + 1 + 1) 28 (BV (pageB (leB 8 g ++ c))).toArray := ⟨by rw [← page_splice]; exact hg4.out; simp [leB_length, hc]⟩
  have C1 := (((B1.al (.cells #[.slice A1 8 c1, .slice (some ⟨w.heap.size, 0, none⟩) 240 240] 63)).dr1).ext hex3).below hb4 (by omega)
  have hE4 : Ext w w4 := (hE'.tr hex3).trans (hb4.mono (by omega))
  clear hg4 hb4 B0 B1 B2 B2' hE hE' hex3 hown3 HC
  have hp : (pageB (leB 8 g ++ c)).length = 256 := pageB_length _ (by simp [leB_length, hc])
  have HS := hid (BV_size sz28 hp)
  have HZ := hid (BV_sizes (l := List.replicate 256 0) (m := pageB (leB 8 g ++ c)) (by rw [hp]; simp))
  clear hp
  go_wp2_with (first
    | (refine wpl_load rfl 28 (.tmp 5) rfl rfl C2 Try.underlying28 rfl HS.out ?_)
    | (refine wpl_store rfl 28 (.tmp 4) (.tmp 20) rfl rfl rfl C1 HS.out HZ.out (BV_all _) ?_; intro w5 _ D1 hb5 _ _))
  exact ret_cell rfl rfl D1 Try.underlying28 rfl HS.out rfl ⟨rfl, hE4.trans (hb5.mono (by omega))⟩
end Go.Proofs.Ytnggcldghpmeaaa
