/- What the package tally computes, walked: how many pages are held, where counts are, the counts of a page, the chapter's example. -/
import Derived.Test.YtnggcldghpmeaaaW5
import Derived.Test.YtnggcldghpmeaaaSeq
set_option linter.unusedVariables false
set_option linter.unusedSimpArgs false
set_option maxRecDepth 100000
namespace Go.Proofs.Ytnggcldghpmeaaa
open Go.RowKit
theorem eg24 : Try.prog.eqGuardType Try.prog.depth 24 = false := by kernel_rfl
theorem eg28 : Try.prog.eqGuardType Try.prog.depth 28 = false := by kernel_rfl
theorem eg31 : Try.prog.eqGuardType Try.prog.depth 31 = false := by kernel_rfl
theorem co5 : Try.prog.cellsOf 5 = 1 := by kernel_rfl
theorem sz24 : (Try.prog.info? 24).map (·.size) = some 240 := by kernel_rfl
theorem sz31 : (Try.prog.info? 31).map (·.size) = some 240 := by kernel_rfl
/-- How many counts aren't nought. -/
def usedN (c : List UInt8) : Nat := (c.filter (· != 0)).length
theorem usedN_le (c : List UInt8) : usedN c ≤ c.length := List.length_filter_le _ _
theorem usedN_snoc (c : List UInt8) (k : Nat) (h : k < c.length) : usedN (c.take (k + 1)) = usedN (c.take k) + if c[k] = 0 then 0 else 1 := by
  unfold usedN
  rw [take_snoc c k h, List.filter_append, List.length_append]
  by_cases h0 : c[k] = 0 <;> simp [h0]
theorem usedN_take (c : List UInt8) (k : Nat) : usedN (c.take k) ≤ k := Nat.le_trans (usedN_le _) (by simp; omega)
set_option maxHeartbeats 1000000 in
theorem Used_calls (c : List UInt8) (hc : c.length = 240) (w : World) : Calls Try.prog 25 #[.agg (BV c).toArray] w fun e w' => e = .returned (.int .i64 (usedN c)) ∧ Ext w w' := by
  obtain ⟨i0, hi, hz0, hz1, hz2⟩ := info_parts info5
  have Hi := hid hi
  have H1 := hid hz1
  clear hi hz0 hz1 hz2
  have HC := hid hc
  clear hc
  have HS := hid (BV_size sz31 HC.out)
  go_enter Try.func25, Try.ntmps25
  go_wp2_with (refine wpl_load rfl 31 (.tmp 1) rfl rfl (.new_ rfl) Try.underlying31 rfl HS.out ?_)
  go_loop [3, 7] (fun n i => ∃ k : Nat, k ≤ 240 ∧ i = .int .i64 k ∧ n = .int .i64 (usedN (c.take k))) (fun _ i => 240 - (intOf i).toNat)
  case atStart => exact ⟨0, by omega, rfl, rfl⟩
  case round =>
    obtain ⟨k, hk, rfl, rfl⟩ := hrel
    have hu := usedN_take c k
    by_cases hlt : k < 240
    · have hkc : k < c.length := by rw [HC.out]; exact hlt
      have hS := hid (usedN_snoc c k hkc)
      have hb := u8_lt c[k]
      have hz : ((c[k].toNat : Int) = 0) ↔ c[k] = 0 := ⟨fun h => UInt8.toNat_inj.1 (by simpa using h), fun h => by rw [h]; rfl⟩
      have HZ := hid hz
      clear hz
      have h0 : (0 : Int) ≤ (c[k].toNat : Int) := by omega
      obtain ⟨x, hx⟩ : ∃ x : Int, x = (c[k].toNat : Int) := ⟨_, rfl⟩
      rw [← hx] at hb h0
      have HX := hid hx
      clear hx
      go_wp2_with (refine wpl_idx rfl 31 (.tmp 6) (.tmp 7) rfl Try.underlying31 Hi.out H1.out Try.underlying5 rfl rfl HC.out hkc ?_; rw [← HX.out])
      · have hp : 0 < x := by assumption
        go_round
        case rel =>
          refine ⟨k + 1, by omega, by go_num, ?_⟩
          rw [hS.out, if_neg (fun h => by have := HZ.out.2 h; have := HX.out; omega)]
          go_num
        case measure => simp [intOf]; omega
      · have hp : x ≤ 0 := by assumption
        go_round
        case rel =>
          refine ⟨k + 1, by omega, by go_num, ?_⟩
          rw [hS.out, if_pos (HZ.out.1 (by have := HX.out; omega))]
          go_num
        case measure => simp [intOf]; omega
    · go_wp2
      go_ret
      obtain rfl : k = 240 := by omega
      refine ⟨?_, Ext.rfl'.al _⟩
      rw [List.take_of_length_le (by rw [HC.out]; omega)]; rfl
theorem Area_calls (g : Int) (h0 : 0 ≤ g) (w : World) : Calls Try.prog 30 #[.int .u64 g] w fun e w' => e = .returned (.int .i64 (2 + g % 2)) ∧ w = w' := by
  go_enter Try.func30, Try.ntmps30
  go_wp2
  go_ret
  exact ⟨by simp, rfl⟩

theorem z31 : Try.zeroCells31 = (BV (List.replicate 240 0)).toArray := by kernel_rfl
/-- The counts that a page seems to have; are they its counts? -/
def countsB (p : List UInt8) : List UInt8 := (p.drop 8).take 240
def okB (p : List UInt8) (g : Nat) : Bool := decide (pageB (leB 8 g ++ countsB p) = p)
theorem open_rd {w : World} {A : Option Addr} {p : List UInt8} (h : Rd w A (List.take 240 (List.drop 8 (BV p).toArray.toList))) : Rd w A (BV (countsB p)) := by
  unfold countsB
  rw [BV_take, BV_drop]
  exact h
theorem open_splice {c : List UInt8} (h : c.length = 240) : splice (BV (List.replicate 240 0)) 0 (BV c) = BV c := by
  unfold splice
  rw [List.take_zero, List.nil_append, Nat.zero_add, List.drop_eq_nil_of_le (by simp [BV_length, h]), List.append_nil]
set_option maxHeartbeats 1000000 in
theorem Open_calls (p : List UInt8) (hp : p.length = 256) (g : Nat) (hg : g < 18446744073709551616) (w : World) (b : Bool) (hb : okB p g = b) : Calls Try.prog 27 #[.agg (BV p).toArray, .int .u64 g] w fun e w' =>
    e = .returned (.tuple #[.agg (BV (if b then countsB p else List.replicate 240 0)).toArray, .int .i64 (if b then 0 else 61)]) ∧ Ext w w' := by
  have Hg := hid hg
  clear hg
  have Hb := hid hb
  clear hb
  have hcl : (countsB p).length = 240 := by simp [countsB, hp]
  have HCL := hid hcl
  clear hcl
  have HP := hid hp
  clear hp
  have HSp := hid (BV_size sz28 HP.out)
  have HSc := hid (BV_size sz31 HCL.out)
  go_enter Try.func27, Try.ntmps27
  go_wp2
  refine abs_w (fun W => Blk W w.heap.size 28 (BV p).toArray ∧ Blk W (w.heap.size + 1) 31 (BV (List.replicate 240 0)).toArray ∧ Blk W (w.heap.size + 1 + 1) 31 (BV (List.replicate 240 0)).toArray ∧ Ext w W) (fun W ⟨B0, B1, B2, hE⟩ => ?_)
    ⟨((Blk.new _ _ _).al _).al _, by rw [← z31]; exact (Blk.new_ (by simp)).al _, by rw [← z31]; exact Blk.new_ (by simp), ((Ext.rfl'.al _).al _).al _⟩
  have hsz := B2.lt
  have hcopy := hid (((B0.dr1).rd 8).take 240)
  go_region_law (first
    | (refine step_copy_splice rfl (.tmp 7) (.tmp 8) 63 63 rfl 5 Try.underlying63 (by kernel_rfl) _ _ _ _ _ _ rfl rfl (w.heap.size + 1 + 1) 0 (BV (List.replicate 240 0)) 31 B2.dr1.out (BV (countsB p)) (by rw [BV_length, HCL.out]; rfl) (fun h => ⟨rfl, (open_rd hcopy.out).out h⟩) (by rw [BV_length, HCL.out]; simp [BV_length]) (BV_one _) (w.heap.size + 1 + 1) _ (Below.refl _ _) (Nat.le_refl _) ?_; intro W2 hg2 hb2))
  have C2 : Blk W2 (w.heap.size + 1 + 1) 31 (BV (countsB p)).toArray := ⟨by rw [← open_splice HCL.out]; exact hg2.out⟩
  have C0 := (B0.dr1).below hb2 (by omega)
  have C1 := (B1.dr1).below hb2 (by omega)
  have hE2 : Ext w W2 := hE.dr1.trans (hb2.mono (by omega))
  clear hg2 hb2 B0 B1 B2 hE hcopy
  go_wp2_with fail
  have D2 := C2.dr1
  have D0 := C0.dr1
  have HC := hid (Page_calls g Hg.out (countsB p) HCL.out W2.drew)
  have hi5 := info_parts info5
  obtain ⟨i0, hi, hz0, hz1, hz2⟩ := hi5
  have Hi := hid hi
  clear hi hz0 hz1 hz2
  have hPL : (pageB (leB 8 g ++ countsB p)).length = 256 := pageB_length _ (by simp [leB_length, HCL.out])
  have HPL := hid hPL
  clear hPL
  have HR : Hid ((!b) = if BinOp.neq = BinOp.eql then decide (pageB (leB 8 g ++ countsB p) = p) else !decide (pageB (leB 8 g ++ countsB p) = p)) := by
    show _ = _
    rw [if_neg (by decide), ← Hb.out]; rfl
  refine seq (fun W => Ext W2.drew W) [0, 1, 3, 2, 4] (by kernel_rfl) (by kernel_rfl) (by kernel_rfl) (by decide) (fun _ _ _ _ _ h => h) Ext.rfl' ?_
  refine seq_take (v := ?_) rfl rfl rfl (fun W hW => ?_) ?_
  rotate_left
  · go_simp
    rfl
  refine seq_load rfl 31 (.tmp 6) rfl rfl rfl (fun W hW => D2.ext hW) Try.underlying31 rfl HSc.out ?_
  refine seq_load rfl 28 (.tmp 2) rfl rfl rfl (fun W hW => D0.ext hW) Try.underlying28 rfl HSp.out ?_
  refine seq_do rfl rfl rfl ?_
  go_simp
  go_at_call 26
  refine HC.out.mono ?_
  rintro e W3 ⟨rfl, hE3⟩
  refine ⟨hE3, ?_⟩
  refine seq_eq rfl .neq (.inr rfl) 28 (.tmp 12) (.tmp 13) 28 rfl rfl Try.underlying28 Hi.out co5 Try.underlying5 eg28 rfl rfl HPL.out HP.out _ HR.out ?_
  refine seq_nil ?_
  have F1 := C1.dr1.ext hE3
  have F2 := D2.ext hE3
  have hE4 := hE2.dr1.tr hE3
  clear C0 C1 C2 D0 D2 HC hE2 hE3 HR
  have HZ0 := hid (BV_size sz31 (show (List.replicate 240 (0 : UInt8)).length = 240 by simp))
  have HL1 : Hid ((List.replicate 240 (0 : UInt8)).length = (countsB p).length) := by rw [HCL.out]; show _ = _; simp
  cases b
  · have HZ1 : Hid ((Try.prog.info? 31).map (·.size) = some Try.zeroCells31.size) := by rw [z31]; exact HZ0
    have HZ2 : Hid ((BV (List.replicate 240 0)).toArray.size = Try.zeroCells31.size) := hid (by rw [z31])
    have HZ3 : Hid (Try.zeroCells31.all (·.oneCell') = true) := hid (by rw [z31]; exact BV_all _)
    go_wp2_with (refine wpl_store rfl 31 (.tmp 4) (.tmp 15) rfl rfl rfl F1 HZ1.out HZ2.out HZ3.out ?_; intro W5 hW5 G1 hb5 hf5 hs5)
    rw [z31] at G1
    exact ret2 rfl (RV.cell rfl G1 Try.underlying31 rfl HZ0.out) (RV.tmp rfl) rfl ⟨rfl, hE4.trans (hb5.mono (by omega))⟩
  · go_wp2_with (first
        | (refine wpl_load rfl 31 (.tmp 6) rfl rfl F2 Try.underlying31 rfl HSc.out ?_)
        | (refine wpl_store rfl 31 (.tmp 4) (.tmp 16) rfl rfl rfl F1 HSc.out (BV_sizes HL1.out) (BV_all _) ?_; intro W5 hW5 G1 hb5 hf5 hs5))
    exact ret2 rfl (RV.cell rfl G1 Try.underlying31 rfl HSc.out) (RV.tmp rfl) rfl ⟨rfl, hE4.trans (hb5.mono (by omega))⟩
end Go.Proofs.Ytnggcldghpmeaaa
