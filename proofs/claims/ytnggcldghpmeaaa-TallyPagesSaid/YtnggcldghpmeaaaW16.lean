/- The reference's Open and Area, walked. -/
import Derived.Test.YtnggcldghpmeaaaW15
import Derived.Test.YtnggcldghpmeaaaW8
set_option linter.unusedVariables false
set_option linter.unusedSimpArgs false
set_option maxRecDepth 100000
namespace Go.Proofs.Ytnggcldghpmeaaa
open Go.RowKit
attribute [local irreducible] Calls
def padN (N : Nat) (l : List UInt8) (k : Nat) : List UInt8 := l.take k ++ List.replicate (N - k) 0
theorem padN_length (N : Nat) (l : List UInt8) (k : Nat) (h : k ≤ l.length) (h2 : k ≤ N) : (padN N l k).length = N := by
  simp [padN]; omega
theorem padN_next (N : Nat) (l : List UInt8) (k : Nat) (h : k < l.length) (h2 : k < N) : (padN N l k).set k l[k] = padN N l (k + 1) := by
  unfold padN
  rw [take_snoc l k h]
  have e : List.replicate (N - k) (0 : UInt8) = 0 :: List.replicate (N - (k + 1)) 0 := by
    rw [show N - k = (N - (k + 1)) + 1 by omega, List.replicate_succ]
  rw [e, List.set_append, if_neg (by simp; omega)]
  have : k - (List.take k l).length = 0 := by simp; omega
  rw [this, List.set_cons_zero, List.append_assoc]
  rfl
theorem countsB_get (p : List UInt8) (hp : p.length = 256) (k : Nat) (h : k < 240) : (countsB p)[k]'(by simp [countsB, hp]; omega) = p[8 + k]'(by omega) := by
  simp [countsB]
set_option maxHeartbeats 1000000 in
theorem RefOpen_calls (p : List UInt8) (hp : p.length = 256) (g : Nat) (hg : g < 18446744073709551616) (w : World) (b : Bool) (hb : okB p g = b) : Calls Try.prog 28 #[.agg (BV p).toArray, .int .u64 g] w fun e w' =>
    e = .returned (.tuple #[.agg (BV (if b then countsB p else List.replicate 240 0)).toArray, .int .i64 (if b then 0 else 61)]) ∧ Ext w w' := by
  have hcl : (countsB p).length = 240 := by simp [countsB, hp]
  have HCL := hid hcl
  have HP := hid hp
  have HSp := hid (BV_size sz28 HP.out)
  have HSc := hid (BV_size sz24 HCL.out)
  have Hb := hid hb
  have HC := fun W => hid (RefPage_calls g hg (countsB p) HCL.out W)
  have HPL := hid (pageB_length (leB 8 g ++ countsB p) (by simp [leB_length, HCL.out]))
  have HZ0 := hid (BV_size sz24 (show (List.replicate 240 (0 : UInt8)).length = 240 by simp))
  clear hcl hp hg hb
  have hi5 := info_parts info5
  obtain ⟨i0, hi, hz0, hz1, hz2⟩ := hi5
  have Hi := hid hi
  clear hi hz0 hz1 hz2
  have HZ1 : Hid ((Try.prog.info? 24).map (·.size) = some Try.zeroCells24.size) := hid (by rw [z24]; exact HZ0.out)
  have HZ3 : Hid (Try.zeroCells24.all (·.oneCell') = true) := hid (by rw [z24]; exact BV_all _)
  go_enter Try.func28, Try.ntmps28
  go_wp2_with (refine fit (.store 24 (.tmp 6) (.tmp 8)) ?_; refine wpl_fresh2 rfl 24 (.tmp 6) (.tmp 8) rfl rfl (by simp) rfl HZ1.out rfl HZ3.out ?_; intro W1 E1 Z1 hs1; have B2 : Blk W1 w.heap.size 28 (BV p).toArray := ((Blk.new w 28 _).al _).ext E1; have B4 : Blk W1 (w.heap.size + 1) 24 Try.zeroCells24 := (Blk.new_ (by simp)).ext E1; have E0 : Ext w W1 := ((Ext.rfl'.al _).al _).tr E1; clear E1 hs1)
  have Z0 : Blk W1 (w.heap.size + 1 + 1) 24 (BV (padN 240 (countsB p) 0)).toArray := by rw [z24] at Z1; exact Z1
  have hz0 := Z0.lt
  clear Z1
  go_loopw [9] (fun i wr => ∃ k : Nat, k ≤ 240 ∧ i = .int .i64 k ∧ Blk wr (w.heap.size + 1 + 1) 24 (BV (padN 240 (countsB p) k)).toArray ∧ Below (w.heap.size + 1 + 1) W1 wr) (fun i _ => 240 - (intOf i).toNat)
  case atStart => exact ⟨0, by omega, rfl, Z0, Below.refl _ _⟩
  case round =>
    obtain ⟨k, hk, rfl, Z, hE⟩ := hrel
    have D2 := B2.below hE (by omega)
    have D4 := B4.below hE (by omega)
    by_cases hlt : k < 240
    · have hkl : k < (countsB p).length := by rw [HCL.out]; exact hlt
      have hp8 : 8 + k < p.length := by rw [HP.out]; omega
      have hc : wr.cell? ⟨w.heap.size, 8 + k, none⟩ = some (.int .u8 (p[8 + k].toNat : Int)) := by rw [D2.cell (8 + k)]; exact BV_cell hp8
      have hbl := u8_lt p[8 + k]
      have hf := Z.frozen k
      have hb : wr.cell? ⟨w.heap.size + 1 + 1, k, none⟩ = some (bv ((padN 240 (countsB p) k)[k]'(by rw [padN_length _ _ _ (by omega) (by omega)]; omega))) := by
        rw [Z.cell k]; exact BV_cell _
      have HK := hid (padN_next 240 (countsB p) k hkl hlt)
      rw [countsB_get p HP.out k hlt] at HK
      go_wp2
      go_roundw
      case rel =>
        refine ⟨k + 1, by omega, by go_num, ?_, Below.setCell hE (by simp) _⟩
        have := Z.set_ k (.int .u8 (p[8 + k].toNat : Int))
        rw [BV_set, HK.out] at this
        exact this
      case measure => simp [intOf]; omega
    · obtain rfl : k = 240 := by omega
      have e240 : padN 240 (countsB p) 240 = countsB p := by
        unfold padN
        rw [List.take_of_length_le (by rw [HCL.out]; omega)]; simp
      rw [e240] at Z
      clear e240
      have E2 : Ext w wr := E0.trans (hE.mono (by omega))
      go_wp2
      have Q6 := hid Z.dr1
      have Q2 := hid D2.dr1
      have Q4 := hid D4.dr1
      have QE := hid E2.dr1
      have hl6 := Z.lt
      clear Z D2 D4 E2 hE B2 B4 E0 Z0 hz0
      refine seq (fun W => Ext wr.drew W) [0, 1, 3, 2, 4] (by kernel_rfl) (by kernel_rfl) (by kernel_rfl) (by decide) (fun _ _ _ _ _ h => h) Ext.rfl' ?_
      refine seq_take (v := ?_) rfl rfl rfl (fun W hW => ?_) ?_
      rotate_left
      · go_simp
        rfl
      try simp only [Act.put, List.getElem_toArray, List.getElem_cons_zero, List.getElem_cons_succ, List.setIfInBounds_toArray, List.set_cons_zero, List.set_cons_succ]
      refine seq_load rfl 24 (.tmp 6) rfl rfl rfl (fun W hW => Q6.out.ext hW) Try.underlying24 rfl HSc.out ?_
      try simp only [Act.put, List.getElem_toArray, List.getElem_cons_zero, List.getElem_cons_succ, List.setIfInBounds_toArray, List.set_cons_zero, List.set_cons_succ]
      refine seq_load rfl 28 (.tmp 2) rfl rfl rfl (fun W hW => Q2.out.ext hW) Try.underlying28 rfl HSp.out ?_
      try simp only [Act.put, List.getElem_toArray, List.getElem_cons_zero, List.getElem_cons_succ, List.setIfInBounds_toArray, List.set_cons_zero, List.set_cons_succ]
      refine seq_do rfl rfl rfl ?_
      go_simp
      go_at_call 29
      refine (HC _).out.mono ?_
      rintro e W3 ⟨rfl, hE3⟩
      refine ⟨hE3, ?_⟩
      refine seq_eq rfl .neq (.inr rfl) 28 (.tmp 21) (.tmp 22) 28 rfl rfl Try.underlying28 Hi.out co5 Try.underlying5 eg28 rfl rfl HPL.out HP.out (!b) (by rw [if_neg (by decide), ← Hb.out]; rfl) ?_
      try simp only [Act.put, List.getElem_toArray, List.getElem_cons_zero, List.getElem_cons_succ, List.setIfInBounds_toArray, List.set_cons_zero, List.set_cons_succ]
      refine seq_nil ?_
      have F4 := Q4.out.ext hE3
      have F6 := Q6.out.ext hE3
      have F0 := QE.out.tr hE3
      have HZ7 : Hid ((Try.prog.info? 24).map (·.size) = some Try.zeroCells24.size) := hid (by rw [z24]; exact HZ0.out)
      have HZ8 : Hid (Try.zeroCells24.size = (BV (countsB p)).toArray.size) := hid (by rw [z24]; exact BV_sizes (by rw [HCL.out]; simp))
      clear HC
      cases b
      · go_wp2_with (refine fit (.store 24 (.tmp 4) (.tmp 24)) ?_; refine wpl_store rfl 24 (.tmp 4) (.tmp 24) rfl rfl rfl F4 HZ7.out rfl HZ3.out ?_; intro W5 hW5 G1 hb5 hf5 hs5)
        rw [z24] at G1
        exact ret2 rfl (RV.cell rfl G1 Try.underlying24 rfl HZ0.out) (RV.tmp rfl) rfl ⟨rfl, F0.trans (hb5.mono (by omega))⟩
      · go_wp2_with (first
            | (refine fit (.load 24 (.tmp 6)) ?_; refine wpl_do rfl (wp_load 24 (.tmp 6) rfl rfl F6 Try.underlying24 rfl HSc.out ?_))
            | (refine fit (.store 24 (.tmp 4) (.tmp 25)) ?_; refine wpl_store rfl 24 (.tmp 4) (.tmp 25) rfl rfl rfl F4 HSc.out HZ8.out (BV_all _) ?_; intro W5 hW5 G1 hb5 hf5 hs5))
        exact ret2 rfl (RV.cell rfl G1 Try.underlying24 rfl HSc.out) (RV.tmp rfl) rfl ⟨rfl, F0.trans (hb5.mono (by omega))⟩
theorem RefArea_calls (g : Int) (h0 : 0 ≤ g) (w : World) : Calls Try.prog 31 #[.int .u64 g] w fun e w' => e = .returned (.int .i64 (2 + g % 2)) ∧ w = w' := by
  by_cases hg : g % 2 = 0
  · go_enter Try.func31, Try.ntmps31
    go_wp2
    go_ret
    exact ⟨by simp [hg], rfl⟩
  · have h1 : g % 2 = 1 := by omega
    go_enter Try.func31, Try.ntmps31
    go_wp2
    go_ret
    exact ⟨by simp [h1], rfl⟩
end Go.Proofs.Ytnggcldghpmeaaa
