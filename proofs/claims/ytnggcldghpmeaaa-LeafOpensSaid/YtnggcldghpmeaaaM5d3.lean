/- The reference of layer 8: the node of a page, walked. -/
import Derived.Test.YtnggcldghpmeaaaL13
import Derived.Test.YtnggcldghpmeaaaM3
set_option linter.unusedVariables false
set_option linter.unusedSimpArgs false
set_option maxRecDepth 100000
namespace Go.Proofs.Ytnggcldghpmeaaa
open Go.RowKit
attribute [local irreducible] Calls
set_option maxHeartbeats 4000000 in
theorem ropen_d3 {w : World} (p pg : List UInt8) (hp : p.length = 256) (hpg : pg.length = 256) (b : List UInt8) (hb : b = (p.drop 1).take 16) (hp0 : (p.map (fun x => (x.toNat : Int))).head? = some 1)
    (PG : ∀ W A c, Rd W A (EV []) → Hid (Calls Try.prog 93 #[.agg (NV 1 b A 0 c)] W fun e w' => e = .returned (.tuple #[.agg (BV pg).toArray, .int .i64 0]) ∧ Ext W w')) (heq : Hid (pg = p)) :
    Calls Try.prog 38 #[.agg (BV p).toArray] w fun e w' => ∃ A c, e = .returned (.tuple #[.agg (NV 1 b A 0 c), .int .i64 0]) ∧ Rd w' A (EV []) ∧ Ext w w' := by
  have HP := hid hp
  have HPG := hid hpg
  have HSp := hid (BV_size sz28 hp)
  have HSg := hid (BV_size sz28 hpg)
  have HZg : Hid (Try.zeroCells28.size = (BV pg).toArray.size) := hid (by rw [z28]; exact BV_sizes (by rw [hpg]; simp))
  obtain ⟨z, hz⟩ : ∃ z : List UInt8, z = List.replicate 16 0 := ⟨_, rfl⟩
  have HZ : Hid (z.length = 16) := hid (by rw [hz]; simp)
  have HZE := hid hz
  have HN0 : Hid ((Try.prog.info? 50).map (·.size) = some (NV 0 z none 0 0).size) := hid (by rw [NV_size HZ.out]; exact sz50)
  have HKZ1 : ∀ k : Int, Hid ((Try.prog.info? 50).map (·.size) = some (NV k z none 0 0).size) := fun k => hid (by rw [NV_size HZ.out]; exact sz50)
  have HKZ2 : ∀ k : Int, Hid ((NV 0 z none 0 0).size = (NV k z none 0 0).size) := fun k => hid (by rw [NV_size HZ.out, NV_size HZ.out])
  obtain ⟨i0, hi, hz0, hz1, hz2⟩ := info_parts info5
  have Hi := hid hi
  try rw [← hz]
  have HBL : Hid (b.length = 16) := hid (by rw [hb]; simp [hp])
  have HBG : Hid (∀ i (h : i < 16), b[i]? = p[1 + i]?) := hid (fun i h => by rw [hb, List.getElem?_take, if_pos h, List.getElem?_drop])
  have hpc : ((BV p).toArray)[0]? = some (.int .u8 1) := by
    match p, hp0 with
    | x :: p, h => simp at h; simp [BV, bv, h]
  clear hp0 hb
  clear hi hz0 hz1 hz2 hp hpg hz
  have P0 : Blk (w.alloc (.cells (BV p).toArray 28)) w.heap.size 28 (BV p).toArray := Blk.new _ _ _
  have pc0 : ((w.alloc (.cells (BV p).toArray 28)).cell? ⟨w.heap.size, 0, none⟩) = some (.int .u8 1) := (P0.cell 0).trans hpc
  have PC : Hid (((w.alloc (.cells (BV p).toArray 28)).alloc (.cells #[.int .i64 0, .int .u8 0, .int .u8 0, .int .u8 0, .int .u8 0, .int .u8 0, .int .u8 0, .int .u8 0, .int .u8 0, .int .u8 0, .int .u8 0, .int .u8 0, .int .u8 0, .int .u8 0, .int .u8 0, .int .u8 0, .int .u8 0, .slice none 0 0] 50)).cell? ⟨w.heap.size, 0, none⟩ = some (.int .u8 1)) := hid (Ext.cells (Ext.rfl'.al _) pc0)
  clear hpc pc0
  go_enter Try.func38, Try.ntmps38
  go_wp2_with (first
    | (refine fit (.load 5 (.tmp 9)) ?_; refine wpl_do rfl (wp_load5 (.tmp 9) rfl rfl PC.out ?_))
    | (refine fit (.store 50 (.tmp 4) (.tmp 12)) ?_; simp only [NV_litS]; rw [← HZE.out]; refine wpl_fresh2 rfl 50 (.tmp 4) (.tmp 12) rfl rfl (by simp) rfl (HKZ1 _).out (HKZ2 _).out NV_one ?_; intro W1 E1 B4 hs1; refine stop ?_))
  refine ⟨?_⟩
  have hsz : w.heap.size + 2 = W1.heap.size - 1 := by rw [hs1]; simp
  have EE1 : Ext w W1 := ((Ext.rfl'.al _).al _).tr E1
  have B1 : Blk W1 w.heap.size 28 (BV p).toArray := (P0.al _).ext E1
  have B2 : Blk W1 (w.heap.size + 1) 50 (NV 0 z none 0 0) := (Blk.new_ (by simp)).ext E1
  obtain ⟨q, hq⟩ : ∃ q, q = w.heap.size := ⟨_, rfl⟩
  rw [← hq] at B1 B2 B4 ⊢
  have HQ := hid hq
  clear P0 E1 hs1 hsz hq PC
  have hq4 := B4.lt
  have c40 := (B4.cell 0).trans NV0
  have Z4 : Blk W1 (q + 1 + 1) 50 (NV 1 (padB b 0) none 0 0) := by
    have e : padB b 0 = z := by rw [HZE.out]; simp [padB]
    rw [e]; exact B4
  clear B4
  go_wp2
  go_loopw [16] (fun i wr => ∃ j : Nat, j ≤ 16 ∧ i = .int .i64 j ∧ Blk wr (q + 1 + 1) 50 (NV 1 (padB b j) none 0 0) ∧ Below (q + 1 + 1) W1 wr) (fun i _ => 16 - (intOf i).toNat)
  case atStart => exact ⟨0, by omega, rfl, Z4, Below.refl _ _⟩
  case round =>
    obtain ⟨j, hj, rfl, Z, hB⟩ := hrel
    by_cases hlt : j < 16
    · have C1 := B1.below hB (by omega)
      have hbj : j < b.length := by rw [HBL.out]; exact hlt
      have hpj : 1 + j < p.length := by rw [HP.out]; omega
      have hcp : wr.cell? ⟨q, 1 + j, none⟩ = some (bv p[1 + j]) := (C1.cell (1 + j)).trans (BV_cell hpj)
      have hval : p[1 + j] = b[j] := by
        have := HBG.out j hlt
        rw [List.getElem?_eq_getElem hbj, List.getElem?_eq_getElem hpj] at this
        exact (Option.some.inj this).symm
      rw [hval] at hcp
      have hz16 : ((NV 1 (padB b j) none 0 0))[1 + j]? = some (bv ((padB b j)[j]'(by rw [padB_length _ _ HBL.out (by omega)]; omega))) := by
        unfold NV
        rw [List.getElem?_toArray, Nat.add_comm, List.getElem?_cons_succ, List.getElem?_append_left (by rw [BV_length, padB_length _ _ HBL.out (by omega)]; omega)]
        have := BV_cell (l := padB b j) (k := j) (by rw [padB_length _ _ HBL.out (by omega)]; omega)
        simpa using this
      have hcz := (Z.cell (1 + j)).trans hz16
      have hfz := Z.frozen (1 + j)
      have HS := hid (padB_next b j hbj hlt)
      have HST := hid (NV_setb 1 (padB b j) none 0 0 j b[j] (by rw [padB_length _ _ HBL.out (by omega)]; omega))
      have hcp' : wr.cell? ⟨q, 1 + j, none⟩ = some (.int .u8 (b[j].toNat : Int)) := hcp
      clear hcp hval hz16 C1
      generalize b[j] = bj at *
      obtain ⟨y, hy⟩ : ∃ y : Int, y = (bj.toNat : Int) := ⟨_, rfl⟩
      rw [← hy] at hcp'
      have HYY := hid hy
      clear hy
      go_wp2
      go_roundw
      case rel =>
        refine ⟨j + 1, by omega, by go_num, ?_, hB.setCell (by simp) _⟩
        have := Z.set_ (1 + j) (.int .u8 (bj.toNat : Int))
        rw [HST.out, HS.out, ← HYY.out] at this
        exact this
      case measure => simp [intOf]; omega
    · obtain rfl : j = 16 := by omega
      have D1 := B1.below hB (by omega)
      have D2 := B2.below hB (by omega)
      have e16 : padB b 16 = b := by unfold padB; rw [List.take_of_length_le (by rw [HBL.out]; omega)]; simp
      rw [e16] at Z
      have D4 := Z
      have EE : Ext w wr := EE1.trans (hB.mono (by have := HQ.out; omega))
      have RR : Rd wr none (EV []) := Rd.nil
      have HAA : Hid (∀ ad, (none : Option Addr) = some ad → q + 1 < ad.block) := hid (fun ad h => by cases h)
      clear Z
      have TN1 := hid (sizeN (A := none) (n := 0) (c := 0) (k := 1) HBL.out)
      have TN2 : Hid ((NV 0 z none 0 0).size = (NV 1 b none 0 0).size) := hid (by rw [NV_size HBL.out, NV_size HZ.out])
      go_wp2_with (first
        | (refine fit (.load 50 (.tmp 4)) ?_; refine wpl_do rfl (wp_load 50 (.tmp 4) rfl rfl D4 Try.underlying50 rfl TN1.out ?_))
        | (go_at_call 93; refine (PG _ none 0 RR).out.mono ?_; rintro e w4 ⟨rfl, hE4⟩; have E4 := EE.tr hE4; have F1 := D1.ext hE4; have F2 := D2.ext hE4; have F4 := D4.ext hE4; have R4 := RR.ext hE4)
        | (refine fit (.store 28 (.tmp 7) (.tmp 59)) ?_; refine wpl_fresh rfl 28 (.tmp 7) (.tmp 59) rfl rfl rfl HSg.out HZg.out (BV_all _) ?_; intro W5 hE5 G5 hs5; have E5 := E4.tr hE5; have G1 := F1.ext hE5; have G2 := F2.ext hE5; have G4 := F4.ext hE5; have R5 := R4.ext hE5; clear hs5)
        | (refine fit (.load 28 (.tmp 7)) ?_; refine wpl_do rfl (wp_load 28 (.tmp 7) rfl rfl G5 Try.underlying28 rfl HSg.out ?_))
        | (refine fit (.load 28 (.tmp 1)) ?_; refine wpl_do rfl (wp_load 28 (.tmp 1) rfl rfl G1 Try.underlying28 rfl HSp.out ?_))
        | (refine fit (.load 50 (.tmp 4)) ?_; refine wpl_do rfl (wp_load 50 (.tmp 4) rfl rfl G4 Try.underlying50 rfl TN1.out ?_))
        | (refine fit (.binOp .neq 28 (.tmp 64) (.tmp 65) 28) ?_; refine wpl_eq_bytes rfl .neq (.inr rfl) 28 (.tmp 64) (.tmp 65) 28 rfl Try.underlying28 Hi.out co5 Try.underlying5 eg28 rfl rfl HPG.out HP.out false (by have := heq.out; simp [this]) ?_)
        | (refine fit (.store 50 (.tmp 2) (.tmp 69)) ?_; refine wpl_store rfl 50 (.tmp 2) (.tmp 69) rfl rfl rfl G2 TN1.out TN2.out NV_one ?_; intro W6 hW6 G6 hb6 hf6 hs6))
      have gk : W5.grownBy W6 (some (q + 1)) := by
        have hw := hW6.out
        rw [hw]
        exact ⟨rfl, rfl, rfl, by simp [World.setRow], fun i hi hne => setRow_other _ _ _ _ (fun e => hne (by rw [e]))⟩
      refine ret2 rfl (RV.cell rfl G6 Try.underlying50 rfl TN1.out) (RV.tmp rfl) rfl ⟨none, 0, rfl, ?_, E5.trans (hb6.mono (by have := HQ.out; omega))⟩
      exact R5.gb gk (fun ad ha => by have := HAA.out ad ha; omega)
end Go.Proofs.Ytnggcldghpmeaaa
