/- The reference of layer 8: the node of a page, walked. -/
import Derived.Test.YtnggcldghpmeaaaL13
import Derived.Test.YtnggcldghpmeaaaM3
set_option linter.unusedVariables false
set_option linter.unusedSimpArgs false
set_option maxRecDepth 100000
namespace Go.Proofs.Ytnggcldghpmeaaa
open Go.RowKit
attribute [local irreducible] Calls
set_option maxHeartbeats 4000000 in
theorem ropen_e3 {w : World} (p pg : List UInt8) (hp : p.length = 256) (hpg : pg.length = 256) (k c1 : Int) (m : Nat) (hk0 : 0 ≤ k) (hk2 : k < 256) (hk1 : ¬ k = 1) (hc0 : 0 ≤ c1) (hc2 : c1 < 256) (hp0 : ((BV p).toArray)[0]? = some (.int .u8 k)) (hp1 : ((BV p).toArray)[1]? = some (.int .u8 c1)) (hm : (m : Int) = if c1 < 6 then c1 else 6)
    (PG : ∀ W A c, Rd W A (EV (ents m (p.drop 2))) → Hid (Calls Try.prog 93 #[.agg (NV k (List.replicate 16 0) A m c)] W fun e w' => e = .returned (.tuple #[.agg (BV pg).toArray, .int .i64 0]) ∧ Ext W w')) (heq : Hid (pg = p)) :
    Calls Try.prog 38 #[.agg (BV p).toArray] w fun e w' => ∃ A c, e = .returned (.tuple #[.agg (NV k (List.replicate 16 0) A m c), .int .i64 0]) ∧ Rd w' A (EV (ents m (p.drop 2))) ∧ Ext w w' := by
  have HP := hid hp
  have HPG := hid hpg
  have HSp := hid (BV_size sz28 hp)
  have HSg := hid (BV_size sz28 hpg)
  have HZg : Hid (Try.zeroCells28.size = (BV pg).toArray.size) := hid (by rw [z28]; exact BV_sizes (by rw [hpg]; simp))
  obtain ⟨z, hz⟩ : ∃ z : List UInt8, z = List.replicate 16 0 := ⟨_, rfl⟩
  have HZ : Hid (z.length = 16) := hid (by rw [hz]; simp)
  have HZE := hid hz
  have HN0 : Hid ((Try.prog.info? 50).map (·.size) = some (NV 0 z none 0 0).size) := hid (by rw [NV_size HZ.out]; exact sz50)
  have HKZ1 : ∀ k : Int, Hid ((Try.prog.info? 50).map (·.size) = some (NV k z none 0 0).size) := fun k => hid (by rw [NV_size HZ.out]; exact sz50)
  have HKZ2 : ∀ k : Int, Hid ((NV 0 z none 0 0).size = (NV k z none 0 0).size) := fun k => hid (by rw [NV_size HZ.out, NV_size HZ.out])
  obtain ⟨i0, hi, hz0, hz1, hz2⟩ := info_parts info5
  have Hi := hid hi
  try rw [← hz]
  rw [← hz] at PG
  have HM := hid hm
  have HP1 := hid hp1
  have hkk : (k == 1) = false := by simp [hk1]
  have hpc := hp0
  clear hp0 hp1 hm
  clear hi hz0 hz1 hz2 hp hpg hz
  have P0 : Blk (w.alloc (.cells (BV p).toArray 28)) w.heap.size 28 (BV p).toArray := Blk.new _ _ _
  have pc0 : ((w.alloc (.cells (BV p).toArray 28)).cell? ⟨w.heap.size, 0, none⟩) = some (.int .u8 k) := (P0.cell 0).trans hpc
  have PC : Hid (((w.alloc (.cells (BV p).toArray 28)).alloc (.cells #[.int .i64 0, .int .u8 0, .int .u8 0, .int .u8 0, .int .u8 0, .int .u8 0, .int .u8 0, .int .u8 0, .int .u8 0, .int .u8 0, .int .u8 0, .int .u8 0, .int .u8 0, .int .u8 0, .int .u8 0, .int .u8 0, .int .u8 0, .slice none 0 0] 50)).cell? ⟨w.heap.size, 0, none⟩ = some (.int .u8 k)) := hid (Ext.cells (Ext.rfl'.al _) pc0)
  clear hpc pc0
  go_enter Try.func38, Try.ntmps38
  go_wp2_with (first
    | (refine fit (.load 5 (.tmp 9)) ?_; refine wpl_do rfl (wp_load5 (.tmp 9) rfl rfl PC.out ?_))
    | (refine fit (.store 50 (.tmp 4) (.tmp 12)) ?_; simp only [NV_litS]; rw [← HZE.out]; refine wpl_fresh2 rfl 50 (.tmp 4) (.tmp 12) rfl rfl (by simp) rfl (HKZ1 _).out (HKZ2 _).out NV_one ?_; intro W1 E1 B4 hs1; refine stop ?_))
  refine ⟨?_⟩
  have hsz : w.heap.size + 2 = W1.heap.size - 1 := by rw [hs1]; simp
  have EE1 : Ext w W1 := ((Ext.rfl'.al _).al _).tr E1
  have B1 : Blk W1 w.heap.size 28 (BV p).toArray := (P0.al _).ext E1
  have B2 : Blk W1 (w.heap.size + 1) 50 (NV 0 z none 0 0) := (Blk.new_ (by simp)).ext E1
  obtain ⟨q, hq⟩ : ∃ q, q = w.heap.size := ⟨_, rfl⟩
  rw [← hq] at B1 B2 B4 ⊢
  have HQ := hid hq
  clear P0 E1 hs1 hsz hq PC
  have hq4 := B4.lt
  have c40 := (B4.cell 0).trans NV0
  have hm6 : m ≤ 6 := by have := HM.out; split at this <;> omega
  obtain ⟨i6, hi, hz0, hz1, hz2⟩ := info_parts info60
  have HI := hid hi
  have HI0 := hid hz0
  have HI1 := hid hz1
  have HI2 := hid hz2
  clear hi hz0 hz1 hz2
  go_wp2
  clear c40
  go_loopw [6] (fun i wr => ∃ (j : Nat) (A : Option Addr) (c : Nat), j ≤ m ∧ i = .int .i64 j ∧ Blk wr (q + 1 + 1) 50 (NV k z A j c) ∧ Own wr (q + 1 + 1 + 1) 60 2 A j c (EV (ents j (p.drop 2))) ∧ Below (q + 1 + 1) W1 wr) (fun i _ => m - (intOf i).toNat)
  case atStart => exact ⟨0, none, 0, by omega, rfl, B4, Own.nil, Below.refl _ _⟩
  case round =>
    obtain ⟨j, A, c, hj, rfl, Z, hown, hB⟩ := hrel
    have C1 := B1.below hB (by omega)
    have b1 : wr.cell? ⟨q, 1, none⟩ = some (.int .u8 c1) := (C1.cell 1).trans HP1.out
    by_cases hlt : j < m
    · have hj1 : (j : Int) < c1 := by have := HM.out; split at this <;> omega
      have hj6 : (j : Int) < 6 := by omega
      have hl1 : 2 + 2 * j < p.length := by rw [HP.out]; omega
      have hl2 : 3 + 2 * j < p.length := by rw [HP.out]; omega
      have ca : wr.cell? ⟨q, 2 + 2 * j, none⟩ = some (.int .u8 (p[2 + 2 * j].toNat : Int)) := (C1.cell _).trans (BV_cell hl1)
      have cy : wr.cell? ⟨q, 3 + 2 * j, none⟩ = some (.int .u8 (p[3 + 2 * j].toNat : Int)) := (C1.cell _).trans (BV_cell hl2)
      have hsn : ents (j + 1) (p.drop 2) = ents j (p.drop 2) ++ [((p[2 + 2 * j].toNat : Int), (p[3 + 2 * j].toNat : Int))] := by
        rw [ents_snoc]
        simp only [List.drop_drop]
        rw [leN_drop p (2 + 2 * j) hl1, show 2 + (2 * j + 1) = 3 + 2 * j by omega, leN_drop p (3 + 2 * j) hl2]
      obtain ⟨a, ha⟩ : ∃ a : Int, a = (p[2 + 2 * j].toNat : Int) := ⟨_, rfl⟩
      obtain ⟨y, hy⟩ : ∃ y : Int, y = (p[3 + 2 * j].toNat : Int) := ⟨_, rfl⟩
      have ha0 : 0 ≤ a := by omega
      have ha1 : a < 256 := by have := p[2 + 2 * j].toNat_lt; omega
      have hy0 : 0 ≤ y := by omega
      have hy1 : y < 256 := by have := p[3 + 2 * j].toNat_lt; omega
      rw [← ha] at ca
      rw [← hy] at cy
      rw [← ha, ← hy] at hsn
      have HSN := hid hsn
      have HCA : Hid (wr.drew.cell? ⟨q, 2 + 2 * j, none⟩ = some (.int .u8 a)) := hid ca
      have HCY : Hid (wr.drew.cell? ⟨q, 3 + 2 * j, none⟩ = some (.int .u8 y)) := hid cy
      have HZB := hid Z.dr1
      have HOW := hid hown.dr1
      have HBB := hid hB
      have hsz := Z.lt
      clear hsn ha hy ca cy C1
      go_wp2
      rename_i K3 hK3
      clear b1
      have hw1 : IntKind.i64.wrap (2 * (j : Int)) = 2 * j := by rw [IntKind.wrap_i64]; omega
      have hw2 : IntKind.i64.wrap (2 + 2 * (j : Int)) = 2 + 2 * j := by rw [IntKind.wrap_i64]; omega
      have hw3 : IntKind.i64.wrap (3 + 2 * (j : Int)) = 3 + 2 * j := by rw [IntKind.wrap_i64]; omega
      have hwa : IntKind.i64.wrap a = a := by rw [IntKind.wrap_i64]; omega
      have hwy : IntKind.i64.wrap y = y := by rw [IntKind.wrap_i64]; omega
      have ht1 : ((2 : Int) + 2 * (j : Int)).toNat = 2 + 2 * j := by omega
      have ht2 : ((3 : Int) + 2 * (j : Int)).toNat = 3 + 2 * j := by omega
      have hb1 : (0 : Int) ≤ 2 + 2 * (j : Int) := by omega
      have hb2 : (2 : Int) + 2 * (j : Int) < 256 := by omega
      have hb3 : (0 : Int) ≤ 3 + 2 * (j : Int) := by omega
      have hb4 : (3 : Int) + 2 * (j : Int) < 256 := by omega
      refine seqL (fun W => Blk W (q + 1 + 1) 50 (NV k z A j c) ∧ W.cell? ⟨q, 2 + 2 * j, none⟩ = some (.int .u8 a) ∧ W.cell? ⟨q, 3 + 2 * j, none⟩ = some (.int .u8 y)) [0, 1, 2, 3, 4, 5, 6, 7, 8, 9, 10, 11, 12, 13, 14, 15, 16, 17] 18 (by kernel_rfl) (by kernel_rfl) (by kernel_rfl) (by decide) (fun _ _ _ _ _ h => h) ⟨HZB.out, HCA.out, HCY.out⟩ ?_
      refine seq_take (v := ?_) rfl rfl rfl (fun W hW => ?_) ?_
      rotate_left
      · go_simp
        rfl
      try simp only [Act.put, List.getElem_toArray, List.getElem_cons_zero, List.getElem_cons_succ, List.setIfInBounds_toArray, List.set_cons_zero, List.set_cons_succ]
      refine seq_take (v := ?_) rfl rfl rfl (fun W hW => ?_) ?_
      rotate_left
      · have c17 := (hW.1.cell 17).trans (NV17 HZ.out);go_simp
        rfl
      try simp only [Act.put, List.getElem_toArray, List.getElem_cons_zero, List.getElem_cons_succ, List.setIfInBounds_toArray, List.set_cons_zero, List.set_cons_succ]
      refine seq_take (v := ?_) rfl rfl rfl (fun W hW => ?_) ?_
      rotate_left
      · go_simp
        rfl
      try simp only [Act.put, List.getElem_toArray, List.getElem_cons_zero, List.getElem_cons_succ, List.setIfInBounds_toArray, List.set_cons_zero, List.set_cons_succ]
      refine seq_take (v := ?_) rfl rfl rfl (fun W hW => ?_) ?_
      rotate_left
      · go_simp
        rfl
      try simp only [Act.put, List.getElem_toArray, List.getElem_cons_zero, List.getElem_cons_succ, List.setIfInBounds_toArray, List.set_cons_zero, List.set_cons_succ]
      refine seq_take (v := ?_) rfl rfl rfl (fun W hW => ?_) ?_
      rotate_left
      · go_simp
        rfl
      try simp only [Act.put, List.getElem_toArray, List.getElem_cons_zero, List.getElem_cons_succ, List.setIfInBounds_toArray, List.set_cons_zero, List.set_cons_succ]
      refine seq_take (v := ?_) rfl rfl rfl (fun W hW => ?_) ?_
      rotate_left
      · go_simp
        rfl
      try simp only [Act.put, List.getElem_toArray, List.getElem_cons_zero, List.getElem_cons_succ, List.setIfInBounds_toArray, List.set_cons_zero, List.set_cons_succ]
      refine seq_take (v := ?_) rfl rfl rfl (fun W hW => ?_) ?_
      rotate_left
      · have ca := hW.2.1;go_simp
        rfl
      try simp only [Act.put, List.getElem_toArray, List.getElem_cons_zero, List.getElem_cons_succ, List.setIfInBounds_toArray, List.set_cons_zero, List.set_cons_succ]
      refine seq_take (v := ?_) rfl rfl rfl (fun W hW => ?_) ?_
      rotate_left
      · go_simp
        rfl
      try simp only [Act.put, List.getElem_toArray, List.getElem_cons_zero, List.getElem_cons_succ, List.setIfInBounds_toArray, List.set_cons_zero, List.set_cons_succ]
      refine seq_take (v := ?_) rfl rfl rfl (fun W hW => ?_) ?_
      rotate_left
      · go_simp
        rfl
      try simp only [Act.put, List.getElem_toArray, List.getElem_cons_zero, List.getElem_cons_succ, List.setIfInBounds_toArray, List.set_cons_zero, List.set_cons_succ]
      refine seq_take (v := ?_) rfl rfl rfl (fun W hW => ?_) ?_
      rotate_left
      · go_simp
        rfl
      try simp only [Act.put, List.getElem_toArray, List.getElem_cons_zero, List.getElem_cons_succ, List.setIfInBounds_toArray, List.set_cons_zero, List.set_cons_succ]
      refine seq_take (v := ?_) rfl rfl rfl (fun W hW => ?_) ?_
      rotate_left
      · go_simp
        rfl
      try simp only [Act.put, List.getElem_toArray, List.getElem_cons_zero, List.getElem_cons_succ, List.setIfInBounds_toArray, List.set_cons_zero, List.set_cons_succ]
      refine seq_take (v := ?_) rfl rfl rfl (fun W hW => ?_) ?_
      rotate_left
      · go_simp
        rfl
      try simp only [Act.put, List.getElem_toArray, List.getElem_cons_zero, List.getElem_cons_succ, List.setIfInBounds_toArray, List.set_cons_zero, List.set_cons_succ]
      refine seq_take (v := ?_) rfl rfl rfl (fun W hW => ?_) ?_
      rotate_left
      · have cy := hW.2.2;go_simp
        rfl
      try simp only [Act.put, List.getElem_toArray, List.getElem_cons_zero, List.getElem_cons_succ, List.setIfInBounds_toArray, List.set_cons_zero, List.set_cons_succ]
      refine seq_take (v := ?_) rfl rfl rfl (fun W hW => ?_) ?_
      rotate_left
      · go_simp
        rfl
      try simp only [Act.put, List.getElem_toArray, List.getElem_cons_zero, List.getElem_cons_succ, List.setIfInBounds_toArray, List.set_cons_zero, List.set_cons_succ]
      refine seq_take (v := ?_) rfl rfl rfl (fun W hW => ?_) ?_
      rotate_left
      · go_simp
        rfl
      try simp only [Act.put, List.getElem_toArray, List.getElem_cons_zero, List.getElem_cons_succ, List.setIfInBounds_toArray, List.set_cons_zero, List.set_cons_succ]
      refine seq_do rfl rfl rfl ?_
      go_simp
      have L1 : Blk (wr.alloc (.cells #[.int .i64 a, .int .i64 y] 60)).drew (q + 1 + 1) 50 (NV k z A j c) := HZB.out.al _
      refine ⟨⟨L1, Ext.cells (Ext.rfl'.al _) HCA.out, Ext.cells (Ext.rfl'.al _) HCY.out⟩, ?_⟩
      try simp only [Act.put, List.getElem_toArray, List.getElem_cons_zero, List.getElem_cons_succ, List.setIfInBounds_toArray, List.set_cons_zero, List.set_cons_succ]
      have O5 : Own (wr.alloc (.cells #[.int .i64 a, .int .i64 y] 60)).drew (q + 1 + 1 + 1) 60 2 A j c (EV (ents j (p.drop 2))) := HOW.out.al (.cells #[.int .i64 a, .int .i64 y] 60)
      have R5 : Rd (wr.alloc (.cells #[.int .i64 a, .int .i64 y] 60)).drew (some ⟨wr.heap.size, 0, none⟩) [.int .i64 a, .int .i64 y] := Rd.dr1 (Rd.new rfl rfl)
      have HCA2 : (wr.alloc (.cells #[.int .i64 a, .int .i64 y] 60)).drew.cell? ⟨q, 2 + 2 * j, none⟩ = some (.int .u8 a) := Ext.cells (Ext.rfl'.al (.cells #[.int .i64 a, .int .i64 y] 60)) HCA.out
      have HCY2 : (wr.alloc (.cells #[.int .i64 a, .int .i64 y] 60)).drew.cell? ⟨q, 3 + 2 * j, none⟩ = some (.int .u8 y) := Ext.cells (Ext.rfl'.al (.cells #[.int .i64 a, .int .i64 y] 60)) HCY.out
      refine seq_do rfl rfl rfl ?_
      refine wp_app (.tmp 39) (.tmp 53) 48 rfl Try.underlying48 HI.out HI0.out HI1.out HI2.out rfl (by omega) rfl O5 rfl (ys := [.int .i64 a, .int .i64 y]) rfl R5 (by simp [Value.oneCell']) (by unfold maxLen; omega) (by omega) (by simp; omega) ?_
      intro A' c' W5 hown5 hg5
      have hrow : ∀ n, n ≤ q + 1 + 1 → some n ≠ (Value.slice A j c).ownBlock := fun n hn e => by have := (O5.block n e.symm).1; omega
      have G3 := L1.grown hg5 (hrow _ (Nat.le_refl _))
      have key : ∀ (o : Nat) (v : Value), (wr.alloc (.cells #[.int .i64 a, .int .i64 y] 60)).drew.cell? ⟨q, o, none⟩ = some v → W5.cell? ⟨q, o, none⟩ = some v := by
        intro o v hv
        have hlt9 := World.block_lt_of_cell? _ _ hv
        have h5 := hg5.block q hlt9 (hrow q (by omega))
        simpa [World.cell?, h5] using hv
      refine ⟨⟨G3, key _ _ HCA2, key _ _ HCY2⟩, ?_⟩
      try simp only [Act.put, List.getElem_toArray, List.getElem_cons_zero, List.getElem_cons_succ, List.setIfInBounds_toArray, List.set_cons_zero, List.set_cons_succ]
      refine seq_take (v := ?_) rfl rfl rfl (fun W hW => ?_) ?_
      rotate_left
      · go_simp
        rfl
      try simp only [Act.put, List.getElem_toArray, List.getElem_cons_zero, List.getElem_cons_succ, List.setIfInBounds_toArray, List.set_cons_zero, List.set_cons_succ]
      have cc := (G3.cell 17).trans (NV17 HZ.out)
      have fz := G3.frozen 17
      refine seq_last rfl rfl ?_
      go_simp
      refine hK3 _ _ ?_
      go_wp2
      go_roundw
      case rel =>
        refine ⟨j + 1, A', c', by omega, by go_num, ?_, ?_, ?_⟩
        · have := G3.set_ 17 (.slice A' (j + 1) c')
          rwa [NV_set17 _ _ _ _ _ _ _ _ HZ.out] at this
        · rw [HSN.out]
          have e : EV (ents j (p.drop 2) ++ [(a, y)]) = EV (ents j (p.drop 2)) ++ [.int .i64 a, .int .i64 y] := by simp [EV]
          rw [e]
          exact hown5.set_ (by show q + 1 + 1 < q + 1 + 1 + 1; omega) _
        · have h1 : Below (q + 1 + 1) W1 (wr.alloc (.cells #[.int .i64 a, .int .i64 y] 60)).drew := HBB.out.trans ((Ext.rfl'.al _).dr1.mono (by omega))
          exact (h1.grown hg5 (by simp; omega) (fun k e => by have := (O5.block k e).1; omega)).setCell (by show q + 1 + 1 ≤ q + 1 + 1; omega) _
      case measure => simp [intOf]; omega
    · obtain rfl : j = m := by omega
      have D1 := C1
      have D2 := B2.below hB (by omega)
      have D4 := Z
      have EE : Ext w wr := EE1.trans (hB.mono (by have := HQ.out; omega))
      have RR := hown.rd
      have HAA : Hid (∀ ad, A = some ad → q + 1 < ad.block) := hid (fun ad h => by subst h; have := (hown.block ad.block rfl).1; omega)
      have HEND : (¬ (j : Int) < c1) ∨ ((j : Int) < c1 ∧ ¬ (j : Int) < 6) := by have := HM.out; split at this <;> omega
      clear Z hown C1
      rcases HEND with he | ⟨he1, he2⟩
      all_goals
        have TN1 := hid (sizeN (A := A) (n := j) (c := c) (k := k) HZ.out)
        have TN2 : Hid ((NV 0 z none 0 0).size = (NV k z A j c).size) := hid (by rw [NV_size HZ.out, NV_size HZ.out])
        go_wp2_with (first
          | (refine fit (.load 50 (.tmp 4)) ?_; refine wpl_do rfl (wp_load 50 (.tmp 4) rfl rfl D4 Try.underlying50 rfl TN1.out ?_))
          | (go_at_call 93; refine (PG _ A c RR).out.mono ?_; rintro e w4 ⟨rfl, hE4⟩; have E4 := EE.tr hE4; have F1 := D1.ext hE4; have F2 := D2.ext hE4; have F4 := D4.ext hE4; have R4 := RR.ext hE4)
          | (refine fit (.store 28 (.tmp 7) (.tmp 59)) ?_; refine wpl_fresh rfl 28 (.tmp 7) (.tmp 59) rfl rfl rfl HSg.out HZg.out (BV_all _) ?_; intro W5 hE5 G5 hs5; have E5 := E4.tr hE5; have G1 := F1.ext hE5; have G2 := F2.ext hE5; have G4 := F4.ext hE5; have R5 := R4.ext hE5; clear hs5)
          | (refine fit (.load 28 (.tmp 7)) ?_; refine wpl_do rfl (wp_load 28 (.tmp 7) rfl rfl G5 Try.underlying28 rfl HSg.out ?_))
          | (refine fit (.load 28 (.tmp 1)) ?_; refine wpl_do rfl (wp_load 28 (.tmp 1) rfl rfl G1 Try.underlying28 rfl HSp.out ?_))
          | (refine fit (.load 50 (.tmp 4)) ?_; refine wpl_do rfl (wp_load 50 (.tmp 4) rfl rfl G4 Try.underlying50 rfl TN1.out ?_))
          | (refine fit (.binOp .neq 28 (.tmp 64) (.tmp 65) 28) ?_; refine wpl_eq_bytes rfl .neq (.inr rfl) 28 (.tmp 64) (.tmp 65) 28 rfl Try.underlying28 Hi.out co5 Try.underlying5 eg28 rfl rfl HPG.out HP.out false (by have := heq.out; simp [this]) ?_)
          | (refine fit (.store 50 (.tmp 2) (.tmp 69)) ?_; refine wpl_store rfl 50 (.tmp 2) (.tmp 69) rfl rfl rfl G2 TN1.out TN2.out NV_one ?_; intro W6 hW6 G6 hb6 hf6 hs6))
        have gk : W5.grownBy W6 (some (q + 1)) := by
          have hw := hW6.out
          rw [hw]
          exact ⟨rfl, rfl, rfl, by simp [World.setRow], fun i hi hne => setRow_other _ _ _ _ (fun e => hne (by rw [e]))⟩
        refine ret2 rfl (RV.cell rfl G6 Try.underlying50 rfl TN1.out) (RV.tmp rfl) rfl ⟨A, c, rfl, ?_, E5.trans (hb6.mono (by have := HQ.out; omega))⟩
        exact R5.gb gk (fun ad ha => by have := HAA.out ad ha; omega)
end Go.Proofs.Ytnggcldghpmeaaa
