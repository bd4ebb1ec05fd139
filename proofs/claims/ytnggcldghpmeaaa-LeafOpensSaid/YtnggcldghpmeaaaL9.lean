/- The package leaf: the entries that bytes seem to be, walked. -/
import Derived.Test.YtnggcldghpmeaaaL8
set_option linter.unusedVariables false
set_option linter.unusedSimpArgs false
set_option maxRecDepth 100000
namespace Go.Proofs.Ytnggcldghpmeaaa
open Go.RowKit
attribute [local irreducible] Calls
theorem info60 : (Try.prog.info? 60).map (fun i => (i.zero, i.size, i.bytes)) = some (some (.agg #[.int .i64 0, .int .i64 0]), 2, 16) := by kernel_rfl
set_option maxHeartbeats 4000000 in
theorem read_ents {w : World} {g : Nat} (p : List UInt8) (R : RdAt w g p false) (hp : 20 ≤ p.length) (hp2 : p.length ≤ 100000) (v : Int) (hv : v = leN (p.take 1)) (hv1 : ¬ v = 1) (m : Nat) (hm : m = min (leN ((p.drop 1).take 1)) 6) :
    Calls Try.prog 91 #[.pointer (some ⟨g, 0, none⟩)] w fun e w' => ∃ A c, e = .returned (.agg (NV v (List.replicate 16 0) A m c)) ∧ Rd w' A (EV (ents m (p.drop 2))) ∧ (∀ ad, A = some ad → w.heap.size ≤ ad.block) ∧ w.grownBy w' (some g) := by
  have hg := R.lt
  have hv0 : 0 ≤ v := by omega
  have hv2 : v < 256 := by have := leN1 p; omega
  have NUM := fun W (h : Ext w W) => hid (Num1 (R.ext h) (by omega) hp2 v hv)
  obtain ⟨c1, hc1⟩ : ∃ c1 : Int, c1 = (leN ((p.drop 1).take 1) : Int) := ⟨_, rfl⟩
  have hc0 : 0 ≤ c1 := by omega
  have hc2 : c1 < 256 := by have := leN1 (p.drop 1); omega
  have hcm : (m : Int) = if c1 < 6 then c1 else 6 := by split <;> omega
  have HC1 := hid hc1
  have HCM := hid hcm
  have HP := hid hp
  have HP2 := hid hp2
  clear R hv hp hp2 hm hc1 hcm
  obtain ⟨z, hz⟩ : ∃ z : List UInt8, z = List.replicate 16 0 := ⟨_, rfl⟩
  have HZ : Hid (z.length = 16) := hid (by rw [hz]; simp)
  rw [← hz]
  have HN1 : Hid ((Try.prog.info? 50).map (·.size) = some (NV v z none 0 0).size) := hid (by rw [NV_size HZ.out]; exact sz50)
  have HN2 : Hid ((NV 0 z none 0 0).size = (NV v z none 0 0).size) := hid (by rw [NV_size HZ.out, NV_size HZ.out])
  have hv1' : (v == 1) = false := by simp [hv1]
  go_enter Try.func91, Try.ntmps91
  go_wp2_with (first
    | (go_at_call 100; refine (NUM _ (Ext.rfl'.al _)).out.mono ?_; rintro e w1 ⟨rfl, hR1, hg1⟩; rw [NV_lit, ← hz] at hg1; have B2 : Blk w1 w.heap.size 50 (NV 0 z none 0 0) := (Blk.new w 50 _).grown hg1 (by intro e; cases e; omega); clear NUM)
    | (refine fit (.store 50 (.tmp 3) (.tmp 7)) ?_; simp only [NV_lit]; rw [← hz]; refine wpl_fresh rfl 50 (.tmp 3) (.tmp 7) rfl rfl rfl HN1.out HN2.out NV_one ?_; intro W1 E1 B3 hs1; have c0 := (B3.cell 0).trans NV0)
    | (go_at_call 100; refine (Num1 (hR1.ext E1) (by simp; have := HP.out; omega) (by simp; have := HP2.out; omega) c1 HC1.out).mono ?_; rintro e w2 ⟨rfl, hR2, hg2⟩))
  -- the two ways
  · have hmm : (m : Int) = 6 := by have := HCM.out; split at this <;> omega
    rename_i Q' K hK
    obtain ⟨q, hq⟩ : ∃ q, q = w.heap.size := ⟨_, rfl⟩
    obtain ⟨q3, hq3⟩ : ∃ q3, q3 = w1.heap.size := ⟨_, rfl⟩
    have hqq : q + 1 ≤ q3 := by have := hg1.size; simp at this; omega
    have hgq : g < q := by omega
    rw [← hq] at B2
    rw [← hq3] at B3
    rw [← hq, ← hq3]
    have C3 := B3.grown hg2 (by intro e; cases e; omega)
    have C2 := (B2.ext E1).grown hg2 (by intro e; cases e; omega)
    have g2 := gb_gb (gb_ext (ext_gb (Ext.rfl'.al _) hg1) E1) hg2
    rw [List.drop_drop] at hR2
    have HQ := hid hq
    have HMM := hid hmm
    have hm6 : m ≤ 6 := by omega
    obtain ⟨i6, hi, hz0, hz1, hz2⟩ := info_parts info60
    have HI := hid hi
    have HI0 := hid hz0
    have HI1 := hid hz1
    have HI2 := hid hz2
    clear hi hz0 hz1 hz2 hq hq3 hmm B2 B3 E1 hg1 hg2 hR1 hs1 c0 hz hg h hc0 hc2
    go_loopw [20] (fun i wr => ∃ (j : Nat) (A : Option Addr) (c : Nat), j ≤ m ∧ i = .int .u64 j ∧ Blk wr q3 50 (NV v z A j c) ∧ Blk wr q 50 (NV 0 z none 0 0) ∧ Own wr (q3 + 1) 60 2 A j c (EV (ents j (p.drop 2))) ∧ RdAt wr g (p.drop (2 + 2 * j)) false ∧ w.grownBy wr (some g)) (fun i _ => m - (intOf i).toNat)
    case atStart => exact ⟨0, none, 0, by omega, rfl, C3, C2, Own.nil, hR2, g2⟩
    case round =>
      clear C3 C2 g2 hR2
      obtain ⟨j, A, c, hj, rfl, D3, D2, hown, hRd, hgg⟩ := hrel
      by_cases hlt : j < m
      · have hlt2 : (j : Int) < 6 := by have := HMM.out; omega
        obtain ⟨a, ha⟩ : ∃ a : Int, a = (leN ((p.drop (2 + 2 * j)).take 1) : Int) := ⟨_, rfl⟩
        obtain ⟨y, hy⟩ : ∃ y : Int, y = (leN (((p.drop (2 + 2 * j)).drop 1).take 1) : Int) := ⟨_, rfl⟩
        have ha0 : 0 ≤ a := by omega
        have ha1 : a < 256 := by have := leN1 (p.drop (2 + 2 * j)); omega
        have hy0 : 0 ≤ y := by omega
        have hy1 : y < 256 := by have := leN1 ((p.drop (2 + 2 * j)).drop 1); omega
        have hsn : ents (j + 1) (p.drop 2) = ents j (p.drop 2) ++ [(a, y)] := by
          rw [ents_snoc, ha, hy]
          simp only [List.drop_drop]
          rw [show 2 + (2 * j + 1) = 2 + 2 * j + 1 by omega]
        have HSN := hid hsn
        have HA := hid ha
        have HY := hid hy
        clear hsn ha hy
        have hwa : IntKind.i64.wrap a = a := by rw [IntKind.wrap_i64]; omega
        have hwy : IntKind.i64.wrap y = y := by rw [IntKind.wrap_i64]; omega
        go_wp2
        rename_i K3 hK3
        have HD3 := hid D3.dr1
        have HD2 := hid D2.dr1
        have HOW := hid hown.dr1
        have HRD := hid hRd.dr1
        have hsz := D3.lt
        have HGG := hid hgg
        clear D3 D2 hown hRd hgg
        refine seqL (fun W => Blk W q3 50 (NV v z A j c)) [0, 1, 2, 5, 3, 4, 6, 7, 8, 9, 10, 11] 12 (by kernel_rfl) (by kernel_rfl) (by kernel_rfl) (by decide) (fun _ _ _ _ _ h => h) HD3.out ?_
        refine seq_take (v := ?_) rfl rfl rfl (fun W hW => ?_) ?_
        rotate_left
        · go_simp
          rfl
        try simp only [Act.put, List.getElem_toArray, List.getElem_cons_zero, List.getElem_cons_succ, List.setIfInBounds_toArray, List.set_cons_zero, List.set_cons_succ]
        refine seq_take (v := ?_) rfl rfl rfl (fun W hW => ?_) ?_
        rotate_left
        · have c17 := (hW.cell 17).trans (NV17 HZ.out);go_simp
          rfl
        try simp only [Act.put, List.getElem_toArray, List.getElem_cons_zero, List.getElem_cons_succ, List.setIfInBounds_toArray, List.set_cons_zero, List.set_cons_succ]
        refine seq_take (v := ?_) rfl rfl rfl (fun W hW => ?_) ?_
        rotate_left
        · go_simp
          rfl
        try simp only [Act.put, List.getElem_toArray, List.getElem_cons_zero, List.getElem_cons_succ, List.setIfInBounds_toArray, List.set_cons_zero, List.set_cons_succ]
        refine seq_take (v := ?_) rfl rfl rfl (fun W hW => ?_) ?_
        rotate_left
        · go_simp
          rfl
        try simp only [Act.put, List.getElem_toArray, List.getElem_cons_zero, List.getElem_cons_succ, List.setIfInBounds_toArray, List.set_cons_zero, List.set_cons_succ]
        refine seq_do rfl rfl rfl ?_
        go_simp
        go_at_call 100
        refine (Num1 HRD.out (by simp; have := HP.out; omega) (by simp; have := HP2.out; omega) a HA.out).mono ?_
        rintro e w3 ⟨rfl, hR3, hg3⟩
        have E3 := HD3.out.grown hg3 (by intro e; cases e; omega)
        refine ⟨E3, ?_⟩
        try simp only [Act.put, List.getElem_toArray, List.getElem_cons_zero, List.getElem_cons_succ, List.setIfInBounds_toArray, List.set_cons_zero, List.set_cons_succ]
        refine seq_take (v := ?_) rfl rfl rfl (fun W hW => ?_) ?_
        rotate_left
        · go_simp
          rfl
        try simp only [Act.put, List.getElem_toArray, List.getElem_cons_zero, List.getElem_cons_succ, List.setIfInBounds_toArray, List.set_cons_zero, List.set_cons_succ]
        refine seq_do rfl rfl rfl ?_
        go_simp
        go_at_call 100
        refine (Num1 hR3 (by simp; have := HP.out; omega) (by simp; have := HP2.out; omega) y HY.out).mono ?_
        rintro e w4 ⟨rfl, hR4, hg4⟩
        have F3 := E3.grown hg4 (by intro e; cases e; omega)
        refine ⟨F3, ?_⟩
        try simp only [Act.put, List.getElem_toArray, List.getElem_cons_zero, List.getElem_cons_succ, List.setIfInBounds_toArray, List.set_cons_zero, List.set_cons_succ]
        refine seq_take (v := ?_) rfl rfl rfl (fun W hW => ?_) ?_
        rotate_left
        · go_simp
          rfl
        try simp only [Act.put, List.getElem_toArray, List.getElem_cons_zero, List.getElem_cons_succ, List.setIfInBounds_toArray, List.set_cons_zero, List.set_cons_succ]
        refine seq_take (v := ?_) rfl rfl rfl (fun W hW => ?_) ?_
        rotate_left
        · go_simp
          rfl
        try simp only [Act.put, List.getElem_toArray, List.getElem_cons_zero, List.getElem_cons_succ, List.setIfInBounds_toArray, List.set_cons_zero, List.set_cons_succ]
        refine seq_do rfl rfl rfl ?_
        go_simp
        refine ⟨F3.al _, ?_⟩
        try simp only [Act.put, List.getElem_toArray, List.getElem_cons_zero, List.getElem_cons_succ, List.setIfInBounds_toArray, List.set_cons_zero, List.set_cons_succ]
        have hk : ∀ k, q3 + 1 ≤ k → some k ≠ some g := fun k h e => by cases e; omega
        have O4 := (HOW.out.kept hg3 hk).kept hg4 hk
        have O5 := O4.al (.cells #[.int .i64 a, .int .i64 y] 60)
        refine seq_do rfl rfl rfl ?_
        refine wp_app (.tmp 23) (.tmp 31) 48 rfl Try.underlying48 HI.out HI0.out HI1.out HI2.out rfl (by omega) rfl O5 rfl (ys := [.int .i64 a, .int .i64 y]) rfl (Rd.new rfl rfl) (by simp [Value.oneCell']) (by unfold maxLen; omega) (by omega) (by simp; have := F3.lt; omega) ?_
        intro A' c' W5 hown5 hg5
        have hrow : ∀ n, n ≤ q3 → some n ≠ (Value.slice A j c).ownBlock := fun n hn e => by have := (O5.block n e.symm).1; omega
        have G3 := (F3.al (.cells #[.int .i64 a, .int .i64 y] 60)).grown hg5 (hrow q3 (Nat.le_refl _))
        refine ⟨G3, ?_⟩
        try simp only [Act.put, List.getElem_toArray, List.getElem_cons_zero, List.getElem_cons_succ, List.setIfInBounds_toArray, List.set_cons_zero, List.set_cons_succ]
        refine seq_take (v := ?_) rfl rfl rfl (fun W hW => ?_) ?_
        rotate_left
        · go_simp
          rfl
        try simp only [Act.put, List.getElem_toArray, List.getElem_cons_zero, List.getElem_cons_succ, List.setIfInBounds_toArray, List.set_cons_zero, List.set_cons_succ]
        have cc := (G3.cell 17).trans (NV17 HZ.out)
        have fz := G3.frozen 17
        refine seq_last rfl rfl ?_
        go_simp
        have D2' := (((HD2.out.grown hg3 (by intro e; cases e; omega)).grown hg4 (by intro e; cases e; omega)).al (.cells #[.int .i64 a, .int .i64 y] 60)).grown hg5 (hrow q (by omega))
        have HGF := hid (gb_gb (gb_gb (gb_ext HGG.out Ext.rfl'.dr1) hg3) hg4)
        have hR5 := hR4.ext (Ext.rfl'.al (.cells #[.int .i64 a, .int .i64 y] 60))
        refine hK3 _ _ ?_
        go_wp2
        go_roundw
        case rel =>
          refine ⟨j + 1, A', c', by omega, by go_num, ?_, D2'.far (by show q ≠ q3; omega) _, ?_, ?_, ?_⟩
          · have := G3.set_ 17 (.slice A' (j + 1) c')
            rwa [NV_set17 _ _ _ _ _ _ _ _ HZ.out] at this
          · rw [HSN.out]
            have e : EV (ents j (p.drop 2) ++ [(a, y)]) = EV (ents j (p.drop 2)) ++ [.int .i64 a, .int .i64 y] := by simp [EV]
            rw [e]
            exact hown5.set_ (by show q3 < q3 + 1; omega) _
          · obtain ⟨A9, c9, B9, R9, h9, b9⟩ := hR5.out
            have hg9 : g ≤ q3 := by omega
            have e : ((p.drop (2 + 2 * j)).drop 1).drop 1 = p.drop (2 + 2 * (j + 1)) := by rw [List.drop_drop, List.drop_drop]; congr 1
            rw [e] at B9 R9 h9
            refine ⟨A9, c9, (B9.grown hg5 (hrow g hg9)).far (by show g ≠ q3; omega) _, ?_, h9, b9⟩
            refine ⟨fun h0 => ?_⟩
            obtain ⟨ad, rfl, hc⟩ := R9.out h0
            refine ⟨ad, rfl, fun k u hu => ?_⟩
            have hcell := hc k u hu
            have hbk : (ad.add k).block < g := by rw [block_of_add]; exact b9 ad rfl
            have hlt9 := World.block_lt_of_cell? _ _ hcell
            have h5 := hg5.block (ad.add k).block hlt9 (hrow _ (by omega))
            have h6 := (Below.heap_setCell W5 ⟨q3, 17, none⟩ (.slice A' (j + 1) c') (ad.add k).block (by show _ ≠ q3; omega)).trans h5
            simpa [World.cell?, h6] using hcell
          · have := HGF.out
            refine gb_bel (B := q) ?_ ((Below.refl q W5).setCell (by show q ≤ q3; omega) _) (by have := HQ.out; omega)
            refine gb_bel (gb_ext this (Ext.rfl'.al (.cells #[.int .i64 a, .int .i64 y] 60))) (B := q) ((Below.refl q _).grown hg5 (by simp; have := F3.lt; omega) (fun k e => by have := (O5.block k e).1; omega)) (by have := HQ.out; omega)
        case measure => simp [intOf]; omega
      · obtain rfl : j = m := by omega
        have hlt2 : ¬ (j : Int) < 6 := by have := HMM.out; omega
        have HS3 : Hid ((Try.prog.info? 50).map (·.size) = some (NV v z A j c).size) := hid (by rw [NV_size HZ.out]; exact sz50)
        have HS2 : Hid ((NV 0 z none 0 0).size = (NV v z A j c).size) := hid (by rw [NV_size HZ.out, NV_size HZ.out])
        go_wp2_with (first
          | (refine fit (.load 50 (.tmp 3)) ?_; refine wpl_do rfl (wp_load 50 (.tmp 3) rfl rfl D3 Try.underlying50 rfl HS3.out ?_))
          | (refine fit (.store 50 (.tmp 2) (.tmp 35)) ?_; refine wpl_store rfl 50 (.tmp 2) (.tmp 35) rfl rfl rfl D2 HS3.out HS2.out NV_one ?_; intro W6 hW6 G6 hb6 hf6 hs6))
        refine ret_cell rfl rfl G6 Try.underlying50 rfl HS3.out rfl ⟨A, ⟨c, rfl⟩, ?_, fun ad ha => (by subst ha; have := (hown.block ad.block rfl).1; have := HQ.out; omega), gb_bel hgg hb6 (by have := HQ.out; omega)⟩
        have gk : wr.grownBy W6 (some q) := by
          have hw := hW6.out
          rw [hw]
          exact ⟨rfl, rfl, rfl, by simp [World.setRow], fun i hi hne => setRow_other _ _ _ _ (fun e => hne (by rw [e]))⟩
        exact (hown.kept gk (fun k h e => by cases e; omega)).rd
  · have hmm : (m : Int) = c1 := by have := HCM.out; split at this <;> omega
    rename_i Q' K hK
    obtain ⟨q, hq⟩ : ∃ q, q = w.heap.size := ⟨_, rfl⟩
    obtain ⟨q3, hq3⟩ : ∃ q3, q3 = w1.heap.size := ⟨_, rfl⟩
    have hqq : q + 1 ≤ q3 := by have := hg1.size; simp at this; omega
    have hgq : g < q := by omega
    rw [← hq] at B2
    rw [← hq3] at B3
    rw [← hq, ← hq3]
    have C3 := B3.grown hg2 (by intro e; cases e; omega)
    have C2 := (B2.ext E1).grown hg2 (by intro e; cases e; omega)
    have g2 := gb_gb (gb_ext (ext_gb (Ext.rfl'.al _) hg1) E1) hg2
    rw [List.drop_drop] at hR2
    have HQ := hid hq
    have HMM := hid hmm
    have hm6 : m ≤ 6 := by omega
    obtain ⟨i6, hi, hz0, hz1, hz2⟩ := info_parts info60
    have HI := hid hi
    have HI0 := hid hz0
    have HI1 := hid hz1
    have HI2 := hid hz2
    clear hi hz0 hz1 hz2 hq hq3 hmm B2 B3 E1 hg1 hg2 hR1 hs1 c0 hz hg h hc0 hc2
    go_loopw [20] (fun i wr => ∃ (j : Nat) (A : Option Addr) (c : Nat), j ≤ m ∧ i = .int .u64 j ∧ Blk wr q3 50 (NV v z A j c) ∧ Blk wr q 50 (NV 0 z none 0 0) ∧ Own wr (q3 + 1) 60 2 A j c (EV (ents j (p.drop 2))) ∧ RdAt wr g (p.drop (2 + 2 * j)) false ∧ w.grownBy wr (some g)) (fun i _ => m - (intOf i).toNat)
    case atStart => exact ⟨0, none, 0, by omega, rfl, C3, C2, Own.nil, hR2, g2⟩
    case round =>
      clear C3 C2 g2 hR2
      obtain ⟨j, A, c, hj, rfl, D3, D2, hown, hRd, hgg⟩ := hrel
      by_cases hlt : j < m
      · have hlt2 : (j : Int) < c1 := by have := HMM.out; omega
        obtain ⟨a, ha⟩ : ∃ a : Int, a = (leN ((p.drop (2 + 2 * j)).take 1) : Int) := ⟨_, rfl⟩
        obtain ⟨y, hy⟩ : ∃ y : Int, y = (leN (((p.drop (2 + 2 * j)).drop 1).take 1) : Int) := ⟨_, rfl⟩
        have ha0 : 0 ≤ a := by omega
        have ha1 : a < 256 := by have := leN1 (p.drop (2 + 2 * j)); omega
        have hy0 : 0 ≤ y := by omega
        have hy1 : y < 256 := by have := leN1 ((p.drop (2 + 2 * j)).drop 1); omega
        have hsn : ents (j + 1) (p.drop 2) = ents j (p.drop 2) ++ [(a, y)] := by
          rw [ents_snoc, ha, hy]
          simp only [List.drop_drop]
          rw [show 2 + (2 * j + 1) = 2 + 2 * j + 1 by omega]
        have HSN := hid hsn
        have HA := hid ha
        have HY := hid hy
        clear hsn ha hy
        have hwa : IntKind.i64.wrap a = a := by rw [IntKind.wrap_i64]; omega
        have hwy : IntKind.i64.wrap y = y := by rw [IntKind.wrap_i64]; omega
        go_wp2
        rename_i K3 hK3
        have HD3 := hid D3.dr1
        have HD2 := hid D2.dr1
        have HOW := hid hown.dr1
        have HRD := hid hRd.dr1
        have hsz := D3.lt
        have HGG := hid hgg
        clear D3 D2 hown hRd hgg
        refine seqL (fun W => Blk W q3 50 (NV v z A j c)) [0, 1, 2, 5, 3, 4, 6, 7, 8, 9, 10, 11] 12 (by kernel_rfl) (by kernel_rfl) (by kernel_rfl) (by decide) (fun _ _ _ _ _ h => h) HD3.out ?_
        refine seq_take (v := ?_) rfl rfl rfl (fun W hW => ?_) ?_
        rotate_left
        · go_simp
          rfl
        try simp only [Act.put, List.getElem_toArray, List.getElem_cons_zero, List.getElem_cons_succ, List.setIfInBounds_toArray, List.set_cons_zero, List.set_cons_succ]
        refine seq_take (v := ?_) rfl rfl rfl (fun W hW => ?_) ?_
        rotate_left
        · have c17 := (hW.cell 17).trans (NV17 HZ.out);go_simp
          rfl
        try simp only [Act.put, List.getElem_toArray, List.getElem_cons_zero, List.getElem_cons_succ, List.setIfInBounds_toArray, List.set_cons_zero, List.set_cons_succ]
        refine seq_take (v := ?_) rfl rfl rfl (fun W hW => ?_) ?_
        rotate_left
        · go_simp
          rfl
        try simp only [Act.put, List.getElem_toArray, List.getElem_cons_zero, List.getElem_cons_succ, List.setIfInBounds_toArray, List.set_cons_zero, List.set_cons_succ]
        refine seq_take (v := ?_) rfl rfl rfl (fun W hW => ?_) ?_
        rotate_left
        · go_simp
          rfl
        try simp only [Act.put, List.getElem_toArray, List.getElem_cons_zero, List.getElem_cons_succ, List.setIfInBounds_toArray, List.set_cons_zero, List.set_cons_succ]
        refine seq_do rfl rfl rfl ?_
        go_simp
        go_at_call 100
        refine (Num1 HRD.out (by simp; have := HP.out; omega) (by simp; have := HP2.out; omega) a HA.out).mono ?_
        rintro e w3 ⟨rfl, hR3, hg3⟩
        have E3 := HD3.out.grown hg3 (by intro e; cases e; omega)
        refine ⟨E3, ?_⟩
        try simp only [Act.put, List.getElem_toArray, List.getElem_cons_zero, List.getElem_cons_succ, List.setIfInBounds_toArray, List.set_cons_zero, List.set_cons_succ]
        refine seq_take (v := ?_) rfl rfl rfl (fun W hW => ?_) ?_
        rotate_left
        · go_simp
          rfl
        try simp only [Act.put, List.getElem_toArray, List.getElem_cons_zero, List.getElem_cons_succ, List.setIfInBounds_toArray, List.set_cons_zero, List.set_cons_succ]
        refine seq_do rfl rfl rfl ?_
        go_simp
        go_at_call 100
        refine (Num1 hR3 (by simp; have := HP.out; omega) (by simp; have := HP2.out; omega) y HY.out).mono ?_
        rintro e w4 ⟨rfl, hR4, hg4⟩
        have F3 := E3.grown hg4 (by intro e; cases e; omega)
        refine ⟨F3, ?_⟩
        try simp only [Act.put, List.getElem_toArray, List.getElem_cons_zero, List.getElem_cons_succ, List.setIfInBounds_toArray, List.set_cons_zero, List.set_cons_succ]
        refine seq_take (v := ?_) rfl rfl rfl (fun W hW => ?_) ?_
        rotate_left
        · go_simp
          rfl
        try simp only [Act.put, List.getElem_toArray, List.getElem_cons_zero, List.getElem_cons_succ, List.setIfInBounds_toArray, List.set_cons_zero, List.set_cons_succ]
        refine seq_take (v := ?_) rfl rfl rfl (fun W hW => ?_) ?_
        rotate_left
        · go_simp
          rfl
        try simp only [Act.put, List.getElem_toArray, List.getElem_cons_zero, List.getElem_cons_succ, List.setIfInBounds_toArray, List.set_cons_zero, List.set_cons_succ]
        refine seq_do rfl rfl rfl ?_
        go_simp
        refine ⟨F3.al _, ?_⟩
        try simp only [Act.put, List.getElem_toArray, List.getElem_cons_zero, List.getElem_cons_succ, List.setIfInBounds_toArray, List.set_cons_zero, List.set_cons_succ]
        have hk : ∀ k, q3 + 1 ≤ k → some k ≠ some g := fun k h e => by cases e; omega
        have O4 := (HOW.out.kept hg3 hk).kept hg4 hk
        have O5 := O4.al (.cells #[.int .i64 a, .int .i64 y] 60)
        refine seq_do rfl rfl rfl ?_
        refine wp_app (.tmp 23) (.tmp 31) 48 rfl Try.underlying48 HI.out HI0.out HI1.out HI2.out rfl (by omega) rfl O5 rfl (ys := [.int .i64 a, .int .i64 y]) rfl (Rd.new rfl rfl) (by simp [Value.oneCell']) (by unfold maxLen; omega) (by omega) (by simp; have := F3.lt; omega) ?_
        intro A' c' W5 hown5 hg5
        have hrow : ∀ n, n ≤ q3 → some n ≠ (Value.slice A j c).ownBlock := fun n hn e => by have := (O5.block n e.symm).1; omega
        have G3 := (F3.al (.cells #[.int .i64 a, .int .i64 y] 60)).grown hg5 (hrow q3 (Nat.le_refl _))
        refine ⟨G3, ?_⟩
        try simp only [Act.put, List.getElem_toArray, List.getElem_cons_zero, List.getElem_cons_succ, List.setIfInBounds_toArray, List.set_cons_zero, List.set_cons_succ]
        refine seq_take (v := ?_) rfl rfl rfl (fun W hW => ?_) ?_
        rotate_left
        · go_simp
          rfl
        try simp only [Act.put, List.getElem_toArray, List.getElem_cons_zero, List.getElem_cons_succ, List.setIfInBounds_toArray, List.set_cons_zero, List.set_cons_succ]
        have cc := (G3.cell 17).trans (NV17 HZ.out)
        have fz := G3.frozen 17
        refine seq_last rfl rfl ?_
        go_simp
        have D2' := (((HD2.out.grown hg3 (by intro e; cases e; omega)).grown hg4 (by intro e; cases e; omega)).al (.cells #[.int .i64 a, .int .i64 y] 60)).grown hg5 (hrow q (by omega))
        have HGF := hid (gb_gb (gb_gb (gb_ext HGG.out Ext.rfl'.dr1) hg3) hg4)
        have hR5 := hR4.ext (Ext.rfl'.al (.cells #[.int .i64 a, .int .i64 y] 60))
        refine hK3 _ _ ?_
        go_wp2
        go_roundw
        case rel =>
          refine ⟨j + 1, A', c', by omega, by go_num, ?_, D2'.far (by show q ≠ q3; omega) _, ?_, ?_, ?_⟩
          · have := G3.set_ 17 (.slice A' (j + 1) c')
            rwa [NV_set17 _ _ _ _ _ _ _ _ HZ.out] at this
          · rw [HSN.out]
            have e : EV (ents j (p.drop 2) ++ [(a, y)]) = EV (ents j (p.drop 2)) ++ [.int .i64 a, .int .i64 y] := by simp [EV]
            rw [e]
            exact hown5.set_ (by show q3 < q3 + 1; omega) _
          · obtain ⟨A9, c9, B9, R9, h9, b9⟩ := hR5.out
            have hg9 : g ≤ q3 := by omega
            have e : ((p.drop (2 + 2 * j)).drop 1).drop 1 = p.drop (2 + 2 * (j + 1)) := by rw [List.drop_drop, List.drop_drop]; congr 1
            rw [e] at B9 R9 h9
            refine ⟨A9, c9, (B9.grown hg5 (hrow g hg9)).far (by show g ≠ q3; omega) _, ?_, h9, b9⟩
            refine ⟨fun h0 => ?_⟩
            obtain ⟨ad, rfl, hc⟩ := R9.out h0
            refine ⟨ad, rfl, fun k u hu => ?_⟩
            have hcell := hc k u hu
            have hbk : (ad.add k).block < g := by rw [block_of_add]; exact b9 ad rfl
            have hlt9 := World.block_lt_of_cell? _ _ hcell
            have h5 := hg5.block (ad.add k).block hlt9 (hrow _ (by omega))
            have h6 := (Below.heap_setCell W5 ⟨q3, 17, none⟩ (.slice A' (j + 1) c') (ad.add k).block (by show _ ≠ q3; omega)).trans h5
            simpa [World.cell?, h6] using hcell
          · have := HGF.out
            refine gb_bel (B := q) ?_ ((Below.refl q W5).setCell (by show q ≤ q3; omega) _) (by have := HQ.out; omega)
            refine gb_bel (gb_ext this (Ext.rfl'.al (.cells #[.int .i64 a, .int .i64 y] 60))) (B := q) ((Below.refl q _).grown hg5 (by simp; have := F3.lt; omega) (fun k e => by have := (O5.block k e).1; omega)) (by have := HQ.out; omega)
        case measure => simp [intOf]; omega
      · obtain rfl : j = m := by omega
        have hlt2 : ¬ (j : Int) < c1 := by have := HMM.out; omega
        have HS3 : Hid ((Try.prog.info? 50).map (·.size) = some (NV v z A j c).size) := hid (by rw [NV_size HZ.out]; exact sz50)
        have HS2 : Hid ((NV 0 z none 0 0).size = (NV v z A j c).size) := hid (by rw [NV_size HZ.out, NV_size HZ.out])
        go_wp2_with (first
          | (refine fit (.load 50 (.tmp 3)) ?_; refine wpl_do rfl (wp_load 50 (.tmp 3) rfl rfl D3 Try.underlying50 rfl HS3.out ?_))
          | (refine fit (.store 50 (.tmp 2) (.tmp 35)) ?_; refine wpl_store rfl 50 (.tmp 2) (.tmp 35) rfl rfl rfl D2 HS3.out HS2.out NV_one ?_; intro W6 hW6 G6 hb6 hf6 hs6))
        refine ret_cell rfl rfl G6 Try.underlying50 rfl HS3.out rfl ⟨A, ⟨c, rfl⟩, ?_, fun ad ha => (by subst ha; have := (hown.block ad.block rfl).1; have := HQ.out; omega), gb_bel hgg hb6 (by have := HQ.out; omega)⟩
        have gk : wr.grownBy W6 (some q) := by
          have hw := hW6.out
          rw [hw]
          exact ⟨rfl, rfl, rfl, by simp [World.setRow], fun i hi hne => setRow_other _ _ _ _ (fun e => hne (by rw [e]))⟩
        exact (hown.kept gk (fun k h e => by cases e; omega)).rd
end Go.Proofs.Ytnggcldghpmeaaa
