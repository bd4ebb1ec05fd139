/- The stand-in for a disk: a page written, walked. -/
import Derived.Test.YtnggcldghpmeaaaD4
import Derived.Test.YtnggcldghpmeaaaBld
set_option linter.unusedVariables false
set_option linter.unusedSimpArgs false
set_option maxRecDepth 100000
namespace Go.Proofs.Ytnggcldghpmeaaa
open Go.RowKit
attribute [local irreducible] Calls
section
variable {w : World} {lo g S M ck pc : Nat} {ds : DS} {Pd : Option Addr}
set_option maxHeartbeats 1000000 in
theorem act_free (D : DiskAt w lo g ds S M ck Pd pc) (hl : ds.left = -1) (hd : ds.down = false) : Calls Try.prog 146 #[.pointer (some ⟨g, 0, none⟩)] w fun e w' => e = .returned (.int .i64 0) ∧ w = w' := by
  have c3 : w.cell? ⟨g, 3, none⟩ = some (.int .i64 (-1)) := by have := D.blk.cell 3; rw [hl] at this; exact this
  have c4 : w.cell? ⟨g, 4, none⟩ = some (.bool false) := by have := D.blk.cell 4; rw [hd] at this; exact this
  clear D hl hd
  go_enter Try.func146, Try.ntmps146
  go_wp2
  go_ret
  exact ⟨rfl, rfl⟩
theorem info215 : (Try.prog.info? 215).map (fun i => (i.zero, i.size, i.bytes)) = some (some (.agg Try.zeroCells215), 257, 264) := by kernel_rfl
theorem build215 (w : World) (y : Int) (p : List UInt8) (hp : p.length = 256) : (Instr.build 215 #[(0, .int .i64 y), (1, .agg (BV p).toArray)]).run Try.prog w = .ok (.agg (.int .i64 y :: BV p).toArray) w := by
  obtain ⟨i0, hi, hz0, hz1, hz2⟩ := info_parts info215
  obtain ⟨i3, hi3, hz03, hz13, hz23⟩ := info_parts info3
  obtain ⟨i28, hi28, hz028, hz128, hz228⟩ := info_parts info28
  have hf := fun (place : Nat → Option (Nat × Nat)) (h0 : place 0 = some (0, 1)) (h1 : place 1 = some (1, 256)) => fill_two Try.zeroCells215 #[.int .i64 y] (BV p).toArray place (.int .i64 y) (.agg (BV p).toArray) rfl rfl h0 (by rw [h1]; simp [BV_length, hp]) (by rw [zs215]; simp [BV_length, hp])
  generalize Try.zeroCells215 = Z at *
  unfold Instr.build
  simp only [zeroValue, typeInfo, hi, hz0, Sem.run_bind, Sem.run_pure, Result.andThen_ok, run_underlying Try.underlying215, sizeOf, hi28, hz13, hz128, Value.cells, run_program]
  simp [Array.mapM_eq_mapM_toList, typeInfo, hi3, hi28, hz13, hz128]
  rw [hf _ (by simp) (by simp)]
  rfl
theorem PD_snoc (l : List (Nat × List UInt8)) (q : Nat × List UInt8) : PD (l ++ [q]) = PD l ++ (.int .i64 q.1 :: BV q.2) := by simp [PD]
set_option maxHeartbeats 2000000 in
theorem DWrite_calls (D : DiskAt w lo g ds S M ck Pd pc) (hl : ds.left = -1) (hd : ds.down = false) (i : Nat) (hi : i < ds.st.length) (y : Int) (hy : y = i) (p : List UInt8) (hp : p.length = 256) (hpl : ds.pend.length ≤ 1000) :
    Calls Try.prog 71 #[.pointer (some ⟨g, 0, none⟩), .int .i64 y, .agg (BV p).toArray] w fun e w' => ∃ Pd' pc', e = .returned (.int .i64 0) ∧ DiskAt w' lo g { ds with pend := ds.pend ++ [(i, p)] } S M ck Pd' pc' ∧ Below lo w w' ∧ ∀ b t cs, b ≠ g → some b ≠ (Value.slice Pd ds.pend.length pc).ownBlock → Blk w b t cs → Blk w' b t cs := by
  have T := fun W (h : Ext w W) => hid (there_calls (D.ext h) y (by omega) true (by simp; omega))
  have A := fun W (h : Ext w W) => hid (act_free (D.ext h) hl hd)
  have c2 : ∀ W, Ext w W → W.cell? ⟨g, 2, none⟩ = some (.slice Pd ds.pend.length pc) := fun W h => (D.ext h).blk.cell 2
  have HD := hid D
  have HP := hid hp
  have HS := hid (BV_size sz28 hp)
  have HY := hid hy
  have hg := D.blk.lt
  clear D hl hd hp hy hi
  go_enter Try.func71, Try.ntmps71
  go_wp2_with (first
    | (go_at_call 145; refine (T _ (Ext.rfl'.al _)).out.mono ?_; rintro e w1 ⟨rfl, rfl⟩)
    | (go_at_call 146; refine (A _ (Ext.rfl'.al _)).out.mono ?_; rintro e w1 ⟨rfl, rfl⟩))
  rename_i Q' K hK
  refine abs_w (fun W => Ext w W ∧ Blk W w.heap.size 28 (BV p).toArray) (fun W1 h1 => ?_) ⟨Ext.rfl'.al _, Blk.new _ _ _⟩
  obtain ⟨E0, B0⟩ := h1
  obtain ⟨q, hq⟩ : ∃ q, q = w.heap.size := ⟨_, rfl⟩
  rw [← hq] at B0 ⊢
  have HQ := hid hq
  have HD1 := hid (HD.out.ext E0)
  have HB0 := hid B0
  have hpn : ∀ k, (Value.slice Pd ds.pend.length pc).ownBlock = some k → g + 1 ≤ k ∧ k < q := by rw [hq]; exact HD.out.own.block
  have HPN := hid hpn
  clear hpn hq B0
  obtain ⟨i0, hi, hz0, hz1, hz2⟩ := info_parts info215
  have HI := hid hi
  have HI0 := hid hz0
  have HI1 := hid hz1
  have HI2 := hid hz2
  clear hi hz0 hz1 hz2
  refine seqL (fun W => W.cell? ⟨g, 2, none⟩ = some (.slice Pd ds.pend.length pc) ∧ Blk W q 28 (BV p).toArray) [0, 1, 2, 3, 4, 5, 6, 7, 8, 9, 10, 11] 12 (by kernel_rfl) (by kernel_rfl) (by kernel_rfl) (by decide) (fun _ _ _ _ _ h => h) ⟨HD1.out.dr1.blk.cell 2, HB0.out.dr1⟩ ?_
  refine seq_take (v := ?_) rfl rfl rfl (fun W hW => ?_) ?_
  rotate_left
  · go_simp
    rfl
  try simp only [Act.put, List.getElem_toArray, List.getElem_cons_zero, List.getElem_cons_succ, List.setIfInBounds_toArray, List.set_cons_zero, List.set_cons_succ]
  refine seq_take (v := ?_) rfl rfl rfl (fun W hW => ?_) ?_
  rotate_left
  · go_simp
    rfl
  try simp only [Act.put, List.getElem_toArray, List.getElem_cons_zero, List.getElem_cons_succ, List.setIfInBounds_toArray, List.set_cons_zero, List.set_cons_succ]
  refine seq_take (v := ?_) rfl rfl rfl (fun W hW => ?_) ?_
  rotate_left
  · go_simp
    rfl
  try simp only [Act.put, List.getElem_toArray, List.getElem_cons_zero, List.getElem_cons_succ, List.setIfInBounds_toArray, List.set_cons_zero, List.set_cons_succ]
  refine seq_take (v := ?_) rfl rfl rfl (fun W hW => ?_) ?_
  rotate_left
  · go_simp
    rfl
  try simp only [Act.put, List.getElem_toArray, List.getElem_cons_zero, List.getElem_cons_succ, List.setIfInBounds_toArray, List.set_cons_zero, List.set_cons_succ]
  refine seq_take (v := ?_) rfl rfl rfl (fun W hW => ?_) ?_
  rotate_left
  · have c2' := hW.1;go_simp
    rfl
  try simp only [Act.put, List.getElem_toArray, List.getElem_cons_zero, List.getElem_cons_succ, List.setIfInBounds_toArray, List.set_cons_zero, List.set_cons_succ]
  refine seq_take (v := ?_) rfl rfl rfl (fun W hW => ?_) ?_
  rotate_left
  · go_simp
    rfl
  try simp only [Act.put, List.getElem_toArray, List.getElem_cons_zero, List.getElem_cons_succ, List.setIfInBounds_toArray, List.set_cons_zero, List.set_cons_succ]
  refine seq_load rfl 28 (.tmp 5) rfl rfl rfl (fun W hW => hW.2) Try.underlying28 rfl HS.out ?_
  try simp only [Act.put, List.getElem_toArray, List.getElem_cons_zero, List.getElem_cons_succ, List.setIfInBounds_toArray, List.set_cons_zero, List.set_cons_succ]
  refine seq_take (v := .agg (.int .i64 y :: BV p).toArray) rfl rfl rfl (fun W hW => run_buildOp 215 _ rfl #[(0, .int .i64 y), (1, .agg (BV p).toArray)] rfl _ (build215 W y p HP.out)) ?_
  try simp only [Act.put, List.getElem_toArray, List.getElem_cons_zero, List.getElem_cons_succ, List.setIfInBounds_toArray, List.set_cons_zero, List.set_cons_succ]
  refine seq_do rfl rfl rfl ?_
  refine wp_buildOne 148 215 _ rfl (.int .i64 y :: BV p).toArray rfl Try.underlying148 HI.out HI0.out HI1.out (by simp [BV_length, HP.out]) (by omega) (by omega) ?_
  have HD2 := hid (HD1.out.dr1.ext (Ext.rfl'.al (.cells (Value.int .i64 y :: BV p).toArray 215)))
  have HB2 := hid (HB0.out.dr1.al (.cells (Value.int .i64 y :: BV p).toArray 215))
  refine ⟨⟨HD2.out.blk.cell 2, HB2.out⟩, ?_⟩
  try simp only [Act.put, List.getElem_toArray, List.getElem_cons_zero, List.getElem_cons_succ, List.setIfInBounds_toArray, List.set_cons_zero, List.set_cons_succ]
  refine seq_do rfl rfl rfl ?_
  refine wp_app (.tmp 20) (.tmp 24) 148 rfl Try.underlying148 HI.out HI0.out HI1.out HI2.out zs215 (by omega) rfl HD2.out.own rfl (ys := .int .i64 y :: BV p) (by simp [BV_length, HP.out]) ((Blk.new _ 215 _).rd 0) (by intro u hu; rcases List.mem_cons.1 hu with rfl | h; rfl; exact BV_one _ u h) (by unfold maxLen; omega) (by omega) (by have := HD2.out.blk.lt; omega) ?_
  intro A' c' W3 hown3 hg3
  try simp only [Act.put, List.getElem_toArray, List.getElem_cons_zero, List.getElem_cons_succ, List.setIfInBounds_toArray, List.set_cons_zero, List.set_cons_succ]
  have hne : ∀ n, n < g + 1 ∨ n = q → some n ≠ (Value.slice Pd ds.pend.length pc).ownBlock := by
    intro n hn h
    have := HPN.out n h.symm
    omega
  have G3 : Blk W3 g 150 _ := HD2.out.blk.grown hg3 (hne _ (.inl (by omega)))
  have B3 := HB2.out.grown hg3 (hne _ (.inr rfl))
  refine ⟨⟨?_, B3⟩, ?_⟩
  · exact G3.cell 2
  try simp only [Act.put, List.getElem_toArray, List.getElem_cons_zero, List.getElem_cons_succ, List.setIfInBounds_toArray, List.set_cons_zero, List.set_cons_succ]
  refine seq_take (v := ?_) rfl rfl rfl (fun W hW => ?_) ?_
  rotate_left
  · go_simp
    rfl
  try simp only [Act.put, List.getElem_toArray, List.getElem_cons_zero, List.getElem_cons_succ, List.setIfInBounds_toArray, List.set_cons_zero, List.set_cons_succ]
  refine seq_take (v := ?_) rfl rfl rfl (fun W hW => ?_) ?_
  rotate_left
  · go_simp
    rfl
  try simp only [Act.put, List.getElem_toArray, List.getElem_cons_zero, List.getElem_cons_succ, List.setIfInBounds_toArray, List.set_cons_zero, List.set_cons_succ]
  have cc : W3.cell? ⟨g, 2, none⟩ = some (.slice Pd ds.pend.length pc) := G3.cell 2
  have fz := G3.frozen 2
  refine seq_last rfl rfl ?_
  go_simp
  refine hK _ _ ?_
  go_wp2
  go_ret
  have D2 := HD2.out
  have hSg : S < g := Nat.lt_trans D2.o2 D2.o3
  have hlo : lo ≤ S := D2.o1
  have hgW := D2.blk.lt
  refine ⟨A', c', rfl, ⟨?_, ?_, ?_, ?_, D2.o1, D2.o2, D2.o3, D2.pg⟩, ?_, ?_⟩
  · have := G3.set_ 2 (.slice A' (ds.pend.length + 1) c')
    simpa using this
  · exact (D2.sb.grown hg3 (hne S (.inl (by omega)))).far (by show S ≠ g; omega) _
  · have hM := D2.o3
    exact (Below.heap_setCell _ _ _ M (by show M ≠ g; omega)).trans ((hg3.block M (by omega) (hne M (.inl (by omega)))).trans D2.mp)
  · show Own _ _ _ _ A' (ds.pend ++ [(i, p)]).length c' (PD (ds.pend ++ [(i, p)]))
    rw [PD_snoc, List.length_append, ← HY.out]
    exact hown3.set_ (by show g < g + 1; omega) _
  · have hB : Below lo w (W1.drew.alloc (.cells (Value.int .i64 y :: BV p).toArray 215)) := (E0.dr1.al _).mono (by omega)
    exact (hB.grown hg3 (by omega) (fun k hk => by have := HPN.out k hk; omega)).setCell (by show lo ≤ g; omega) _
  · intro b t cs hb hr hB
    exact (((hB.ext (E0.dr1.al _)).grown hg3 hr).far (by show b ≠ g; exact hb) _)
set_option maxHeartbeats 1000000 in
theorem TWrite_calls (D : DiskAt w lo g ds S M ck Pd pc) (hl : ds.left = -1) (hd : ds.down = false) (hlen : 4 ≤ ds.st.length) (hpl : ds.pend.length ≤ 1000) (gi : Int) (h0 : 0 ≤ gi) (hg : gi < 18446744073709551616) (c : List UInt8) (hc : c.length = 240) :
    Calls Try.prog 34 #[.pointer (some ⟨g, 0, none⟩), .int .u64 gi, .agg (BV c).toArray] w fun e w' => ∃ Pd' pc', e = .returned (.int .i64 0) ∧ DiskAt w' lo g { ds with pend := ds.pend ++ [((2 + gi % 2).toNat, pageB (leB 8 gi.toNat ++ c))] } S M ck Pd' pc' ∧ Below lo w w' := by
  have hpL : (pageB (leB 8 gi.toNat ++ c)).length = 256 := pageB_length _ (by simp [leB_length, hc])
  have Wr := fun W (h : Ext w W) => hid (DWrite_calls (D.ext h) hl hd (2 + gi % 2).toNat (by omega) (2 + gi % 2) (by omega) (pageB (leB 8 gi.toNat ++ c)) hpL hpl)
  have A := fun W => hid (Area_calls gi h0 W)
  have P := fun W => hid (Page_calls gi.toNat (by omega) c hc W)
  rw [Int.toNat_of_nonneg h0] at P
  generalize pageB (leB 8 gi.toNat ++ c) = p at *
  generalize (2 + gi % 2).toNat = i at *
  have HS := hid (BV_size sz31 hc)
  have hlo : lo ≤ w.heap.size := by have := D.o1; have := D.o2; have := D.o3; have := D.blk.lt; omega
  have HO := hid D.own.block
  have hgl := D.blk.lt
  clear D hl hd hc hg hpL hlen
  obtain ⟨a2, ha2⟩ : ∃ a2, a2 = 2 + gi % 2 := ⟨_, rfl⟩
  rw [← ha2] at A Wr
  clear ha2
  go_enter Try.func34, Try.ntmps34
  go_wp2
  refine abs_w (fun W => Ext w W ∧ Blk W w.heap.size 31 (BV c).toArray) (fun W1 h1 => ?_) ⟨Ext.rfl'.al _, Blk.new _ _ _⟩
  obtain ⟨E0, B0⟩ := h1
  obtain ⟨q, hq⟩ : ∃ q, q = w.heap.size := ⟨_, rfl⟩
  rw [← hq] at B0 ⊢
  have HQ := hid hq
  have HE0 := hid E0.dr1
  have HB0 := hid B0.dr1
  clear hq B0 E0
  refine seq (fun W => Blk W q 31 (BV c).toArray) [0, 1, 3, 4, 2, 5, 6, 7] (by kernel_rfl) (by kernel_rfl) (by kernel_rfl) (by decide) (fun _ _ _ _ _ h => h) HB0.out ?_
  refine seq_take (v := ?_) rfl rfl rfl (fun W hW => ?_) ?_
  rotate_left
  · go_simp
    rfl
  try simp only [Act.put, List.getElem_toArray, List.getElem_cons_zero, List.getElem_cons_succ, List.setIfInBounds_toArray, List.set_cons_zero, List.set_cons_succ]
  refine seq_take (v := ?_) rfl rfl rfl (fun W hW => ?_) ?_
  rotate_left
  · go_simp
    rfl
  try simp only [Act.put, List.getElem_toArray, List.getElem_cons_zero, List.getElem_cons_succ, List.setIfInBounds_toArray, List.set_cons_zero, List.set_cons_succ]
  refine seq_take (v := ?_) rfl rfl rfl (fun W hW => ?_) ?_
  rotate_left
  · go_simp
    rfl
  try simp only [Act.put, List.getElem_toArray, List.getElem_cons_zero, List.getElem_cons_succ, List.setIfInBounds_toArray, List.set_cons_zero, List.set_cons_succ]
  refine seq_load rfl 31 (.tmp 5) rfl rfl rfl (fun W hW => hW) Try.underlying31 rfl HS.out ?_
  try simp only [Act.put, List.getElem_toArray, List.getElem_cons_zero, List.getElem_cons_succ, List.setIfInBounds_toArray, List.set_cons_zero, List.set_cons_succ]
  refine seq_do rfl rfl rfl ?_
  go_simp
  go_at_call 30
  refine (A _).out.mono ?_
  rintro e W2 ⟨rfl, rfl⟩
  refine ⟨HB0.out, ?_⟩
  try simp only [Act.put, List.getElem_toArray, List.getElem_cons_zero, List.getElem_cons_succ, List.setIfInBounds_toArray, List.set_cons_zero, List.set_cons_succ]
  refine seq_do rfl rfl rfl ?_
  go_simp
  go_at_call 26
  refine (P _).out.mono ?_
  rintro e W3 ⟨rfl, hE3⟩
  refine ⟨HB0.out.ext hE3, ?_⟩
  try simp only [Act.put, List.getElem_toArray, List.getElem_cons_zero, List.getElem_cons_succ, List.setIfInBounds_toArray, List.set_cons_zero, List.set_cons_succ]
  have E3 := HE0.out.tr hE3
  refine seq_do rfl rfl rfl ?_
  go_simp
  go_at_call 71
  refine (Wr _ E3).out.mono ?_
  rintro e W4 ⟨Pd', pc', rfl, D4, hB4, hb4⟩
  refine ⟨hb4 _ _ _ (by have := HQ.out; omega) (fun h => by have := HO.out q h.symm; have := HQ.out; omega) (HB0.out.ext hE3), ?_⟩
  try simp only [Act.put, List.getElem_toArray, List.getElem_cons_zero, List.getElem_cons_succ, List.setIfInBounds_toArray, List.set_cons_zero, List.set_cons_succ]
  refine seq_take (v := ?_) rfl rfl rfl (fun W hW => ?_) ?_
  rotate_left
  · go_simp
    rfl
  try simp only [Act.put, List.getElem_toArray, List.getElem_cons_zero, List.getElem_cons_succ, List.setIfInBounds_toArray, List.set_cons_zero, List.set_cons_succ]
  refine seq_nil ?_
  go_wp2
  go_ret
  exact ⟨Pd', pc', rfl, D4, (E3.mono hlo).trans hB4⟩
end
end Go.Proofs.Ytnggcldghpmeaaa
