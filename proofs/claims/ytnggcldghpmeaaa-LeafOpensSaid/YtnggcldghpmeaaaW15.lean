/- The reference's page, walked. -/
import Derived.Test.YtnggcldghpmeaaaW14
set_option linter.unusedVariables false
set_option linter.unusedSimpArgs false
set_option maxRecDepth 100000
namespace Go.Proofs.Ytnggcldghpmeaaa
open Go.RowKit
attribute [local irreducible] Calls
/-- One field. -/
theorem Field_one (W : Nat) (hW : W ≤ 8) (g : Nat) (hg : g < 18446744073709551616) {y0 y : Int} (h0 : y0 = W) (hy : y = g) (A : Option Addr) (c : Nat) (w : World) (hr : Rd w A [.int .u64 y0, .int .u64 y]) :
    Calls Try.prog 89 #[.slice A 1 c] w fun e w' => ∃ A' c', e = .returned (.slice A' W c') ∧ Own w' w.heap.size 5 1 A' W c' (BV (leB W g)) ∧ Ext w w' := by
  subst h0 hy
  have h := Fields_calls A c [(W, g)] w hr (by simp) (by simp; exact ⟨hW, hg⟩)
  refine h.mono ?_
  rintro e w' ⟨A', n, c', rfl, rfl, h1, h2⟩
  have e1 : fieldsB [(W, g)] = leB W g := by simp [fieldsB]
  rw [e1, leB_length] at h1
  rw [e1, leB_length]
  exact ⟨A', c', rfl, h1, h2⟩
theorem RefSeal_c {A : Option Addr} {n c : Nat} {w : World} (l : List UInt8) (r : Nat) (hr : Rd w A (BV l)) (hl : l.length ≤ 100000) (hn : n = l.length) (h4 : r = l.length + 4) :
    Calls Try.prog 88 #[.slice A n c] w fun e w' => ∃ A' c', e = .returned (.slice A' r c') ∧ Own w' w.heap.size 5 1 A' r c' (BV (sealB l)) ∧ Ext w w' := by
  subst hn h4
  exact RefSeal_calls A c l w hr hl
def padK (l : List UInt8) (k : Nat) : List UInt8 := l.take k ++ List.replicate (256 - k) 0
theorem padK_length (l : List UInt8) (k : Nat) (h : k ≤ l.length) (h2 : k ≤ 256) : (padK l k).length = 256 := by
  simp [padK]; omega
theorem padK_next (l : List UInt8) (k : Nat) (h : k < l.length) (h2 : k < 256) : (padK l k).set k l[k] = padK l (k + 1) := by
  unfold padK
  rw [take_snoc l k h]
  have e : List.replicate (256 - k) (0 : UInt8) = 0 :: List.replicate (256 - (k + 1)) 0 := by
    rw [show 256 - k = (256 - (k + 1)) + 1 by omega, List.replicate_succ]
  rw [e, List.set_append, if_neg (by simp; omega)]
  have : k - (List.take k l).length = 0 := by simp; omega
  rw [this, List.set_cons_zero, List.append_assoc]
  rfl
theorem BV_set (l : List UInt8) (k : Nat) (b : UInt8) : (BV l).toArray.setIfInBounds k (.int .u8 (b.toNat : Int)) = (BV (l.set k b)).toArray := by
  simp [BV, List.map_set, bv]
theorem BV_cell {l : List UInt8} {k : Nat} (h : k < l.length) : (BV l).toArray[k]? = some (bv l[k]) := by simp [BV, h]
theorem page_pad (l : List UInt8) (h : l.length = 248) : padK (sealB l) 252 = pageB l := by
  unfold padK pageB
  rw [h, List.take_of_length_le (by rw [sealB_length, h]; omega)]
set_option maxHeartbeats 1000000 in
theorem RefPage_calls (g : Nat) (hg : g < 18446744073709551616) (c : List UInt8) (hc : c.length = 240) (w : World) :
    Calls Try.prog 29 #[.int .u64 g, .agg (BV c).toArray] w fun e w' => e = .returned (.agg (BV (pageB (leB 8 g ++ c))).toArray) ∧ Ext w w' := by
  obtain ⟨i0, hi, hz0, hz1, hz2⟩ := info_parts info5
  have HC := hid hc
  clear hc
  obtain ⟨y, hy⟩ : ∃ y : Int, y = g := ⟨_, rfl⟩
  have hy0 : (0 : Int) ≤ y := by omega
  rw [← hy]
  have HY := hid hy
  have HG := hid hg
  clear hy hg
  go_enter Try.func29, Try.ntmps29
  go_wp2
  refine abs_w (fun W => Blk W w.heap.size 24 (BV c).toArray ∧ Blk W (w.heap.size + 1) 28 Try.zeroCells28 ∧ Ext w W) (fun W ⟨B3, B4, hE⟩ => ?_)
    ⟨(Blk.new w 24 _).al _, Blk.new_ (by simp), (Ext.rfl'.al _).al _⟩
  have D3 := hid B3.dr1
  have D4 := hid B4.dr1
  have DE := hid hE.dr1
  clear B3 B4 hE
  refine seq (fun W' => Ext w W') [0, 4, 1, 2, 3, 5, 6, 7] (by kernel_rfl) (by kernel_rfl) (by kernel_rfl) (by decide) (fun _ _ _ _ _ h => h) DE.out ?_
  refine seq_take (v := ?_) rfl rfl rfl (fun W hW => ?_) ?_
  rotate_left
  · go_simp
    rfl
  try simp only [Act.put, List.getElem_toArray, List.getElem_cons_zero, List.getElem_cons_succ, List.setIfInBounds_toArray, List.set_cons_zero, List.set_cons_succ]
  refine seq_take (v := ?_) rfl rfl rfl (fun W hW => ?_) ?_
  rotate_left
  · go_simp
    rfl
  try simp only [Act.put, List.getElem_toArray, List.getElem_cons_zero, List.getElem_cons_succ, List.setIfInBounds_toArray, List.set_cons_zero, List.set_cons_succ]
  refine seq_take (v := ?_) rfl rfl rfl (fun W hW => ?_) ?_
  rotate_left
  · go_simp
    rfl
  try simp only [Act.put, List.getElem_toArray, List.getElem_cons_zero, List.getElem_cons_succ, List.setIfInBounds_toArray, List.set_cons_zero, List.set_cons_succ]
  refine seq_do rfl rfl rfl ?_
  go_simp
  refine ⟨DE.out.al _, ?_⟩
  have R1 : Rd (W.alloc (.cells #[.int .u64 8, .int .u64 y] 23)).drew (some ⟨W.heap.size, 0, none⟩) [.int .u64 8, .int .u64 y] := ((Blk.new W 23 _).rd 0).dr1
  have D3' : Blk (W.alloc (.cells #[.int .u64 8, .int .u64 y] 23)).drew w.heap.size 24 (BV c).toArray := D3.out.al _
  have D4' : Blk (W.alloc (.cells #[.int .u64 8, .int .u64 y] 23)).drew (w.heap.size + 1) 28 Try.zeroCells28 := D4.out.al _
  have DE' : Ext w (W.alloc (.cells #[.int .u64 8, .int .u64 y] 23)).drew := DE.out.al _
  have hl4 := D4'.lt
  refine seq_do rfl rfl rfl ?_
  go_simp
  go_at_call 89
  refine (Field_one 8 (by omega) g HG.out rfl HY.out _ _ _ R1).mono ?_
  rintro e W2 ⟨A2, c2, rfl, hown2, hE2⟩
  refine ⟨DE'.tr hE2, ?_⟩
  generalize (W.alloc (.cells #[.int .u64 8, .int .u64 y] 23)).drew = WW at *
  try simp only [Act.put, List.getElem_toArray, List.getElem_cons_zero, List.getElem_cons_succ, List.setIfInBounds_toArray, List.set_cons_zero, List.set_cons_succ]
  have F3 := D3'.ext hE2
  have F4 := D4'.ext hE2
  have FE := DE'.tr hE2
  have hs2 := hE2.size
  refine seq_do rfl rfl rfl ?_
  refine wp_app (.tmp 12) (.tmp 13) 63 rfl Try.underlying63 hi hz0 hz1 hz2 rfl (by omega) rfl hown2 (ys := BV c) rfl (by simp [BV_length, HC.out]) (F3.rd 0) (BV_one _) (by unfold maxLen; omega) (by omega) hs2 ?_
  intro A3 c3 W3 hown3 hg3
  have G3 : Ext w W3 := FE.grown hg3 (by omega) (fun i hi => Nat.le_trans (by omega) (hown2.block i hi).1)
  refine ⟨G3, ?_⟩
  try simp only [Act.put, List.getElem_toArray, List.getElem_cons_zero, List.getElem_cons_succ, List.setIfInBounds_toArray, List.set_cons_zero, List.set_cons_succ]
  rw [← BV_append] at hown3
  have hl8 : (leB 8 g ++ c).length = 248 := by simp [leB_length, HC.out]
  have HL8 := hid hl8
  clear hl8
  have HB : Hid ((BV (pageB (leB 8 g ++ c))).toArray.size = 256) := hid (by simp [BV_length, pageB_length _ (show (leB 8 g ++ c).length ≤ 252 by rw [HL8.out]; omega)])
  obtain ⟨L, hL⟩ : ∃ L, L = leB 8 g ++ c := ⟨_, rfl⟩
  rw [← hL] at hown3 HL8
  have HLL := hid hL
  clear hL
  have F5 : Blk W3 (w.heap.size + 1) 28 Try.zeroCells28 := F4.grown hg3 (fun e => by have := (hown2.block _ e.symm).1; omega)
  have HRS := hid (RefSeal_c (n := 8 + 240) (c := c3) L 252 hown3.rd (by rw [HL8.out]; omega) (by rw [HL8.out]) (by rw [HL8.out]))
  refine seq_do rfl rfl rfl ?_
  go_simp
  go_at_call 88
  refine HRS.out.mono ?_
  rintro e W4 ⟨A4, c4, rfl, hown4, hE4⟩
  have G4 := G3.tr hE4
  refine ⟨G4, ?_⟩
  have F6 := F5.ext hE4
  try simp only [Act.put, List.getElem_toArray, List.getElem_cons_zero, List.getElem_cons_succ, List.setIfInBounds_toArray, List.set_cons_zero, List.set_cons_succ]
  refine seq_take (v := ?_) rfl rfl rfl (fun W hW => ?_) ?_
  rotate_left
  · go_simp
    rfl
  try simp only [Act.put, List.getElem_toArray, List.getElem_cons_zero, List.getElem_cons_succ, List.setIfInBounds_toArray, List.set_cons_zero, List.set_cons_succ]
  refine seq_nil ?_
  have R4 := hown4.rd
  have HSL : Hid ((sealB L).length = 252) := hid (by rw [sealB_length, HL8.out])
  clear HRS hE4 F5 F4 G3 hg3 hown3 hown2 hE2 D3' D4' DE' F3 FE R1 hown4 D3 D4 DE
  have HZ1 : Hid ((Try.prog.info? 28).map (·.size) = some Try.zeroCells28.size) := hid (by rw [z28]; exact BV_size sz28 (by simp))
  have HZ3 : Hid (Try.zeroCells28.all (·.oneCell') = true) := hid (by rw [z28]; exact BV_all _)
  go_wp2_with (refine fit (.store 28 (.tmp 6) (.tmp 16)) ?_; refine wpl_fresh2 rfl 28 (.tmp 6) (.tmp 16) rfl rfl rfl rfl HZ1.out rfl HZ3.out ?_; intro W5 E5 Z5 hs5; have G5 := G4.tr E5; have F7 := F6.ext E5; have R5 := R4.ext E5)
  have Z6 : Blk W5 W4.heap.size 28 (BV (padK (sealB L) 0)).toArray := by rw [z28] at Z5; exact Z5
  have hq := F6.lt
  clear Z5 G5 F7 R5 hs5
  go_loopw [19] (fun i wr => ∃ k : Nat, k ≤ 252 ∧ i = .int .i64 k ∧ Blk wr W4.heap.size 28 (BV (padK (sealB L) k)).toArray ∧ Ext W4 wr) (fun i _ => 252 - (intOf i).toNat)
  case atStart => exact ⟨0, by omega, rfl, Z6, E5⟩
  case round =>
    obtain ⟨k, hk, rfl, Z, hE⟩ := hrel
    by_cases hlt : k < 252
    · have hkl : k < (sealB L).length := by rw [HSL.out]; exact hlt
      obtain ⟨ad, rfl, hby⟩ := (R4.ext hE).byte k hkl
      have hf := Z.frozen k
      have hb : wr.cell? ⟨W4.heap.size, k, none⟩ = some (bv ((padK (sealB L) k)[k]'(by rw [padK_length _ _ (by omega) (by omega)]; omega))) := by
        rw [Z.cell k]; exact BV_cell _
      have HK := hid (padK_next (sealB L) k hkl (by omega))
      go_wp2
      go_roundw
      case rel =>
        refine ⟨k + 1, by omega, by go_num, ?_, Below.setCell hE (by simp) _⟩
        have := Z.set_ k (.int .u8 ((sealB L)[k].toNat : Int))
        rw [BV_set, HK.out] at this
        exact this
      case measure => simp [intOf]; omega
    · obtain rfl : k = 252 := by omega
      rw [page_pad L HL8.out, HLL.out] at Z
      have H6 := F6.ext hE
      have HSz : Hid ((Try.prog.info? 28).map (·.size) = some (BV (pageB (leB 8 g ++ c))).toArray.size) := hid (by rw [HB.out]; exact sz28)
      go_wp2_with (first
        | (refine fit (.load 28 (.tmp 6)) ?_; refine wpl_do rfl (wp_load 28 (.tmp 6) rfl rfl Z Try.underlying28 rfl HSz.out ?_))
        | (refine fit (.store 28 (.tmp 4) (.tmp 28)) ?_; refine wpl_store rfl 28 (.tmp 4) (.tmp 28) rfl rfl rfl H6 HSz.out (by rw [HB.out, z28]; simp [BV_length]) (BV_all _) ?_; intro W9 hW9 K9 hb9 hf9 hs9))
      exact ret_cell rfl rfl K9 Try.underlying28 rfl HSz.out rfl ⟨rfl, (G4.tr hE).trans (hb9.mono (by omega))⟩
end Go.Proofs.Ytnggcldghpmeaaa
