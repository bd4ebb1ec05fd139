/- The reference of layer 8: a node's page, walked. -/
import Derived.Test.YtnggcldghpmeaaaL7
import Derived.Test.YtnggcldghpmeaaaM1
import Derived.Test.YtnggcldghpmeaaaW15
set_option linter.unusedVariables false
set_option linter.unusedSimpArgs false
set_option maxRecDepth 100000
namespace Go.Proofs.Ytnggcldghpmeaaa
open Go.RowKit
attribute [local irreducible] Calls
theorem pad_page (l : List UInt8) (m : Nat) (hm : m = l.length + 4) (h : l.length ≤ 252) : padK (sealB l) m = pageB l := by
  unfold padK pageB
  rw [List.take_of_length_le (by rw [sealB_length]; omega), hm]
  congr 2
  omega
set_option maxHeartbeats 4000000 in
theorem RPage_no {w : World} (nv : Array Value) (hs : nv.size = 18) (RT : ∀ W, Ext w W → Hid (Calls Try.prog 165 #[.agg nv] W fun e w' => e = .returned (.bool false) ∧ Ext W w')) :
    Calls Try.prog 93 #[.agg nv] w fun e w' => e = .returned (.tuple #[.agg (BV (List.replicate 256 0)).toArray, .int .i64 81]) ∧ Ext w w' := by
  have HI : Hid ((Try.prog.info? 50).map (·.size) = some nv.size) := hid (by rw [hs]; exact sz50)
  obtain ⟨p, hp⟩ : ∃ p : List UInt8, p = List.replicate 256 0 := ⟨_, rfl⟩
  have HL : Hid (p.length = 256) := hid (by rw [hp]; simp)
  rw [← hp]
  have HX : Hid ((BV p).toArray = Try.zeroCells28) := hid (by rw [hp]; exact z28.symm)
  have HS := hid (BV_size sz28 HL.out)
  clear hp hs
  go_enter Try.func93, Try.ntmps93
  go_wp2_with (first
    | (refine fit (.load 50 (.tmp 1)) ?_; refine wpl_do rfl (wp_load 50 (.tmp 1) rfl rfl ((Blk.new w 50 nv).al _) Try.underlying50 rfl HI.out ?_))
    | (go_at_call 165; refine (RT _ ((Ext.rfl'.al _).al _)).out.mono ?_; rintro e w1 ⟨rfl, hE1⟩; have E1 := ((Ext.rfl'.al (.cells nv 50)).al (.cells Try.zeroCells28 28)).tr hE1; have B2 : Blk w1 (w.heap.size + 1) 28 Try.zeroCells28 := (Blk.new_ (by simp)).ext hE1; rw [← HX.out] at B2)
    | (refine fit (.store 28 (.tmp 2) (.tmp 13)) ?_; rw [← HX.out]; refine wpl_store rfl 28 (.tmp 2) (.tmp 13) rfl rfl rfl B2 HS.out rfl (BV_all _) ?_; intro W5 hW5 G5 hb5 hf5 hs5))
  exact ret2 rfl (RV.cell rfl G5 Try.underlying28 rfl HS.out) (RV.tmp rfl) rfl ⟨rfl, E1.trans (hb5.mono (by omega))⟩
set_option maxHeartbeats 4000000 in
theorem RPage_data {w : World} {A : Option Addr} {c : Nat} (b : List UInt8) (hb : b.length = 16)
    (RT : ∀ W, Ext w W → Hid (Calls Try.prog 165 #[.agg (NV 1 b A 0 c)] W fun e w' => e = .returned (.bool true) ∧ Ext W w')) :
    Calls Try.prog 93 #[.agg (NV 1 b A 0 c)] w fun e w' => e = .returned (.tuple #[.agg (BV (pageB (1 :: b))).toArray, .int .i64 0]) ∧ Ext w w' := by
  have N0 := NV0 (k := 1) (b := b) (A := A) (n := 0) (c := c)
  have HI : Hid ((Try.prog.info? 50).map (·.size) = some (NV 1 b A 0 c).size) := hid (by rw [NV_size hb]; exact sz50)
  have HAT := fun (W : World) (B : Blk W w.heap.size 50 (NV 1 b A 0 c)) => hid (NV_at B hb)
  have HB := hid hb
  generalize NV 1 b A 0 c = nv at *
  obtain ⟨L, hL⟩ : ∃ L : List UInt8, L = 1 :: b := ⟨_, rfl⟩
  rw [← hL]
  have hnL : 17 = L.length := by rw [hL]; simp [hb]
  have hL252 : L.length ≤ 252 := by omega
  have HLE := hid hL
  have HNL := hid hnL
  have HL252 := hid hL252
  clear hL hb hnL hL252
  obtain ⟨i0, hi, hz0, hz1, hz2⟩ := info_parts info5
  have Hi := hid hi
  have Hi0 := hid hz0
  have Hi1 := hid hz1
  have Hi2 := hid hz2
  clear hi hz0 hz1 hz2
  go_enter Try.func93, Try.ntmps93
  go_wp2_with (first
    | (refine fit (.load 50 (.tmp 1)) ?_; refine wpl_do rfl (wp_load 50 (.tmp 1) rfl rfl ((Blk.new w 50 nv).al _) Try.underlying50 rfl HI.out ?_))
    | (go_at_call 165; refine (RT _ ((Ext.rfl'.al _).al _)).out.mono ?_; rintro e w1 ⟨rfl, hE1⟩; have E1 := ((Ext.rfl'.al (.cells nv 50)).al (.cells Try.zeroCells28 28)).tr hE1; have B1 : Blk w1 w.heap.size 50 nv := ((Blk.new w 50 nv).al _).ext hE1; have B2 : Blk w1 (w.heap.size + 1) 28 Try.zeroCells28 := (Blk.new_ (by simp)).ext hE1; have c0 := (B1.cell 0).trans N0; have hlw := B1.lt)
    | (at_builtin; refine wpl_app rfl (.tmp 21) (.tmp 23) 63 rfl Try.underlying63 Hi.out Hi0.out Hi1.out Hi2.out rfl (by omega) rfl (Own.new w1 5 #[.int .u8 1] 1 1 w1.heap.size (Nat.le_refl _) (by unfold maxLen; omega) rfl) rfl (ys := BV b) (by rw [BV_length, HB.out]) ((HAT _ B1).out.ext (Ext.rfl'.al _)).rd (BV_one _) (by unfold maxLen; omega) (by omega) (by simp) ?_; intro A4 c4 V1 hown4 hg4; refine stop ?_))
  refine ⟨?_⟩
  have hgx : Ext w1 V1 := (Ext.rfl'.al (.cells #[.int .u8 1] 5)).grown hg4 (by simp) (fun k hk => ((Own.new w1 5 #[.int .u8 1] 1 1 w1.heap.size (Nat.le_refl _) (by unfold maxLen; omega) rfl).block k hk).1)
  have EE := E1.tr hgx
  have FF := B2.ext hgx
  have RR : Rd V1 A4 (BV L) := by rw [HLE.out]; exact hown4.rd
  have hnL := HNL.out
  have hL252 := HL252.out
  clear B1 B2 c0 E1 hE1 hgx hg4 hown4
  have HZ1 : Hid ((Try.prog.info? 28).map (·.size) = some Try.zeroCells28.size) := hid (by rw [z28]; exact BV_size sz28 (by simp))
  have HZ3 : Hid (Try.zeroCells28.all (·.oneCell') = true) := hid (by rw [z28]; exact BV_all _)
  have HLN : Hid (17 = L.length) := hid hnL
  have HLL : Hid (L.length ≤ 252) := hid hL252
  clear hnL hL252
  go_wp2_with (first
    | (refine fit (.store 28 (.tmp 7) (.tmp 49)) ?_; refine wpl_fresh2 rfl 28 (.tmp 7) (.tmp 49) rfl rfl rfl rfl HZ1.out rfl HZ3.out ?_; intro W2 E2 Z2 hs2; have F2 := FF.ext E2; have R2 := RR.ext E2; have EE2 := EE.tr E2; clear hs2)
    | (go_at_call 88; refine (RefSeal_c L (17 + 4) R2 (by have := HLL.out; omega) HLN.out (by rw [← HLN.out])).mono ?_; rintro e W3 ⟨A3, c3, rfl, hown3, hE3⟩; have F3 := F2.ext hE3; have EE3 := EE2.tr hE3; have Z3 := Z2.ext hE3))
  have R3 := hown3.rd
  have hz2 := Z2.lt
  have HNE : Hid (∀ ad, A3 = some ad → ad.block ≠ V1.heap.size) := hid (fun ad ha => by subst ha; have := (hown3.block ad.block rfl).1; omega)
  clear hz2
  have HSL : Hid ((sealB L).length = 17 + 4) := hid (by rw [sealB_length, ← HLN.out])
  have Z6 : Blk W3 V1.heap.size 28 (BV (padK (sealB L) 0)).toArray := by rw [z28] at Z3; exact Z3
  have hq3 := F2.lt
  have hqv := FF.lt
  clear Z2 Z3 R2 hown3 F2 EE2
  have hm256 : 17 + 4 ≤ 256 := by have := HLL.out; have := HLN.out; omega
  go_loopw [53] (fun i wr => ∃ j : Nat, j ≤ 17 + 4 ∧ i = .int .i64 j ∧ Blk wr V1.heap.size 28 (BV (padK (sealB L) j)).toArray ∧ Below V1.heap.size W3 wr ∧ Rd wr A3 (BV (sealB L))) (fun i _ => 17 + 4 - (intOf i).toNat)
  case atStart => exact ⟨0, by omega, rfl, Z6, Below.refl _ _, R3⟩
  case round =>
    obtain ⟨j, hj, rfl, Z, hB, RS⟩ := hrel
    by_cases hlt : j < 17 + 4
    · have hkl : j < (sealB L).length := by rw [HSL.out]; exact hlt
      obtain ⟨ad, rfl, hby⟩ := RS.byte j hkl
      have hf := Z.frozen j
      have hb : wr.cell? ⟨V1.heap.size, j, none⟩ = some (bv ((padK (sealB L) j)[j]'(by rw [padK_length _ _ (by omega) (by omega)]; omega))) := by
        rw [Z.cell j]; exact BV_cell _
      have HK := hid (padK_next (sealB L) j hkl (by omega))
      go_wp2
      go_roundw
      case rel =>
        refine ⟨j + 1, by omega, by go_num, ?_, hB.setCell (by simp) _, ?_⟩
        · have := Z.set_ j (.int .u8 ((sealB L)[j].toNat : Int))
          rw [BV_set, HK.out] at this
          exact this
        · exact RS.gb (gb_set (Ext.rfl'.gb _) j _) HNE.out
      case measure => simp [intOf]; omega
    · obtain rfl : j = 17 + 4 := by omega
      rw [pad_page L _ (by rw [← HLN.out]) HLL.out] at Z
      have H6 := F3.below hB (by omega)
      have HPL := hid (pageB_length L HLL.out)
      have HSz := hid (BV_size sz28 HPL.out)
      have HZp : Hid (Try.zeroCells28.size = (BV (pageB L)).toArray.size) := hid (by rw [z28]; exact BV_sizes (by rw [HPL.out]; simp))
      go_wp2_with (first
        | (refine fit (.load 28 (.tmp 7)) ?_; refine wpl_do rfl (wp_load 28 (.tmp 7) rfl rfl Z Try.underlying28 rfl HSz.out ?_))
        | (refine fit (.store 28 (.tmp 2) (.tmp 62)) ?_; refine wpl_store rfl 28 (.tmp 2) (.tmp 62) rfl rfl rfl H6 HSz.out HZp.out (BV_all _) ?_; intro W9 hW9 K9 hb9 hf9 hs9))
      exact ret2 rfl (RV.cell rfl K9 Try.underlying28 rfl HSz.out) (RV.tmp rfl) rfl ⟨rfl, (EE3.trans (hB.mono (by omega))).trans (hb9.mono (by omega))⟩
set_option maxHeartbeats 4000000 in
theorem RPage_ents {w : World} {A : Option Addr} {c : Nat} (k : Int) (b : List UInt8) (l : List (Int × Int)) (hk : ¬ k = 1) (hb : b.length = 16) (hr : Rd w A (EV l)) (hl : l.length ≤ 6)
    (RT : ∀ W, Ext w W → Hid (Calls Try.prog 165 #[.agg (NV k b A l.length c)] W fun e w' => e = .returned (.bool true) ∧ Ext W w')) :
    Calls Try.prog 93 #[.agg (NV k b A l.length c)] w fun e w' => e = .returned (.tuple #[.agg (BV (pageB (b8 k :: b8 l.length :: entB l))).toArray, .int .i64 0]) ∧ Ext w w' := by
  have N0 := NV0 (k := k) (b := b) (A := A) (n := l.length) (c := c)
  have N17 := NV17 (k := k) (A := A) (n := l.length) (c := c) hb
  have HI : Hid ((Try.prog.info? 50).map (·.size) = some (NV k b A l.length c).size) := hid (by rw [NV_size hb]; exact sz50)
  generalize NV k b A l.length c = nv at *
  obtain ⟨L, hL⟩ : ∃ L : List UInt8, L = b8 k :: b8 l.length :: entB l := ⟨_, rfl⟩
  rw [← hL]
  have hnL : 2 + 2 * l.length = L.length := by rw [hL]; simp [entB_length]; omega
  have hL252 : L.length ≤ 252 := by omega
  have HLE := hid hL
  have HNL := hid hnL
  have HL252 := hid hL252
  clear hL hb hnL hL252
  have hk' : (k == 1) = false := by simp [hk]
  obtain ⟨i0, hi, hz0, hz1, hz2⟩ := info_parts info5
  have Hi := hid hi
  have Hi0 := hid hz0
  have Hi1 := hid hz1
  have Hi2 := hid hz2
  clear hi hz0 hz1 hz2
  go_enter Try.func93, Try.ntmps93
  go_wp2_with (first
    | (refine fit (.load 50 (.tmp 1)) ?_; refine wpl_do rfl (wp_load 50 (.tmp 1) rfl rfl ((Blk.new w 50 nv).al _) Try.underlying50 rfl HI.out ?_))
    | (go_at_call 165; refine (RT _ ((Ext.rfl'.al _).al _)).out.mono ?_; rintro e w1 ⟨rfl, hE1⟩; have E1 := ((Ext.rfl'.al (.cells nv 50)).al (.cells Try.zeroCells28 28)).tr hE1; have B1 : Blk w1 w.heap.size 50 nv := ((Blk.new w 50 nv).al _).ext hE1; have B2 : Blk w1 (w.heap.size + 1) 28 Try.zeroCells28 := (Blk.new_ (by simp)).ext hE1; have c0 := (B1.cell 0).trans N0; have c17 := (B1.cell 17).trans N17; have hsw := hid E1.size; have hlw := B1.lt)
    | (at_builtin; refine wpl_app rfl (.tmp 25) (.tmp 30) 63 rfl Try.underlying63 Hi.out Hi0.out Hi1.out Hi2.out rfl (by omega) rfl ((Own.new w1 5 #[.int .u8 (k % 256)] 1 1 w1.heap.size (Nat.le_refl _) (by unfold maxLen; omega) rfl).al _) rfl (ys := [.int .u8 (l.length : Int)]) rfl (Rd.new (by simp) rfl) (by simp [Value.oneCell']) (by unfold maxLen; omega) (by omega) (by simp; omega) ?_; intro A4 c4 w4 hown4 hg4; have hgx : Ext w1 w4 := ((Ext.rfl'.al (.cells #[.int .u8 (k % 256)] 5)).al (.cells #[.int .u8 (l.length : Int)] 5)).grown hg4 (by simp; omega) (fun k hk => ((Own.new w1 5 #[.int .u8 (k % 256)] 1 1 w1.heap.size (Nat.le_refl _) (by unfold maxLen; omega) rfl).block k hk).1); have d17 := ((B1.ext hgx).cell 17).trans N17))
  have hown5 : Own w4 w1.heap.size 5 1 A4 2 c4 (BV (b8 k :: b8 l.length :: entB (l.take 0))) := by
    have hmod : (l.length : Int) % 256 = l.length := by omega
    simpa [BV, b8_bv, entB, hmod] using hown4
  have E4 := E1.tr hgx
  have HB2 := hid B2
  have hs4 := hgx.size
  clear B1 B2 c0 c17 d17 hE1 hown4 hg4 N0 N17
  go_loopw [4, 35] (fun v i wr => ∃ (j : Nat) (A2 : Option Addr) (c2 : Nat), j ≤ l.length ∧ i = .int .i64 j ∧ v = .slice A2 (2 + 2 * j) c2 ∧ Own wr w1.heap.size 5 1 A2 (2 + 2 * j) c2 (BV (b8 k :: b8 l.length :: entB (l.take j))) ∧ Ext w1 wr) (fun _ i _ => l.length - (intOf i).toNat)
  case atStart => exact ⟨0, _, _, by omega, rfl, rfl, hown5, hgx⟩
  case round =>
    obtain ⟨j, A2, c2, hj, rfl, rfl, hown2, hex2⟩ := hrel
    by_cases hlt : j < l.length
    · obtain ⟨ad, rfl, hat⟩ := EV_at ((hr.ext E1).ext hex2) j hlt
      have HAT := hid hat
      have HS := hid (entB_snoc l j hlt)
      have HI6 := hid sz60
      clear hat
      generalize l[j] = en at *
      obtain ⟨a, p⟩ := en
      simp only at *
      have hsz := hex2.size
      go_wp2_with (first
        | (refine fit (.load 60 (.tmp 37)) ?_; refine wpl_do rfl (wp_loadAt 60 (.tmp 37) rfl rfl [.int .i64 a, .int .i64 p] HAT.out Try.underlying60 rfl HI6.out ?_))
        | (at_builtin; refine wpl_app rfl (.tmp 39) (.tmp 46) 63 rfl Try.underlying63 Hi.out Hi0.out Hi1.out Hi2.out rfl (by omega) rfl ((hown2.al _).al _) rfl (ys := BV [b8 a, b8 p]) rfl (by rw [BV2]; exact Rd.new (by simp) rfl) (BV_one _) (by unfold maxLen; omega) (by omega) (by simp; omega) ?_; intro A5 c5 w5 hown6 hg5))
      go_roundw
      case rel =>
        refine ⟨j + 1, A5, c5, by omega, by go_num, by rw [Nat.mul_succ, Nat.add_assoc], ?_, ?_⟩
        · rw [HS.out, Nat.mul_succ, ← Nat.add_assoc]
          have := hown6
          rw [← BV_append] at this
          simpa using this
        · exact ((hex2.al _).al _).grown hg5 (by simp; omega) (fun i hi => (hown2.block i hi).1)
      case measure => simp [intOf]; omega
    · obtain rfl : j = l.length := by omega
      rw [List.take_length] at hown2
      obtain ⟨V1, hV1⟩ : ∃ V1, V1 = wr := ⟨_, rfl⟩
      rw [← hV1] at hown2 hex2 ⊢
      clear hV1
      have EE := E1.tr hex2
      have RR : Rd V1 A2 (BV L) := by rw [HLE.out]; exact hown2.rd
      have FF : Blk V1 (w.heap.size + 1) 28 Try.zeroCells28 := HB2.out.ext hex2
      have hnL := HNL.out
      have hL252 := HL252.out
      clear hown2 hown5 E4 hgx hex2
      have HZ1 : Hid ((Try.prog.info? 28).map (·.size) = some Try.zeroCells28.size) := hid (by rw [z28]; exact BV_size sz28 (by simp))
      have HZ3 : Hid (Try.zeroCells28.all (·.oneCell') = true) := hid (by rw [z28]; exact BV_all _)
      have HLN : Hid ((2 + 2 * l.length) = L.length) := hid hnL
      have HLL : Hid (L.length ≤ 252) := hid hL252
      clear hnL hL252
      go_wp2_with (first
        | (refine fit (.store 28 (.tmp 7) (.tmp 49)) ?_; refine wpl_fresh2 rfl 28 (.tmp 7) (.tmp 49) rfl rfl rfl rfl HZ1.out rfl HZ3.out ?_; intro W2 E2 Z2 hs2; have F2 := FF.ext E2; have R2 := RR.ext E2; have EE2 := EE.tr E2; clear hs2)
        | (go_at_call 88; refine (RefSeal_c L ((2 + 2 * l.length) + 4) R2 (by have := HLL.out; omega) HLN.out (by rw [← HLN.out])).mono ?_; rintro e W3 ⟨A3, c3, rfl, hown3, hE3⟩; have F3 := F2.ext hE3; have EE3 := EE2.tr hE3; have Z3 := Z2.ext hE3))
      have R3 := hown3.rd
      have hz2 := Z2.lt
      have HNE : Hid (∀ ad, A3 = some ad → ad.block ≠ V1.heap.size) := hid (fun ad ha => by subst ha; have := (hown3.block ad.block rfl).1; omega)
      clear hz2
      have HSL : Hid ((sealB L).length = (2 + 2 * l.length) + 4) := hid (by rw [sealB_length, ← HLN.out])
      have Z6 : Blk W3 V1.heap.size 28 (BV (padK (sealB L) 0)).toArray := by rw [z28] at Z3; exact Z3
      have hq3 := F2.lt
      have hqv := FF.lt
      clear Z2 Z3 R2 hown3 F2 EE2
      have hm256 : (2 + 2 * l.length) + 4 ≤ 256 := by have := HLL.out; have := HLN.out; omega
      go_loopw [53] (fun i wr => ∃ j : Nat, j ≤ (2 + 2 * l.length) + 4 ∧ i = .int .i64 j ∧ Blk wr V1.heap.size 28 (BV (padK (sealB L) j)).toArray ∧ Below V1.heap.size W3 wr ∧ Rd wr A3 (BV (sealB L))) (fun i _ => (2 + 2 * l.length) + 4 - (intOf i).toNat)
      case atStart => exact ⟨0, by omega, rfl, Z6, Below.refl _ _, R3⟩
      case round =>
        obtain ⟨j, hj, rfl, Z, hB, RS⟩ := hrel
        by_cases hlt : j < (2 + 2 * l.length) + 4
        · have hkl : j < (sealB L).length := by rw [HSL.out]; exact hlt
          obtain ⟨ad, rfl, hby⟩ := RS.byte j hkl
          have hf := Z.frozen j
          have hb : wr.cell? ⟨V1.heap.size, j, none⟩ = some (bv ((padK (sealB L) j)[j]'(by rw [padK_length _ _ (by omega) (by omega)]; omega))) := by
            rw [Z.cell j]; exact BV_cell _
          have HK := hid (padK_next (sealB L) j hkl (by omega))
          go_wp2
          go_roundw
          case rel =>
            refine ⟨j + 1, by omega, by go_num, ?_, hB.setCell (by simp) _, ?_⟩
            · have := Z.set_ j (.int .u8 ((sealB L)[j].toNat : Int))
              rw [BV_set, HK.out] at this
              exact this
            · exact RS.gb (gb_set (Ext.rfl'.gb _) j _) HNE.out
          case measure => simp [intOf]; omega
        · obtain rfl : j = (2 + 2 * l.length) + 4 := by omega
          rw [pad_page L _ (by rw [← HLN.out]) HLL.out] at Z
          have H6 := F3.below hB (by omega)
          have HPL := hid (pageB_length L HLL.out)
          have HSz := hid (BV_size sz28 HPL.out)
          have HZp : Hid (Try.zeroCells28.size = (BV (pageB L)).toArray.size) := hid (by rw [z28]; exact BV_sizes (by rw [HPL.out]; simp))
          go_wp2_with (first
            | (refine fit (.load 28 (.tmp 7)) ?_; refine wpl_do rfl (wp_load 28 (.tmp 7) rfl rfl Z Try.underlying28 rfl HSz.out ?_))
            | (refine fit (.store 28 (.tmp 2) (.tmp 62)) ?_; refine wpl_store rfl 28 (.tmp 2) (.tmp 62) rfl rfl rfl H6 HSz.out HZp.out (BV_all _) ?_; intro W9 hW9 K9 hb9 hf9 hs9))
          exact ret2 rfl (RV.cell rfl K9 Try.underlying28 rfl HSz.out) (RV.tmp rfl) rfl ⟨rfl, (EE3.trans (hB.mono (by omega))).trans (hb9.mono (by omega))⟩
end Go.Proofs.Ytnggcldghpmeaaa
