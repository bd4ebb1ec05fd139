/- The reference's sum, walked: the code. -/
import Derived.Test.YtnggcldghpmeaaaW12
set_option linter.unusedVariables false
set_option linter.unusedSimpArgs false
set_option maxRecDepth 100000
namespace Go.Proofs.Ytnggcldghpmeaaa
open Go.RowKit
attribute [local irreducible] Calls
theorem info4 : (Try.prog.info? 4).map (fun i => (i.zero, i.size, i.bytes)) = some (some (.bool false), 1, 1) := by kernel_rfl
theorem wpl_idxBB {P : Program} {w : World} {ops : Array Oper} {rest : List Oper} {o : Oper} {a : Act} {Q : Exit → Act → World → Prop} (hgd : o.guard = none) (t : TypeId) (x y : Operand) (ho : o.op = .index t x y)
    {e : TypeId} {n : Nat} {i : TypeInfo} (hu : P.underlying t = some (.array n e)) (hi : P.info? e = some i) (hc : i.size = 1) (he : P.underlying e = some .bool)
    {l : List Bool} {kd : IntKind} {k : Nat} (hx : a.eval x = .agg (BB l).toArray) (hy : a.eval y = .int kd (k : Int)) (hl : l.length = n) (hk : k < l.length)
    (h : wpList P ops Q rest (a.put o.dst (.bool l[k])) w) : wpList P ops Q (o :: rest) a w := by
  have p1 := run_part1 (P := P) w he rfl (BB l).toArray k (by simpa [BB_length] using hk)
  have ea : (BB l).toArray[k]'(by simpa [BB_length] using hk) = .bool l[k] := by simp [BB]
  rw [ea] at p1
  have hin : (0 : Int) ≤ (k : Int) ∧ (k : Int) < (n : Int) := by omega
  refine wpList_plain hgd fun _ hK => ?_
  unfold Oper.wp execOp
  simp only [ho, hx, hy, Instr.index, asIntOf, Sem.run_bind, Sem.run_pure, Result.andThen_ok, run_underlying hu, hin, and_self, if_true, sizeOf, typeInfo, hi, hc, Nat.mul_one, Int.toNat_natCast, p1, run_program]
  exact hK _ _ h
def tops (S : BitVec 32) (k : Nat) : Nat := S.toNat / 2 ^ (32 - k)
theorem tops_0 (S : BitVec 32) : tops S 0 = 0 := Nat.div_eq_of_lt S.isLt
theorem tops_32 (S : BitVec 32) : tops S 32 = S.toNat := by simp [tops]
theorem tops_next (S : BitVec 32) (k : Nat) (h : k < 32) : tops S (k + 1) = 2 * tops S k + if S.getMsbD k then 1 else 0 := by
  have e1 : S.getMsbD k = decide (S.toNat / 2 ^ (31 - k) % 2 = 1) := by
    rw [BitVec.getMsbD_eq_getLsbD]
    simp only [h, decide_true, Bool.true_and]
    rw [← BitVec.testBit_toNat, Nat.testBit_eq_decide_div_mod_eq]
  have e2 : S.toNat / 2 ^ (32 - k) = S.toNat / 2 ^ (31 - k) / 2 := by
    rw [Nat.div_div_eq_div_mul, ← Nat.pow_succ, show (31 - k).succ = 32 - k by omega]
  unfold tops
  rw [e1, e2, show 32 - (k + 1) = 31 - k by omega]
  generalize S.toNat / 2 ^ (31 - k) = q
  by_cases hq : q % 2 = 1 <;> simp [hq] <;> omega
theorem tops_lt (S : BitVec 32) (k : Nat) (h : k < 32) : tops S k < 2147483648 := by
  unfold tops
  have h1 := S.isLt
  have h2 : S.toNat / 2 ^ (32 - k) ≤ S.toNat / 2 ^ 1 := Nat.div_le_div_left (Nat.pow_le_pow_right (by omega) (by omega)) (by omega)
  omega
theorem tops_ltI {S : BitVec 32} {k : Nat} {y : Int} (h : y = (tops S k : Int)) (hk : k < 32) : y < 2147483648 := by
  have := tops_lt S k hk
  omega
theorem bit_int (n m : Nat) : (((n : Int) / 2 ^ m).tmod 2 == 1) = (n / 2 ^ m % 2 == 1) := by
  have e : ((n : Int) / 2 ^ m) = ((n / 2 ^ m : Nat) : Int) := by
    rw [Int.natCast_ediv, Int.natCast_pow]; rfl
  rw [e, Int.tmod_eq_emod_of_nonneg (Int.natCast_nonneg _)]
  generalize n / 2 ^ m = q
  show decide _ = decide _
  exact decide_eq_decide.2 (by omega)
theorem copy_rd {w : World} {g : Nat} {s : BitVec 32} (h : Rd w (some ((⟨g, 0, none⟩ : Addr).add 1)) ((BB (bits s)).toArray.toList.drop 1)) : Rd w (some ⟨g, 1, none⟩) (BB ((bits s).drop 1)) := by
  unfold BB
  rw [List.map_drop]
  exact h
theorem copy_splice (s : BitVec 32) : splice (BB (List.replicate 32 false)) 0 (BB ((bits s).drop 1)) = BB (bits (s <<< 1)) := by
  rw [← bits_copy]
  unfold splice BB
  simp only [List.map_append, List.take_zero, List.nil_append, List.length_map, List.length_drop, bits_length]
  rfl
set_option maxHeartbeats 1000000 in
theorem RefOf_calls (A : Option Addr) (c : Nat) (l : List UInt8) (w : World) (hr : Rd w A (BV l)) (hl : l.length ≤ 100000) :
    Calls Try.prog 162 #[.slice A l.length c] w fun e w' => e = .returned (.int .u32 ((crc 0xffffffff#32 l).toNat : Int)) ∧ Ext w w' := by
  have HZ := hid (BB_size sz255 (show (List.replicate 32 false).length = 32 from rfl))
  have HA := hid (all_oneCell_toArray (BB_one (List.replicate 32 false)))
  have HR := hid hr
  clear hr
  go_enter Try.func162, Try.ntmps162
  go_wp2_with (refine fit (.store 255 (.tmp 3) (.tmp 14)) ?_; refine wpl_fresh2 rfl 255 (.tmp 3) (.tmp 14) rfl rfl rfl rfl HZ.out rfl HA.out ?_; intro W1 E1 G1 hs1)
  have hW1 := G1.lt
  go_loopw [15] (fun i wr => ∃ k : Nat, k ≤ 32 ∧ i = .int .i64 k ∧ Blk wr w.heap.size 255 (BB (tk k)).toArray ∧ Below w.heap.size w wr ∧ w.heap.size < wr.heap.size) (fun i _ => 32 - (intOf i).toNat)
  case atStart => exact ⟨0, by omega, rfl, by rw [tk_0]; exact G1, E1, hW1⟩
  case round =>
    obtain ⟨k, hk, rfl, B, hE, hsz⟩ := hrel
    by_cases hlt : k < 32
    · have hb := B.cell k
      have hf := B.frozen k
      rw [BB_get (by rw [tk_length]; exact hlt)] at hb
      go_wp2
      go_roundw
      case rel =>
        refine ⟨k + 1, by omega, by go_num, ?_, Below.setCell hE (by simp) _, by simp [World.setCell]; omega⟩
        have := B.set_ k (.bool true)
        rw [BB_set, tk_next k hlt] at this
        exact this
      case measure => simp [intOf]; omega
    · obtain rfl : k = 32 := by omega
      rw [tk_32] at B
      go_wp2_with (first
        | (go_at_call 184; refine (poly_calls _).mono ?_; rintro e W2 ⟨rfl, hE2⟩; have hz2 := hE2.size; have B2 := B.ext hE2; have hE3 := hE.trans (hE2.mono (by omega)))
        | (refine fit (.store 255 (.tmp 5) (.tmp 21)) ?_; refine wpl_fresh2 rfl 255 (.tmp 5) (.tmp 21) rfl rfl rfl rfl (BB_size sz255 (bits_length crcPoly)) (by simp [BB_length, bits_length]) (all_oneCell_toArray (BB_one _)) ?_; intro W3 E3 G3 hs3; have B3 := B2.ext E3; have hE4 := hE3.trans (E3.mono (by omega)); have hG3 := G3.lt))
      refine abs_w (fun W => Blk W w.heap.size 255 (BB (bits (st l 0))).toArray ∧ Blk W W2.heap.size 255 (BB (bits crcPoly)).toArray ∧ Ext w W) (fun W ⟨B4, G4, hE5⟩ => ?_) ⟨B3, G3, hE4⟩
      have hsg : w.heap.size < W2.heap.size := B2.lt
      obtain ⟨g, hg⟩ : ∃ g, g = W2.heap.size := ⟨_, rfl⟩
      rw [← hg] at hsg G4 ⊢
      clear hg B2 hE2 hz2 hE3 hE4 E3 G3 B3 hG3 hs3 B hE hk hsz hlt
      have hG4 := G4.lt
      go_loopw [6] (fun i wr => ∃ k : Nat, k ≤ 8 * l.length ∧ i = .int .i64 k ∧ Blk wr w.heap.size 255 (BB (bits (st l k))).toArray ∧ Blk wr g 255 (BB (bits crcPoly)).toArray ∧ Below w.heap.size w wr) (fun i _ => 8 * l.length - (intOf i).toNat)
      case atStart => exact ⟨0, by omega, rfl, B4, G4, hE5⟩
      case round =>
        obtain ⟨k, hk, rfl, B, G, hE⟩ := hrel
        have hB := B.lt
        have hG := G.lt
        by_cases hlt : k < 8 * l.length
        · obtain ⟨ad, rfl, hby⟩ := (HR.out.ext hE).byte (k / 8) (by omega)
          have hbl := u8_lt l[k / 8]
          obtain ⟨x, hx⟩ : ∃ x : Int, x = (l[k / 8].toNat : Int) := ⟨_, rfl⟩
          rw [← hx] at hby hbl
          have hx0 : 0 ≤ x := by omega
          have HX := hid hx
          clear hx
          have hb0 := B.cell 0
          rw [BB_get (by rw [bits_length]; omega), bits_get _ 0 (by omega), bits_0] at hb0
          obtain ⟨s, hs⟩ : ∃ s, s = st l k := ⟨_, rfl⟩
          rw [← hs] at B hb0
          have HS := hid hs
          obtain ⟨m, hm⟩ : ∃ m, m = s.msb := ⟨_, rfl⟩
          rw [← hm] at hb0
          have HM := hid hm
          clear hm hs
          have HB1 : Hid (((x / 2 ^ (7 - k % 8)).tmod 2 == 1) = bitAt l k) := by
            show _ = _
            unfold bitAt
            rw [HX.out, bit_int]
            rw [List.getD_eq_getElem?_getD, List.getElem?_eq_getElem (by omega)]
            rfl
          go_wp2_with (first
            | (refine fit (.store 255 (.tmp 9) (.tmp 44)) ?_; refine wpl_fresh2 rfl 255 (.tmp 9) (.tmp 44) rfl rfl rfl rfl HZ.out rfl HA.out ?_; intro W5 E5 G9 hs5; have B5 := B.ext E5; have G5 := G.ext E5; have hE6 := hE.trans (E5.mono (by omega)); have hG9 := G9.lt))
          obtain ⟨q, hq⟩ : ∃ q, q = wr.heap.size := ⟨_, rfl⟩
          rw [← hq] at G9 hG9 hB hG ⊢
          have HQ := hid hq
          clear hq
          have hcopy := hid ((At.blk B5.dr1).drop 1).rd
          go_region_law (first
            | (refine step_copy_splice rfl (.tmp 45) (.tmp 46) 124 124 rfl 4 Try.underlying124 (by kernel_rfl) _ _ _ _ _ _ rfl rfl q 0 (BB (List.replicate 32 false)) 255 G9.dr1.out (BB ((bits s).drop 1)) (by rw [BB_length]; simp [bits_length]) (fun h => ⟨rfl, (copy_rd hcopy.out).out h⟩) (by rw [BB_length]; simp [bits_length, BB_length]) (BB_one _) q _ (Below.refl _ _) (Nat.le_refl _) ?_; intro W6 hg6 hb6))
          have C9 : Blk W6 q 255 (BB (nx s (s.msb != bitAt l k) 0)).toArray := ⟨by rw [nx_0, ← copy_splice]; exact hg6.out⟩
          obtain ⟨tp, htp⟩ : ∃ tp, tp = (s.msb != bitAt l k) := ⟨_, rfl⟩
          have ht : (!m == ((x / 2 ^ (7 - k % 8)).tmod 2 == 1)) = tp := by rw [HB1.out, HM.out, htp]; cases s.msb <;> cases bitAt l k <;> rfl
          rw [← htp] at C9
          have HTP := hid htp
          have CB := (B5.dr1).below hb6 hB
          have CG := (G5.dr1).below hb6 hG
          have hE7 : Below w.heap.size w W6 := (below_dr hE6 1).trans (hb6.mono (by omega))
          clear hg6 hb6 B5 G5 hE6 hcopy G9 E5 B G hs5
          go_wp2_with fail
          rw [ht]
          clear ht htp
          go_loopw [48] (fun i wi => ∃ j : Nat, j ≤ 32 ∧ i = .int .i64 j ∧ Blk wi q 255 (BB (nx s tp j)).toArray ∧ Blk wi w.heap.size 255 (BB (bits s)).toArray ∧ Blk wi g 255 (BB (bits crcPoly)).toArray ∧ Below w.heap.size w wi) (fun i _ => 32 - (intOf i).toNat)
          case atStart => exact ⟨0, by omega, rfl, C9, CB, CG, hE7⟩
          case round =>
            obtain ⟨j, hj, rfl, D9, DB, DG, hE8⟩ := hrel
            by_cases hlj : j < 32
            · have hb1 := D9.cell j
              have hf1 := D9.frozen j
              have hb2 := DG.cell j
              rw [BB_get (by rw [nx_length]; exact hlj)] at hb1
              rw [BB_get (by rw [bits_length]; exact hlj), bits_get _ _ hlj] at hb2
              obtain ⟨pj, hpj⟩ : ∃ pj, pj = crcPoly.getMsbD j := ⟨_, rfl⟩
              rw [← hpj] at hb2
              have HPJ := hid hpj
              obtain ⟨nj, hnj⟩ : ∃ nj, nj = (nx s tp j)[j]'(by rw [nx_length]; exact hlj) := ⟨_, rfl⟩
              rw [← hnj] at hb1
              have HNJ := hid hnj
              clear hpj hnj
              have hfar : ∀ (i : Nat) (u : Value), Blk (wr.setCell ⟨q, i, none⟩ u) w.heap.size 255 (BB (bits s)).toArray ∧ Blk (wr.setCell ⟨q, i, none⟩ u) g 255 (BB (bits crcPoly)).toArray := fun i u => ⟨DB.far (by simp; omega) u, DG.far (by simp; omega) u⟩
              cases tp <;> cases pj
              · go_wp2
                go_roundw
                case rel => exact ⟨j + 1, by omega, by go_num, by rw [← nx_same s false j (by simp)]; exact D9, DB, DG, hE8⟩
                case measure => simp [intOf]; omega
              · go_wp2
                go_roundw
                case rel => exact ⟨j + 1, by omega, by go_num, by rw [← nx_same s false j (by simp)]; exact D9, DB, DG, hE8⟩
                case measure => simp [intOf]; omega
              · go_wp2
                go_roundw
                case rel => exact ⟨j + 1, by omega, by go_num, by rw [← nx_same s true j (by rw [← HPJ.out]; rfl)]; exact D9, DB, DG, hE8⟩
                case measure => simp [intOf]; omega
              · go_wp2
                go_roundw
                case rel =>
                  refine ⟨j + 1, by omega, by go_num, ?_, (hfar _ _).1, (hfar _ _).2, Below.setCell hE8 (by simp; omega) _⟩
                  have := D9.set_ j (.bool (!nj))
                  rw [BB_set, HNJ.out, nx_next s j hlj HPJ.out.symm] at this
                  rw [HNJ.out]
                  exact this
                case measure => simp [intOf]; omega
            · obtain rfl : j = 32 := by omega
              go_wp2_with (first
                | (refine fit (.load 255 (.tmp 9)) ?_; refine wpl_do rfl (wp_load 255 (.tmp 9) rfl rfl D9 Try.underlying255 rfl (BB_size sz255 (nx_length _ _ _)) ?_))
                | (refine fit (.store 255 (.tmp 3) (.tmp 64)) ?_; refine wpl_store rfl 255 (.tmp 3) (.tmp 64) rfl rfl rfl DB (BB_size sz255 (nx_length _ _ _)) (by simp [BB_length, nx_length, bits_length]) (all_oneCell_toArray (BB_one _)) ?_; intro W9 hW9 DB9 hb9 hf9 hs9))
              go_roundw
              case rel =>
                refine ⟨k + 1, by omega, by go_num, ?_, hf9 _ _ _ (by omega) DG, hE8.trans (hb9.mono (Nat.le_refl _))⟩
                rw [HTP.out, nx_32, HS.out] at DB9
                exact DB9
              case measure => simp [intOf]; omega
        · obtain rfl : k = 8 * l.length := by omega
          rw [st_all] at B
          obtain ⟨i4, hi4, hz40, hz41, hz42⟩ := info_parts info4
          have Hi4 := hid hi4
          have H41 := hid hz41
          clear hi4 hz40 hz41 hz42
          obtain ⟨S, hS⟩ : ∃ S, S = crc 0xffffffff#32 l := ⟨_, rfl⟩
          rw [← hS] at B
          have HS2 := hid hS
          clear hS
          go_wp2_with (refine fit (.load 255 (.tmp 3)) ?_; refine wpl_do rfl (wp_load 255 (.tmp 3) rfl rfl B Try.underlying255 rfl (BB_size sz255 (bits_length _)) ?_))
          all_goals
            go_loop [11, 66] (fun z i => ∃ (k : Nat) (y : Int), k ≤ 32 ∧ i = .int .i64 k ∧ z = .int .u32 y ∧ 0 ≤ y ∧ Hid (y = tops S k)) (fun _ i => 32 - (intOf i).toNat)
            case atStart => exact ⟨0, 0, by omega, rfl, rfl, by omega, by rw [tops_0]; rfl⟩
            case round =>
              obtain ⟨k, y, hk, rfl, rfl, hy0, HY⟩ := hrel
              by_cases hlk : k < 32
              · have hy1 : y < 2147483648 := tops_ltI HY.out hlk
                have HT := hid (tops_next S k hlk)
                cases hbit : S.getMsbD k
                · go_wp2_with (refine fit (.index 255 (.tmp 65) (.tmp 66)) ?_; refine wpl_idxBB rfl 255 (.tmp 65) (.tmp 66) rfl Try.underlying255 Hi4.out H41.out Try.underlying4 rfl rfl (bits_length _) (by rw [bits_length]; exact hlk) ?_; rw [bits_get _ _ hlk, hbit])
                  go_round
                  case rel =>
                    refine ⟨k + 1, y * 2, by omega, by go_num, rfl, by omega, ?_⟩
                    show _ = _
                    rw [HT.out, hbit, HY.out]; simp; omega
                  case measure => simp [intOf]; omega
                · go_wp2_with (refine fit (.index 255 (.tmp 65) (.tmp 66)) ?_; refine wpl_idxBB rfl 255 (.tmp 65) (.tmp 66) rfl Try.underlying255 Hi4.out H41.out Try.underlying4 rfl rfl (bits_length _) (by rw [bits_length]; exact hlk) ?_; rw [bits_get _ _ hlk, hbit])
                  go_round
                  case rel =>
                    refine ⟨k + 1, y * 2 + 1, by omega, by go_num, rfl, by omega, ?_⟩
                    show _ = _
                    rw [HT.out, hbit, HY.out]; simp; omega
                  case measure => simp [intOf]; omega
              · go_wp2
                go_ret
                obtain rfl : k = 32 := by omega
                refine ⟨?_, hE⟩
                show Ending.returned (.int .u32 y) = _
                rw [HY.out, tops_32, HS2.out]
end Go.Proofs.Ytnggcldghpmeaaa
