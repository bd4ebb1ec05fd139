/- The stand-in for a disk: reading a page behind writes that may be lost, walked. -/
import Derived.Test.YtnggcldghpmeaaaD2
set_option linter.unusedVariables false
set_option linter.unusedSimpArgs false
set_option maxRecDepth 100000
namespace Go.Proofs.Ytnggcldghpmeaaa
open Go.RowKit
attribute [local irreducible] Calls
theorem run_check0 (w : World) (n : Nat) (b : Bool) (i : Int) : (Instr.checkKey b (n + 1) 3 (.int .i64 i)).run Try.prog w = .ok () w := by
  unfold Instr.checkKey
  rw [Sem.run_bind, run_underlying Try.underlying3]
  rfl
theorem run_find0 (w : World) (i : Int) : (Instr.findKey 3 (.int .i64 i) []).run Try.prog w = .ok none w := by
  unfold Instr.findKey
  rw [Sem.run_bind, run_underlying Try.underlying3]
  rfl
theorem info3 : (Try.prog.info? 3).map (fun i => (i.zero, i.size, i.bytes)) = some (some (.int .i64 0), 1, 8) := by kernel_rfl
theorem run_zero3 (w : World) : (zeroValue 3).run Try.prog w = .ok (.int .i64 0) w := by
  obtain ⟨i0, hi, hz0, hz1, hz2⟩ := info_parts info3
  simp [zeroValue, typeInfo, hi, hz0]
/-- A look into an empty map from numbers to numbers. -/
theorem run_lookup0 (w : World) {M ck : Nat} (hm : w.heap[M]? = some (.map #[] ck)) (i : Int) : (Instr.lookup 147 (.map (some M)) (.int .i64 i) false).run Try.prog w = .ok (.int .i64 0) w := by
  unfold Instr.lookup
  simp only [Sem.run_bind, run_underlying Try.underlying147, Result.andThen_ok, MapKept.run_getObj_map hm, Sem.run_pure]
  rw [run_check0 w 9999]
  simp only [Result.andThen_ok, Array.toList_empty, run_find0, run_zero3, Sem.run_bind, Sem.run_pure]
  rfl
theorem wp_lookup0 {w : World} {o : Oper} {a : Act} {K : Act → World → Prop} {Q : Exit → Act → World → Prop} (x y : Operand) (ho : o.op = .lookup 147 x y false) {M ck : Nat} {i : Int} (hx : a.eval x = .map (some M)) (hy : a.eval y = .int .i64 i)
    (hm : w.heap[M]? = some (.map #[] ck)) (h : K (a.put o.dst (.int .i64 0)) w) : o.wp Try.prog a w K Q := by
  unfold Oper.wp execOp
  simp only [ho, hx, hy, Sem.run_bind, run_lookup0 w hm i, Result.andThen_ok, Sem.run_pure]
  exact h
section
variable {w : World} {lo g S M ck pc : Nat} {ds : DS} {Pd : Option Addr}
/-- What a reader sees of page i. -/
def seen (base : List UInt8) (l : List (Nat × List UInt8)) (i : Nat) : List UInt8 := l.foldl (fun out p => if p.1 = i then p.2 else out) base
theorem sz215 : (Try.prog.info? 215).map (·.size) = some 257 := by kernel_rfl
theorem zs215 : Try.zeroCells215.size = 257 := by kernel_rfl
theorem PD_at : ∀ (l : List (Nat × List UInt8)) (k : Nat) (h : k < l.length), (∀ q ∈ l, q.2.length = 256) → ((PD l).drop (k * 257)).take 257 = .int .i64 l[k].1 :: BV l[k].2
  | q :: l, 0, _, hp => by
    have := hp q (by simp)
    simp only [PD, List.flatMap_cons, Nat.zero_mul, List.drop_zero]
    rw [List.take_append_of_le_length (by simp [BV_length, this]), List.take_of_length_le (by simp [BV_length, this])]
    rfl
  | q :: l, k + 1, h, hp => by
    have h1 := hp q (by simp)
    have ih := PD_at l k (by simpa using h) (fun q hq => hp q (by simp [hq]))
    have e : PD (q :: l) = (.int .i64 q.1 :: BV q.2) ++ PD l := by simp [PD]
    have hl : (Value.int .i64 (q.1 : Int) :: BV q.2).length = 257 := by simp [BV_length, h1]
    rw [e, Nat.succ_mul, Nat.add_comm (k * 257) 257, ← List.drop_drop, ← hl, List.drop_left, hl]
    simpa using ih
theorem seen_snoc (base : List UInt8) (l : List (Nat × List UInt8)) (i k : Nat) (h : k < l.length) : seen base (l.take (k + 1)) i = if l[k].1 = i then l[k].2 else seen base (l.take k) i := by
  unfold seen
  rw [take_snoc l k h, List.foldl_append]
  rfl
set_option maxHeartbeats 1000000 in
theorem DRead_in (D : DiskAt w lo g ds S M ck Pd pc) (i : Nat) (h : i < ds.st.length) (y : Int) (hy : y = i) (hp : ∀ q ∈ ds.pend, q.2.length = 256) (hpl : ds.pend.length ≤ 100000) : Calls Try.prog 70 #[.pointer (some ⟨g, 0, none⟩), .int .i64 y] w fun e w' => e = .returned (.tuple #[.agg (BV (seen ds.st[i] ds.pend i)).toArray, .int .i64 0]) ∧ Ext w w' := by
  have St := fun W (h' : Ext w W) => hid (Stable_in (D.ext h') i h y hy)
  have c1 : ∀ W, Ext w W → W.cell? ⟨g, 1, none⟩ = some (.map (some M)) := fun W h => (D.ext h).blk.cell 1
  have c2 : ∀ W, Ext w W → W.cell? ⟨g, 2, none⟩ = some (.slice Pd ds.pend.length pc) := fun W h => (D.ext h).blk.cell 2
  have cm : ∀ W, Ext w W → W.heap[M]? = some (.map #[] ck) := fun W h => (D.ext h).mp
  have HL := hid (D.pg _ (List.getElem_mem h))
  have HS := hid (BV_size sz28 HL.out)
  have HZ : Hid (Try.zeroCells28.size = (BV ds.st[i]).toArray.size) := hid (by rw [z28]; exact BV_sizes (by rw [HL.out]; simp))
  have HD := hid D
  clear D
  generalize ds.st[i] = p at *
  subst hy
  go_enter Try.func70, Try.ntmps70
  go_wp2_with (first
    | (go_at_call 85; refine (St _ (Ext.rfl'.al _)).out.mono ?_; rintro e w1 ⟨rfl, hE1⟩; have E1 := (Ext.rfl'.al (.cells Try.zeroCells28 28)).tr hE1; have B4 : Blk w1 w.heap.size 28 Try.zeroCells28 := (Blk.new w 28 _).ext hE1)
    | (refine fit (.store 28 (.tmp 6) (.tmp 14)) ?_; refine wpl_fresh rfl 28 (.tmp 6) (.tmp 14) rfl rfl rfl HS.out HZ.out (BV_all _) ?_; intro W2 hE2 Z2 hs2; have E2 := E1.tr hE2; have C4 := B4.ext hE2; have d1 := c1 _ E2; have d2 := c2 _ E2; have dm := cm _ E2)
    | (refine fit (.lookup 147 (.tmp 23) (.tmp 24) false) ?_; refine wpl_do rfl (wp_lookup0 (.tmp 23) (.tmp 24) rfl rfl rfl dm ?_)))
  have hp0 := HL.out
  obtain ⟨q, hq⟩ : ∃ q, q = w1.heap.size := ⟨_, rfl⟩
  rw [← hq] at Z2 ⊢
  have hwq : w.heap.size < q := by rw [hq]; exact B4.lt
  have HR := hid HD.out.own.rd
  have HPG := hid hp
  clear hq hp
  go_loopw [33] (fun j wr => ∃ k : Nat, k ≤ ds.pend.length ∧ j = .int .i64 k ∧ Blk wr q 28 (BV (seen p (ds.pend.take k) i)).toArray ∧ (seen p (ds.pend.take k) i).length = 256 ∧ Below q W2 wr) (fun j _ => ds.pend.length - (intOf j).toNat)
  case atStart => exact ⟨0, by omega, rfl, Z2, hp0, Below.refl _ _⟩
  case round =>
    obtain ⟨k, hk, rfl, Z, hzl, hB⟩ := hrel
    have E3 : Ext w wr := E2.trans (hB.mono (by omega))
    by_cases hlt : k < ds.pend.length
    · obtain ⟨ad, rfl, _⟩ := HR.out.at_ (k * 257) (by rw [HD.out.own.len]; omega)
      have hat := ((At.of (HR.out.ext E3)).drop (k * 257)).take 257
      rw [PD_at _ k hlt HPG.out] at hat
      have HAT := hid hat
      clear hat
      have HPK := hid (HPG.out ds.pend[k] (List.getElem_mem hlt))
      have HN := hid (seen_snoc p ds.pend i k hlt)
      generalize ds.pend[k] = pk at *
      have HI := hid (show (Try.prog.info? 215).map (·.size) = some ((Value.int .i64 (pk.1 : Int) :: BV pk.2).length) by simp only [List.length_cons, BV_length, HPK.out]; exact sz215)
      have HI2 := hid (show (Try.prog.info? 215).map (·.size) = some (Value.int .i64 (pk.1 : Int) :: BV pk.2).toArray.size by simpa using HI.out)
      have HZ2 := hid (show Try.zeroCells215.size = (Value.int .i64 (pk.1 : Int) :: BV pk.2).toArray.size by rw [zs215]; simp [BV_length, HPK.out])
      have HI8 := hid (show (Try.prog.info? 28).map (·.size) = some (BV pk.2).length by rw [BV_length, HPK.out]; exact sz28)
      have HI9 := hid (BV_size sz28 HPK.out)
      have HI7 := hid (BV_sizes (hzl.trans HPK.out.symm))
      have HO := hid (show (Value.int .i64 (pk.1 : Int) :: BV pk.2).toArray.all (·.oneCell') = true from all_oneCell_toArray (by intro u hu; rcases List.mem_cons.1 hu with rfl | h; rfl; exact BV_one _ u h))
      obtain ⟨pa, pg⟩ := pk
      simp only at *
      by_cases hpi : pa = i
      · subst hpi
        go_wp2_with (first
          | (refine fit (.load 215 (.tmp 35)) ?_; refine wpl_do rfl (wp_loadAt 215 (.tmp 35) rfl rfl (.int .i64 (pa : Int) :: BV pg) HAT.out Try.underlying215 rfl HI.out ?_))
          | (refine fit (.store 215 (.tmp 9) (.tmp 36)) ?_; refine wpl_fresh rfl 215 (.tmp 9) (.tmp 36) rfl rfl rfl HI2.out HZ2.out HO.out ?_; intro W4 E4 G9 hs4; have c9 : W4.cell? ⟨wr.heap.size, 0, none⟩ = some (.int .i64 (pa : Int)) := G9.cell 0; have A9 : At W4 ⟨wr.heap.size, 1, none⟩ (BV pg) := (At.blk G9).drop 1; have Z9 := Z.ext E4)
          | (refine fit (.load 28 (.tmp 41)) ?_; refine wpl_do rfl (wp_loadAt 28 (.tmp 41) rfl rfl (BV pg) A9 Try.underlying28 rfl HI8.out ?_))
          | (refine fit (.store 28 (.tmp 6) (.tmp 42)) ?_; refine wpl_store rfl 28 (.tmp 6) (.tmp 42) rfl rfl rfl Z9 HI9.out HI7.out (BV_all _) ?_; intro W5 hW5 G5 hb5 hf5 hs5))
        go_roundw
        case rel =>
          have hN := HN.out
          rw [if_pos rfl] at hN
          exact ⟨k + 1, by omega, by go_num, by rw [hN]; exact G5, by rw [hN]; exact HPK.out, (hB.trans (E4.mono (by have := Z.lt; omega))).trans (hb5.mono (Nat.le_refl _))⟩
        case measure => simp [intOf]; omega
      · skip
        go_wp2_with (first
          | (refine fit (.load 215 (.tmp 35)) ?_; refine wpl_do rfl (wp_loadAt 215 (.tmp 35) rfl rfl (.int .i64 (pa : Int) :: BV pg) HAT.out Try.underlying215 rfl HI.out ?_))
          | (refine fit (.store 215 (.tmp 9) (.tmp 36)) ?_; refine wpl_fresh rfl 215 (.tmp 9) (.tmp 36) rfl rfl rfl HI2.out HZ2.out HO.out ?_; intro W4 E4 G9 hs4; have c9 : W4.cell? ⟨wr.heap.size, 0, none⟩ = some (.int .i64 (pa : Int)) := G9.cell 0; have A9 : At W4 ⟨wr.heap.size, 1, none⟩ (BV pg) := (At.blk G9).drop 1; have Z9 := Z.ext E4)
          | (refine fit (.load 28 (.tmp 41)) ?_; refine wpl_do rfl (wp_loadAt 28 (.tmp 41) rfl rfl (BV pg) A9 Try.underlying28 rfl HI8.out ?_))
          | (refine fit (.store 28 (.tmp 6) (.tmp 42)) ?_; refine wpl_store rfl 28 (.tmp 6) (.tmp 42) rfl rfl rfl Z9 HI9.out HI7.out (BV_all _) ?_; intro W5 hW5 G5 hb5 hf5 hs5))
        go_roundw
        case rel =>
          have hN := HN.out
          rw [if_neg hpi] at hN
          exact ⟨k + 1, by omega, by go_num, by rw [hN]; exact Z9, by rw [hN]; exact hzl, hB.trans (E4.mono (by have := Z.lt; omega))⟩
        case measure => simp [intOf]; omega
    · obtain rfl : k = ds.pend.length := by omega
      rw [List.take_length] at Z hzl
      have F4 := C4.below hB hwq
      have HI9 := hid (BV_size sz28 hzl)
      have HZ9 : Hid (Try.zeroCells28.size = (BV (seen p ds.pend i)).toArray.size) := hid (by rw [z28]; exact BV_sizes (by rw [hzl]; simp))
      go_wp2_with (first
        | (refine fit (.load 28 (.tmp 6)) ?_; refine wpl_do rfl (wp_load 28 (.tmp 6) rfl rfl Z Try.underlying28 rfl HI9.out ?_))
        | (refine fit (.store 28 (.tmp 4) (.tmp 44)) ?_; refine wpl_store rfl 28 (.tmp 4) (.tmp 44) rfl rfl rfl F4 HI9.out HZ9.out (BV_all _) ?_; intro W5 hW5 G5 hb5 hf5 hs5))
      exact ret2 rfl (RV.cell rfl G5 Try.underlying28 rfl HI9.out) (RV.tmp rfl) rfl ⟨rfl, E3.trans (hb5.mono (Nat.le_refl _))⟩
end
end Go.Proofs.Ytnggcldghpmeaaa
