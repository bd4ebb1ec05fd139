/- The reference of layer 8: whether two nodes are the same, walked. -/
import Derived.Test.YtnggcldghpmeaaaL16
set_option linter.unusedVariables false
set_option linter.unusedSimpArgs false
set_option maxRecDepth 100000
namespace Go.Proofs.Ytnggcldghpmeaaa
open Go.RowKit
attribute [local irreducible] Calls
set_option maxHeartbeats 4000000 in
/-- The reference finds a node the same as itself. -/
theorem RSame_calls {w : World} {A A2 : Option Addr} {c c2 : Nat} (k : Int) (b : List UInt8) (l : List (Int × Int)) (hb : b.length = 16) (hr : Rd w A (EV l)) (hr2 : Rd w A2 (EV l)) (hl : l.length ≤ 100000) :
    Calls Try.prog 39 #[.agg (NV k b A l.length c), .agg (NV k b A2 l.length c2)] w fun e w' => e = .returned (.bool true) ∧ Ext w w' := by
  have N0 := NV0 (k := k) (b := b) (A := A) (n := l.length) (c := c)
  have N17 := NV17 (k := k) (A := A) (n := l.length) (c := c) hb
  have M0 := NV0 (k := k) (b := b) (A := A2) (n := l.length) (c := c2)
  have M17 := NV17 (k := k) (A := A2) (n := l.length) (c := c2) hb
  have HA := hid (NV_at ((Blk.new w 50 (NV k b A l.length c)).al (.cells (NV k b A2 l.length c2) 50)) hb)
  have HA2 : Hid (At ((w.alloc (.cells (NV k b A l.length c) 50)).alloc (.cells (NV k b A2 l.length c2) 50)) ⟨w.heap.size + 1, 1, none⟩ (BV b)) := hid (NV_at (Blk.new_ (by simp)) hb)
  have HB := hid hb
  have HI : Hid ((Try.prog.info? 47).map (·.size) = some (BV b).length) := hid (by rw [BV_length, hb]; exact sz47)
  obtain ⟨i0, hi, hz0, hz1, hz2⟩ := info_parts info5
  have Hi := hid hi
  clear hi hz0 hz1 hz2 hb
  generalize NV k b A l.length c = nv at *
  generalize NV k b A2 l.length c2 = nv2 at *
  go_enter Try.func39, Try.ntmps39
  go_wp2_with (first
    | (refine fit (.load 47 (.tmp 12)) ?_; refine wpl_do rfl (wp_loadAt 47 (.tmp 12) rfl rfl (BV b) HA.out Try.underlying47 rfl HI.out ?_))
    | (refine fit (.load 47 (.tmp 14)) ?_; refine wpl_do rfl (wp_loadAt 47 (.tmp 14) rfl rfl (BV b) HA2.out Try.underlying47 rfl HI.out ?_))
    | (refine fit (.binOp .neq 47 (.tmp 13) (.tmp 15) 47) ?_; refine wpl_eq_bytes rfl .neq (.inr rfl) 47 (.tmp 13) (.tmp 15) 47 rfl Try.underlying47 Hi.out co5 Try.underlying5 eg47 rfl rfl HB.out HB.out false (by simp) ?_))
  have B0 := hid ((Blk.new w 50 nv).al (.cells nv2 50))
  have B1 : Hid (Blk ((w.alloc (.cells nv 50)).alloc (.cells nv2 50)) (w.heap.size + 1) 50 nv2) := hid (Blk.new_ (by simp))
  have E0 : Hid (Ext w ((w.alloc (.cells nv 50)).alloc (.cells nv2 50))) := hid ((Ext.rfl'.al _).al _)
  have HN17 := hid N17
  have HM17 := hid M17
  clear N0 N17 M0 M17 HA HA2
  generalize (w.alloc (.cells nv 50)).alloc (.cells nv2 50) = W0 at *
  go_loopw [30] (fun i wr => ∃ k : Nat, k ≤ l.length ∧ i = .int .i64 k ∧ Ext W0 wr) (fun i _ => l.length - (intOf i).toNat)
  case atStart => exact ⟨0, by omega, rfl, Ext.rfl'⟩
  case round =>
    obtain ⟨j, hj, rfl, E1⟩ := hrel
    have HE1 := hid E1
    clear E1
    by_cases hlt : j < l.length
    · obtain ⟨ad, rfl, hat⟩ := EV_at (hr.ext (E0.out.tr HE1.out)) j hlt
      obtain ⟨ad2, rfl, hat2⟩ := EV_at (hr2.ext (E0.out.tr HE1.out)) j hlt
      generalize l[j] = x at *
      obtain ⟨a, p⟩ := x
      simp only at hat hat2
      have HI6 := hid sz60
      have HAT := hid hat.dr1
      have HAT2 := hid hat2.dr1
      have C0 := hid (B0.out.ext HE1.out).dr1
      have C1 := hid (B1.out.ext HE1.out).dr1
      clear hat hat2
      go_wp2
      rename_i K1 hK1
      refine seq (fun W => Ext wr.drew W) [0, 1, 2, 3, 4, 5, 6, 7, 8, 9, 10] (by kernel_rfl) (by kernel_rfl) (by kernel_rfl) (by decide) (fun _ _ _ _ _ h => h) Ext.rfl' ?_
      refine seq_take (v := ?_) rfl rfl rfl (fun W hW => ?_) ?_
      rotate_left
      · go_simp
        rfl
      try simp only [Act.put, List.getElem_toArray, List.getElem_cons_zero, List.getElem_cons_succ, List.setIfInBounds_toArray, List.set_cons_zero, List.set_cons_succ]
      refine seq_take (v := ?_) rfl rfl rfl (fun W hW => ?_) ?_
      rotate_left
      · have c17 := ((C0.out.ext hW).cell 17).trans HN17.out;go_simp
        rfl
      try simp only [Act.put, List.getElem_toArray, List.getElem_cons_zero, List.getElem_cons_succ, List.setIfInBounds_toArray, List.set_cons_zero, List.set_cons_succ]
      refine seq_take (v := ?_) rfl rfl rfl (fun W hW => ?_) ?_
      rotate_left
      · go_simp
        rfl
      try simp only [Act.put, List.getElem_toArray, List.getElem_cons_zero, List.getElem_cons_succ, List.setIfInBounds_toArray, List.set_cons_zero, List.set_cons_succ]
      refine seq_take (v := ?_) rfl rfl rfl (fun W hW => ?_) ?_
      rotate_left
      · go_simp
        rfl
      try simp only [Act.put, List.getElem_toArray, List.getElem_cons_zero, List.getElem_cons_succ, List.setIfInBounds_toArray, List.set_cons_zero, List.set_cons_succ]
      refine seq_loadAt rfl 60 (.tmp 36) rfl rfl rfl [.int .i64 a, .int .i64 p] (fun W hW => HAT.out.ext hW) Try.underlying60 rfl HI6.out ?_
      try simp only [Act.put, List.getElem_toArray, List.getElem_cons_zero, List.getElem_cons_succ, List.setIfInBounds_toArray, List.set_cons_zero, List.set_cons_succ]
      refine seq_take (v := ?_) rfl rfl rfl (fun W hW => ?_) ?_
      rotate_left
      · go_simp
        rfl
      try simp only [Act.put, List.getElem_toArray, List.getElem_cons_zero, List.getElem_cons_succ, List.setIfInBounds_toArray, List.set_cons_zero, List.set_cons_succ]
      refine seq_take (v := ?_) rfl rfl rfl (fun W hW => ?_) ?_
      rotate_left
      · have c17 := ((C1.out.ext hW).cell 17).trans HM17.out;go_simp
        rfl
      try simp only [Act.put, List.getElem_toArray, List.getElem_cons_zero, List.getElem_cons_succ, List.setIfInBounds_toArray, List.set_cons_zero, List.set_cons_succ]
      refine seq_take (v := ?_) rfl rfl rfl (fun W hW => ?_) ?_
      rotate_left
      · go_simp
        rfl
      try simp only [Act.put, List.getElem_toArray, List.getElem_cons_zero, List.getElem_cons_succ, List.setIfInBounds_toArray, List.set_cons_zero, List.set_cons_succ]
      refine seq_take (v := ?_) rfl rfl rfl (fun W hW => ?_) ?_
      rotate_left
      · go_simp
        rfl
      try simp only [Act.put, List.getElem_toArray, List.getElem_cons_zero, List.getElem_cons_succ, List.setIfInBounds_toArray, List.set_cons_zero, List.set_cons_succ]
      refine seq_loadAt rfl 60 (.tmp 41) rfl rfl rfl [.int .i64 a, .int .i64 p] (fun W hW => HAT2.out.ext hW) Try.underlying60 rfl HI6.out ?_
      try simp only [Act.put, List.getElem_toArray, List.getElem_cons_zero, List.getElem_cons_succ, List.setIfInBounds_toArray, List.set_cons_zero, List.set_cons_succ]
      refine seq_take (v := .bool false) rfl rfl rfl (fun W hW => ?_) ?_
      · go_simp
      try simp only [Act.put, List.getElem_toArray, List.getElem_cons_zero, List.getElem_cons_succ, List.setIfInBounds_toArray, List.set_cons_zero, List.set_cons_succ]
      refine seq_nil ?_
      refine hK1 _ _ ?_
      go_wp2
      go_roundw
      case rel => exact ⟨j + 1, by omega, by go_num, HE1.out.dr1⟩
      case measure => simp [intOf]; omega
    · obtain rfl : j = l.length := by omega
      go_wp2
      go_ret
      exact ⟨rfl, E0.out.tr HE1.out⟩
end Go.Proofs.Ytnggcldghpmeaaa
