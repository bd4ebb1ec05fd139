/- The package leaf: whether two nodes are the same, walked on. -/
import Derived.Test.YtnggcldghpmeaaaL15
import Derived.Test.YtnggcldghpmeaaaW6
set_option linter.unusedVariables false
set_option linter.unusedSimpArgs false
set_option maxRecDepth 100000
namespace Go.Proofs.Ytnggcldghpmeaaa
open Go.RowKit
attribute [local irreducible] Calls
/-- Are two nodes the same? -/
def sameN (k : Int) (b : List UInt8) (l : List (Int × Int)) (k' : Int) (b' : List UInt8) (m : List (Int × Int)) : Bool := decide (k = k') && decide (b = b') && decide (l = m)
set_option maxHeartbeats 4000000 in
theorem Same_calls {w : World} {A A2 : Option Addr} {c c2 : Nat} (k k' : Int) (b b' : List UInt8) (l m : List (Int × Int)) (hb : b.length = 16) (hb' : b'.length = 16) (hr : Rd w A (EV l)) (hr2 : Rd w A2 (EV m)) (hl : l.length ≤ 100000) (hm : m.length ≤ 100000) :
    Calls Try.prog 42 #[.agg (NV k b A l.length c), .agg (NV k' b' A2 m.length c2)] w fun e w' => e = .returned (.bool (sameN k b l k' b' m)) ∧ Ext w w' := by
  have N0 := NV0 (k := k) (b := b) (A := A) (n := l.length) (c := c)
  have N17 := NV17 (k := k) (A := A) (n := l.length) (c := c) hb
  have M0 := NV0 (k := k') (b := b') (A := A2) (n := m.length) (c := c2)
  have M17 := NV17 (k := k') (A := A2) (n := m.length) (c := c2) hb'
  have EQ := fun W (h : Ext w W) => hid (Equal_calls (c := c) (c2 := c2) l m (hr.ext h) (hr2.ext h) hl hm)
  have HA := hid (NV_at ((Blk.new w 50 (NV k b A l.length c)).al (.cells (NV k' b' A2 m.length c2) 50)) hb)
  have HA2 : Hid (At ((w.alloc (.cells (NV k b A l.length c) 50)).alloc (.cells (NV k' b' A2 m.length c2) 50)) ⟨w.heap.size + 1, 1, none⟩ (BV b')) := hid (NV_at (Blk.new_ (by simp)) hb')
  have HB := hid hb
  have HB2 := hid hb'
  have HI : Hid ((Try.prog.info? 47).map (·.size) = some (BV b).length) := hid (by rw [BV_length, hb]; exact sz47)
  have HI2 : Hid ((Try.prog.info? 47).map (·.size) = some (BV b').length) := hid (by rw [BV_length, hb']; exact sz47)
  obtain ⟨i0, hi, hz0, hz1, hz2⟩ := info_parts info5
  have Hi := hid hi
  obtain ⟨r, hrr⟩ : ∃ r, r = sameN k b l k' b' m := ⟨_, rfl⟩
  rw [← hrr]
  have HR := hid hrr
  clear hrr hi hz0 hz1 hz2 hb hb' hr hr2 hl hm
  generalize NV k b A l.length c = nv at *
  generalize NV k' b' A2 m.length c2 = nv2 at *
  by_cases hk : k = k'
  · subst hk
    by_cases hbb : b = b'
    · have HBB := hid hbb
      have HRR : Hid (r = decide (l = m)) := hid (by rw [HR.out]; simp [sameN, hbb])
      clear hbb
      go_enter Try.func42, Try.ntmps42
      go_wp2_with (first
        | (refine fit (.load 47 (.tmp 11)) ?_; refine wpl_do rfl (wp_loadAt 47 (.tmp 11) rfl rfl (BV b) HA.out Try.underlying47 rfl HI.out ?_))
        | (refine fit (.load 47 (.tmp 13)) ?_; refine wpl_do rfl (wp_loadAt 47 (.tmp 13) rfl rfl (BV b') HA2.out Try.underlying47 rfl HI2.out ?_))
        | (refine fit (.binOp .eql 47 (.tmp 12) (.tmp 14) 47) ?_; refine wpl_eq_bytes rfl .eql (.inl rfl) 47 (.tmp 12) (.tmp 14) 47 rfl Try.underlying47 Hi.out co5 Try.underlying5 eg47 rfl rfl HB.out HB2.out true (by rw [HBB.out]; simp) ?_)
        | (go_at_call 98; refine (EQ _ ((Ext.rfl'.al _).al _)).out.mono ?_; rintro e w1 ⟨rfl, hE1⟩))
      go_ret
      exact ⟨by rw [HRR.out]; rfl, ((Ext.rfl'.al _).al _).tr hE1⟩
    · have HBB := hid hbb
      have HRR : Hid (r = false) := hid (by rw [HR.out]; simp [sameN, hbb])
      clear hbb
      go_enter Try.func42, Try.ntmps42
      go_wp2_with (first
        | (refine fit (.load 47 (.tmp 11)) ?_; refine wpl_do rfl (wp_loadAt 47 (.tmp 11) rfl rfl (BV b) HA.out Try.underlying47 rfl HI.out ?_))
        | (refine fit (.load 47 (.tmp 13)) ?_; refine wpl_do rfl (wp_loadAt 47 (.tmp 13) rfl rfl (BV b') HA2.out Try.underlying47 rfl HI2.out ?_))
        | (refine fit (.binOp .eql 47 (.tmp 12) (.tmp 14) 47) ?_; refine wpl_eq_bytes rfl .eql (.inl rfl) 47 (.tmp 12) (.tmp 14) 47 rfl Try.underlying47 Hi.out co5 Try.underlying5 eg47 rfl rfl HB.out HB2.out false (by have := HBB.out; simp [this]) ?_))
      go_ret
      exact ⟨by rw [HRR.out]; rfl, (Ext.rfl'.al _).al _⟩
  · have HRR : Hid (r = false) := hid (by rw [HR.out]; simp [sameN, hk])
    go_enter Try.func42, Try.ntmps42
    go_wp2
    go_ret
    exact ⟨by rw [HRR.out]; rfl, (Ext.rfl'.al _).al _⟩
end Go.Proofs.Ytnggcldghpmeaaa
