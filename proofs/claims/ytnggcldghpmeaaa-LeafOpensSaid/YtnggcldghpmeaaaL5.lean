/- The package leaf: which nodes can be, walked. -/
import Derived.Test.YtnggcldghpmeaaaL4
import Derived.Test.YtnggcldghpmeaaaW6
set_option linter.unusedVariables false
set_option linter.unusedSimpArgs false
set_option maxRecDepth 100000
namespace Go.Proofs.Ytnggcldghpmeaaa
open Go.RowKit
attribute [local irreducible] Calls
/-- A node's cells: its kind, its block, its entries. -/
def NV (k : Int) (b : List UInt8) (A : Option Addr) (n c : Nat) : Array Value := (.int .i64 k :: (BV b ++ [.slice A n c])).toArray
section
variable {k : Int} {b : List UInt8} {A : Option Addr} {n c : Nat}
theorem NV0 : (NV k b A n c)[0]? = some (.int .i64 k) := rfl
theorem NV17 (hb : b.length = 16) : (NV k b A n c)[17]? = some (.slice A n c) := by
  unfold NV
  simp [List.getElem?_append_right, BV_length, hb]
theorem NV_blk (hb : b.length = 16) : (((NV k b A n c).toList.drop 1).take 16) = BV b := by
  unfold NV
  simp [List.take_append_of_le_length, BV_length, hb]
theorem NV_size (hb : b.length = 16) : (NV k b A n c).size = 18 := by simp [NV, BV_length, hb]
theorem NV_one : (NV k b A n c).all (·.oneCell') = true := by
  unfold NV
  refine all_oneCell_toArray ?_
  intro u hu
  rcases List.mem_cons.1 hu with rfl | h
  · rfl
  · rcases List.mem_append.1 h with h | h
    · exact BV_one _ u h
    · obtain rfl := List.mem_singleton.1 h; rfl
theorem NV_at {w : World} {g : Nat} {t : TypeId} (B : Blk w g t (NV k b A n c)) (hb : b.length = 16) : At w ⟨g, 1, none⟩ (BV b) := by
  have := ((At.blk B).drop 1).take 16
  rw [NV_blk hb] at this
  exact this
end
theorem sz50 : (Try.prog.info? 50).map (·.size) = some 18 := by kernel_rfl
theorem sz47 : (Try.prog.info? 47).map (·.size) = some 16 := by kernel_rfl
theorem eg47 : Try.prog.eqGuardType Try.prog.depth 47 = false := by kernel_rfl
/-- Can the node be? -/
def rightB (k : Int) (b : List UInt8) (l : List (Int × Int)) : Bool :=
  if k = 1 then decide (l.length = 0) else if k = 2 ∨ k = 3 then decide (b = List.replicate 16 0) && decide (l.length ≤ 6) && risesB l else false
set_option maxHeartbeats 4000000 in
theorem Right_calls {w : World} {A : Option Addr} {c : Nat} (k : Int) (b : List UInt8) (l : List (Int × Int)) (hb : b.length = 16) (hr : Rd w A (EV l)) (hl : l.length ≤ 100000) :
    Calls Try.prog 40 #[.agg (NV k b A l.length c)] w fun e w' => e = .returned (.bool (rightB k b l)) ∧ Ext w w' := by
  have N0 := NV0 (k := k) (b := b) (A := A) (n := l.length) (c := c)
  have N17 := NV17 (k := k) (A := A) (n := l.length) (c := c) hb
  have RI := fun W (h : Ext w W) => hid (rises_calls (c := c) l (hr.ext h) hl)
  have HA := hid (NV_at (Blk.new w 50 (NV k b A l.length c)) hb)
  have HB := hid hb
  have HI8 : Hid ((Try.prog.info? 47).map (·.size) = some (BV b).length) := hid (by rw [BV_length, hb]; exact sz47)
  obtain ⟨zb, hzb⟩ : ∃ zb : List UInt8, zb = List.replicate 16 0 := ⟨_, rfl⟩
  have HZL : Hid (zb.length = 16) := hid (by rw [hzb]; simp)
  have HZX : Hid ((BV zb).toArray = (BV (List.replicate 16 0)).toArray) := hid (by rw [hzb])
  have HRB : Hid (rightB k b l = if k = 1 then decide (l.length = 0) else if k = 2 ∨ k = 3 then decide (b = zb) && decide (l.length ≤ 6) && risesB l else false) := hid (by rw [hzb]; rfl)
  obtain ⟨i0, hi, hz0, hz1, hz2⟩ := info_parts info5
  have Hi := hid hi
  clear hi hz0 hz1 hz2 hb hzb hr
  generalize NV k b A l.length c = nv at *
  obtain ⟨r, hrr⟩ : ∃ r, r = rightB k b l := ⟨_, rfl⟩
  rw [← hrr] at HRB ⊢
  clear hrr
  by_cases h1 : k = 1
  · subst h1
    have HR : Hid (r = decide (l.length = 0)) := hid HRB.out
    clear HRB
    go_enter Try.func40, Try.ntmps40
    go_wp2
    go_ret
    refine ⟨?_, Ext.rfl'.al _⟩
    rw [HR.out]
    show Ending.returned (.bool ((l.length : Int) == 0)) = _
    congr 2
    cases l <;> simp <;> omega
  · by_cases h2 : k = 2 ∨ k = 3
    · have HR : Hid (r = (decide (b = zb) && decide (l.length ≤ 6) && risesB l)) := hid (by have := HRB.out; rwa [if_neg h1, if_pos h2] at this)
      clear HRB
      by_cases hbz : b = zb
      · have hbz' := hid hbz
        by_cases h6 : l.length ≤ 6
        · have HRR : Hid (r = risesB l) := hid (by rw [HR.out]; simp [hbz, h6])
          clear HR hbz
          rcases h2 with rfl | rfl
          all_goals
            go_enter Try.func40, Try.ntmps40
            go_wp2_with (first
              | (refine fit (.load 47 (.tmp 14)) ?_; refine wpl_do rfl (wp_loadAt 47 (.tmp 14) rfl rfl (BV b) HA.out Try.underlying47 rfl HI8.out ?_))
              | (refine fit (.binOp .eql 47 (.tmp 15) (.tmp 16) 47) ?_; refine wpl_eq_bytes rfl .eql (.inl rfl) 47 (.tmp 15) (.tmp 16) 47 rfl Try.underlying47 Hi.out co5 Try.underlying5 eg47 rfl (by rw [HZX.out]; rfl) HB.out HZL.out true (by simp [hbz'.out]) ?_)
              | (go_at_call 94; refine (RI _ (Ext.rfl'.al _)).out.mono ?_; rintro e w1 ⟨rfl, hE1⟩))
            go_ret
            exact ⟨by rw [HRR.out]; rfl, (Ext.rfl'.al _).tr hE1⟩
        · have HRR : Hid (r = false) := hid (by rw [HR.out]; simp [h6])
          clear HR hbz
          rcases h2 with rfl | rfl
          all_goals
            go_enter Try.func40, Try.ntmps40
            go_wp2_with (first
              | (refine fit (.load 47 (.tmp 14)) ?_; refine wpl_do rfl (wp_loadAt 47 (.tmp 14) rfl rfl (BV b) HA.out Try.underlying47 rfl HI8.out ?_))
              | (refine fit (.binOp .eql 47 (.tmp 15) (.tmp 16) 47) ?_; refine wpl_eq_bytes rfl .eql (.inl rfl) 47 (.tmp 15) (.tmp 16) 47 rfl Try.underlying47 Hi.out co5 Try.underlying5 eg47 rfl (by rw [HZX.out]; rfl) HB.out HZL.out true (by simp [hbz'.out]) ?_))
            go_ret
            exact ⟨by rw [HRR.out]; rfl, Ext.rfl'.al _⟩
      · have hbz' := hid hbz
        have HRR : Hid (r = false) := hid (by rw [HR.out]; simp [hbz])
        clear HR hbz
        rcases h2 with rfl | rfl
        all_goals
          go_enter Try.func40, Try.ntmps40
          go_wp2_with (first
            | (refine fit (.load 47 (.tmp 14)) ?_; refine wpl_do rfl (wp_loadAt 47 (.tmp 14) rfl rfl (BV b) HA.out Try.underlying47 rfl HI8.out ?_))
            | (refine fit (.binOp .eql 47 (.tmp 15) (.tmp 16) 47) ?_; refine wpl_eq_bytes rfl .eql (.inl rfl) 47 (.tmp 15) (.tmp 16) 47 rfl Try.underlying47 Hi.out co5 Try.underlying5 eg47 rfl (by rw [HZX.out]; rfl) HB.out HZL.out false (by simp [hbz'.out]) ?_))
          go_ret
          exact ⟨by rw [HRR.out]; rfl, Ext.rfl'.al _⟩
    · have HRR : Hid (r = false) := hid (by have := HRB.out; rwa [if_neg h1, if_neg h2] at this)
      clear HRB
      have h21 : ¬ k = 2 := fun h => h2 (.inl h)
      have h22 : ¬ k = 3 := fun h => h2 (.inr h)
      clear h2
      go_enter Try.func40, Try.ntmps40
      go_wp2
      go_ret
      exact ⟨by rw [HRR.out]; rfl, Ext.rfl'.al _⟩
end Go.Proofs.Ytnggcldghpmeaaa
