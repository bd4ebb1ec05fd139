/- The reference of layer 8: which nodes can be, walked. -/
import Derived.Test.YtnggcldghpmeaaaL5
import Derived.Test.YtnggcldghpmeaaaW6
set_option linter.unusedVariables false
set_option linter.unusedSimpArgs false
set_option maxRecDepth 100000
namespace Go.Proofs.Ytnggcldghpmeaaa
open Go.RowKit
attribute [local irreducible] Calls
/-- The key before place k. -/
def prevK (l : List (Int × Int)) (k : Nat) : Int := if k = 0 then -1 else (l.getD (k - 1) (0, 0)).1
theorem good_prev {l : List (Int × Int)} {k : Nat} {a p : Int} (hk : k < l.length) (he : l[k] = (a, p)) (hg : ∀ j, j < k → goodAt l j = true) :
    goodAt l k = (decide (prevK l k < a) && decide (a < 64) && decide (0 ≤ p) && decide (p < 240)) := by
  have h0 : l[k]? = some (a, p) := by rw [List.getElem?_eq_getElem hk, he]
  unfold goodAt
  simp only [h0]
  by_cases hz : k = 0
  · subst hz
    have : prevK l 0 = -1 := rfl
    rw [this]
    have e : decide ((-1 : Int) < a) = decide (0 ≤ a) := by by_cases h : 0 ≤ a <;> simp [h] <;> omega
    rw [e]; simp
  · obtain ⟨m, rfl⟩ : ∃ m, k = m + 1 := ⟨k - 1, by omega⟩
    have hp := hg m (by omega)
    have hm : l[m]? = some l[m] := by simp
    have h1 : l[m + 1 - 1]? = some l[m] := by simp
    have hq : prevK l (m + 1) = l[m].1 := by simp [prevK, show m < l.length by omega]
    simp only [goodAt, hm, Bool.and_eq_true, decide_eq_true_eq] at hp
    rw [h1, hq]
    have hd0 := hp.1.1.1.1
    have e : (m + 1 == 0) = false := by simp
    simp only [e, Bool.false_or]
    by_cases h : l[m].1 < a
    · have : 0 ≤ a := by omega
      simp [h, this]
    · simp [h]
set_option maxHeartbeats 4000000 in
theorem RRight_calls {w : World} {A : Option Addr} {c : Nat} (k : Int) (b : List UInt8) (l : List (Int × Int)) (hb : b.length = 16) (hr : Rd w A (EV l)) (hl : l.length ≤ 100000) :
    Calls Try.prog 165 #[.agg (NV k b A l.length c)] w fun e w' => e = .returned (.bool (rightB k b l)) ∧ Ext w w' := by
  have N0 := NV0 (k := k) (b := b) (A := A) (n := l.length) (c := c)
  have N17 := NV17 (k := k) (A := A) (n := l.length) (c := c) hb
  have HA := hid (NV_at (Blk.new w 50 (NV k b A l.length c)) hb)
  have HB := hid hb
  have HI8 : Hid ((Try.prog.info? 47).map (·.size) = some (BV b).length) := hid (by rw [BV_length, hb]; exact sz47)
  obtain ⟨zb, hzb⟩ : ∃ zb : List UInt8, zb = List.replicate 16 0 := ⟨_, rfl⟩
  have HZL : Hid (zb.length = 16) := hid (by rw [hzb]; simp)
  have HZX : Hid ((BV zb).toArray = (BV (List.replicate 16 0)).toArray) := hid (by rw [hzb])
  have HRB : Hid (rightB k b l = if k = 1 then decide (l.length = 0) else if k = 2 ∨ k = 3 then decide (b = zb) && decide (l.length ≤ 6) && risesB l else false) := hid (by rw [hzb]; rfl)
  obtain ⟨i0, hi, hz0, hz1, hz2⟩ := info_parts info5
  have Hi := hid hi
  clear hi hz0 hz1 hz2 hb hzb
  generalize NV k b A l.length c = nv at *
  obtain ⟨r, hrr⟩ : ∃ r, r = rightB k b l := ⟨_, rfl⟩
  rw [← hrr] at HRB ⊢
  clear hrr
  by_cases h1 : k = 1
  · subst h1
    have HR : Hid (r = decide (l.length = 0)) := hid HRB.out
    clear HRB
    go_enter Try.func165, Try.ntmps165
    go_wp2
    go_ret
    refine ⟨?_, Ext.rfl'.al _⟩
    rw [HR.out]
    show Ending.returned (.bool ((l.length : Int) == 0)) = _
    congr 2
    cases l <;> simp <;> omega
  by_cases h2 : k = 2 ∨ k = 3
  rotate_left
  · have HRR : Hid (r = false) := hid (by have := HRB.out; rwa [if_neg h1, if_neg h2] at this)
    clear HRB
    have h21 : ¬ k = 2 := fun h => h2 (.inl h)
    have h22 : ¬ k = 3 := fun h => h2 (.inr h)
    clear h2
    go_enter Try.func165, Try.ntmps165
    go_wp2
    go_ret
    exact ⟨by rw [HRR.out]; rfl, Ext.rfl'.al _⟩
  have HR : Hid (r = (decide (b = zb) && decide (l.length ≤ 6) && risesB l)) := hid (by have := HRB.out; rwa [if_neg h1, if_pos h2] at this)
  clear HRB h1
  by_cases hbz : b = zb
  rotate_left
  · have hbz' := hid hbz
    have HRR : Hid (r = false) := hid (by rw [HR.out]; simp [hbz])
    clear HR hbz
    rcases h2 with rfl | rfl
    all_goals
      go_enter Try.func165, Try.ntmps165
      go_wp2_with (first
        | (refine fit (.load 47 (.tmp 22)) ?_; refine wpl_do rfl (wp_loadAt 47 (.tmp 22) rfl rfl (BV b) HA.out Try.underlying47 rfl HI8.out ?_))
        | (refine fit (.binOp .neq 47 (.tmp 23) (.tmp 24) 47) ?_; refine wpl_eq_bytes rfl .neq (.inr rfl) 47 (.tmp 23) (.tmp 24) 47 rfl Try.underlying47 Hi.out co5 Try.underlying5 eg47 rfl (by rw [HZX.out]; rfl) HB.out HZL.out true (by simp [hbz'.out]) ?_))
      go_ret
      exact ⟨by rw [HRR.out]; rfl, Ext.rfl'.al _⟩
  have hbz' := hid hbz
  by_cases hn : 1 ≤ l.length ∧ l.length ≤ 6
  rotate_left
  · have HRR : Hid (r = false) := hid (by
      rw [HR.out]
      by_cases h6 : l.length ≤ 6
      · have h0 : ¬ 1 ≤ l.length := fun h => hn ⟨h, h6⟩
        simp [risesB, h0]
      · simp [h6])
    clear HR hbz
    by_cases h1 : l.length < 1
    · have h1' : (l.length : Int) < 1 := by omega
      rcases h2 with rfl | rfl
      all_goals
        go_enter Try.func165, Try.ntmps165
        go_wp2_with (first
          | (refine fit (.load 47 (.tmp 22)) ?_; refine wpl_do rfl (wp_loadAt 47 (.tmp 22) rfl rfl (BV b) HA.out Try.underlying47 rfl HI8.out ?_))
          | (refine fit (.binOp .neq 47 (.tmp 23) (.tmp 24) 47) ?_; refine wpl_eq_bytes rfl .neq (.inr rfl) 47 (.tmp 23) (.tmp 24) 47 rfl Try.underlying47 Hi.out co5 Try.underlying5 eg47 rfl (by rw [HZX.out]; rfl) HB.out HZL.out false (by simp [hbz'.out]) ?_))
        go_ret
        exact ⟨by rw [HRR.out]; rfl, Ext.rfl'.al _⟩
    · have h6 : 6 < l.length := by omega
      rcases h2 with rfl | rfl
      all_goals
        go_enter Try.func165, Try.ntmps165
        go_wp2_with (first
          | (refine fit (.load 47 (.tmp 22)) ?_; refine wpl_do rfl (wp_loadAt 47 (.tmp 22) rfl rfl (BV b) HA.out Try.underlying47 rfl HI8.out ?_))
          | (refine fit (.binOp .neq 47 (.tmp 23) (.tmp 24) 47) ?_; refine wpl_eq_bytes rfl .neq (.inr rfl) 47 (.tmp 23) (.tmp 24) 47 rfl Try.underlying47 Hi.out co5 Try.underlying5 eg47 rfl (by rw [HZX.out]; rfl) HB.out HZL.out false (by simp [hbz'.out]) ?_))
        go_ret
        exact ⟨by rw [HRR.out]; rfl, Ext.rfl'.al _⟩
  have HRR : Hid (r = (List.range l.length).all (goodAt l)) := hid (by rw [HR.out]; simp [hbz, risesB, hn.1, hn.2])
  obtain ⟨hn1, hn6⟩ := hn
  clear HR hbz
  rcases h2 with rfl | rfl
  all_goals
    go_enter Try.func165, Try.ntmps165
    go_wp2_with (first
      | (refine fit (.load 47 (.tmp 22)) ?_; refine wpl_do rfl (wp_loadAt 47 (.tmp 22) rfl rfl (BV b) HA.out Try.underlying47 rfl HI8.out ?_))
      | (refine fit (.binOp .neq 47 (.tmp 23) (.tmp 24) 47) ?_; refine wpl_eq_bytes rfl .neq (.inr rfl) 47 (.tmp 23) (.tmp 24) 47 rfl Try.underlying47 Hi.out co5 Try.underlying5 eg47 rfl (by rw [HZX.out]; rfl) HB.out HZL.out false (by simp [hbz'.out]) ?_))
    have E0 : Ext w (w.alloc (.cells nv 50)) := Ext.rfl'.al _
    clear HA N0 N17
    go_loopw [3, 42] (fun d i wr => ∃ k : Nat, k ≤ l.length ∧ i = .int .i64 k ∧ d = .int .i64 (prevK l k) ∧ (∀ j, j < k → goodAt l j = true) ∧ Ext w wr) (fun _ i _ => l.length - (intOf i).toNat)
    case atStart => exact ⟨0, by omega, rfl, rfl, fun j hj => by omega, E0⟩
    case round =>
      obtain ⟨k, hk, rfl, rfl, hg, E1⟩ := hrel
      by_cases hlt : k < l.length
      · obtain ⟨ad, rfl, hat⟩ := EV_at (hr.ext E1) k hlt
        have HAT := hid hat
        have HG := hid hg
        have HBad : Hid (goodAt l k = false → r = false) := hid (fun h => by rw [HRR.out, List.all_eq_false]; exact ⟨k, List.mem_range.2 hlt, by simp [h]⟩)
        have hgp := fun (a p : Int) (he : l[k] = (a, p)) => good_prev hlt he hg
        have HNX : Hid (prevK l (k + 1) = l[k].1) := hid (by simp [prevK, hlt])
        have HI6 := hid sz60
        clear hat hg
        generalize l[k] = en at *
        obtain ⟨a, p⟩ := en
        have HGP := hid (hgp a p rfl)
        clear hgp
        simp only at *
        generalize prevK l k = d at *
        have hnk := HNX
        by_cases c1 : a ≤ d
        · have hb := HBad.out (by rw [HGP.out]; simp; omega)
          go_wp2_with (refine fit (.load 60 (.tmp 44)) ?_; refine wpl_do rfl (wp_loadAt 60 (.tmp 44) rfl rfl [.int .i64 a, .int .i64 p] HAT.out Try.underlying60 rfl HI6.out ?_))
          go_ret
          exact ⟨by first | rfl | (rw [hb]; rfl), E1.al _⟩
        by_cases c2 : 63 < a
        · have hb := HBad.out (by rw [HGP.out]; simp; omega)
          go_wp2_with (refine fit (.load 60 (.tmp 44)) ?_; refine wpl_do rfl (wp_loadAt 60 (.tmp 44) rfl rfl [.int .i64 a, .int .i64 p] HAT.out Try.underlying60 rfl HI6.out ?_))
          go_ret
          exact ⟨by first | rfl | (rw [hb]; rfl), E1.al _⟩
        by_cases c3 : p < 0
        · have hb := HBad.out (by rw [HGP.out]; simp; omega)
          go_wp2_with (refine fit (.load 60 (.tmp 44)) ?_; refine wpl_do rfl (wp_loadAt 60 (.tmp 44) rfl rfl [.int .i64 a, .int .i64 p] HAT.out Try.underlying60 rfl HI6.out ?_))
          go_ret
          exact ⟨by first | rfl | (rw [hb]; rfl), E1.al _⟩
        by_cases c4 : 239 < p
        · have hb := HBad.out (by rw [HGP.out]; simp; omega)
          go_wp2_with (refine fit (.load 60 (.tmp 44)) ?_; refine wpl_do rfl (wp_loadAt 60 (.tmp 44) rfl rfl [.int .i64 a, .int .i64 p] HAT.out Try.underlying60 rfl HI6.out ?_))
          go_ret
          exact ⟨by first | rfl | (rw [hb]; rfl), E1.al _⟩
        have hgood : Hid (goodAt l k = true) := hid (HGP.out.trans (by simp; omega))
        go_wp2_with (refine fit (.load 60 (.tmp 44)) ?_; refine wpl_do rfl (wp_loadAt 60 (.tmp 44) rfl rfl [.int .i64 a, .int .i64 p] HAT.out Try.underlying60 rfl HI6.out ?_))
        go_roundw
        case rel =>
          exact ⟨k + 1, by omega, by go_num, by rw [HNX.out], fun j hj => (by
            by_cases hj2 : j < k
            · exact HG.out j hj2
            · obtain rfl : j = k := by omega
              exact hgood.out), E1.al _⟩
        case measure => simp [intOf]; omega
      · obtain rfl : k = l.length := by omega
        have HT : Hid (r = true) := hid (by rw [HRR.out, List.all_eq_true]; exact fun j hj => hg j (List.mem_range.1 hj))
        go_wp2
        go_ret
        exact ⟨by rw [HT.out]; rfl, E1⟩
end Go.Proofs.Ytnggcldghpmeaaa
