/- The law LeafBack: whatever two nodes and a page. -/
import Derived.Test.YtnggcldghpmeaaaL17an
import Derived.Test.YtnggcldghpmeaaaL17bn
import Derived.Test.YtnggcldghpmeaaaL17cn
import Derived.Test.YtnggcldghpmeaaaL17ay
import Derived.Test.YtnggcldghpmeaaaL17by
import Derived.Test.YtnggcldghpmeaaaL17cy
set_option linter.unusedVariables false
set_option linter.unusedSimpArgs false
set_option maxRecDepth 100000
namespace Go.Proofs.Ytnggcldghpmeaaa
open Go.RowKit
attribute [local irreducible] Calls
set_option maxHeartbeats 2000000 in
theorem lback_long1 {w : World} (nv nv2 : Array Value) (A1 A2 : Option Addr) (n1 n2 c1 c2 : Nat) (p : List UInt8) (N17 : nv[17]? = some (.slice A1 n1 c1)) (M17 : nv2[17]? = some (.slice A2 n2 c2)) (hn1 : 50 < n1) (hm : n1 ≤ 9223372036854775807) :
    Calls Try.prog 10 #[.agg nv, .agg nv2, .agg (BV p).toArray] w fun e w' => e = .returned (.bool true) ∧ Ext w w' := by
  go_enter Try.func10, Try.ntmps10
  go_wp2_with (go_at_call 37; refine (leafAlive_calls _).mono ?_; rintro e w1 ⟨rfl, hE1⟩; have E1 := (((Ext.rfl'.al _).al _).al _).tr hE1; have B3 : Blk w1 w.heap.size 50 nv := (((Blk.new w 50 nv).al _).al _).ext hE1; have B4 : Blk w1 (w.heap.size + 1) 50 nv2 := ((Blk.new_ (by simp)).al _).ext hE1; have c17 := (B3.cell 17).trans N17; have d17 := (B4.cell 17).trans M17)
  go_ret
  exact ⟨rfl, E1⟩
set_option maxHeartbeats 2000000 in
theorem lback_long2 {w : World} (nv nv2 : Array Value) (A1 A2 : Option Addr) (n1 n2 c1 c2 : Nat) (p : List UInt8) (N17 : nv[17]? = some (.slice A1 n1 c1)) (M17 : nv2[17]? = some (.slice A2 n2 c2)) (hn1 : n1 ≤ 50) (hn2 : 50 < n2) (hm : n2 ≤ 9223372036854775807) :
    Calls Try.prog 10 #[.agg nv, .agg nv2, .agg (BV p).toArray] w fun e w' => e = .returned (.bool true) ∧ Ext w w' := by
  go_enter Try.func10, Try.ntmps10
  go_wp2_with (go_at_call 37; refine (leafAlive_calls _).mono ?_; rintro e w1 ⟨rfl, hE1⟩; have E1 := (((Ext.rfl'.al _).al _).al _).tr hE1; have B3 : Blk w1 w.heap.size 50 nv := (((Blk.new w 50 nv).al _).al _).ext hE1; have B4 : Blk w1 (w.heap.size + 1) 50 nv2 := ((Blk.new_ (by simp)).al _).ext hE1; have c17 := (B3.cell 17).trans N17; have d17 := (B4.cell 17).trans M17)
  go_ret
  exact ⟨rfl, E1⟩
theorem same_page {k k2 : Int} {b b2 : List UInt8} {l l2 : List (Int × Int)} (hb : b.length = 16) (hb2 : b2.length = 16) (h1 : rightB k b l = true) (h2 : rightB k2 b2 l2 = true) :
    sameN k b l k2 b2 l2 = decide (pageN k b l = pageN k2 b2 l2) := by
  unfold pageN
  rw [if_pos h1, if_pos h2]
  obtain ⟨a1, a2, a3⟩ := there_back hb h1
  obtain ⟨c1, c2, c3⟩ := there_back hb2 h2
  by_cases he : pageB (nodeB k b l) = pageB (nodeB k2 b2 l2)
  · rw [he] at a1 a2 a3
    have e1 : k = k2 := a1.symm.trans c1
    have e2 : b = b2 := a2.symm.trans c2
    have e3 : l = l2 := a3.symm.trans c3
    simp [sameN, e1, e2, e3]
  · have : ¬ (k = k2 ∧ b = b2 ∧ l = l2) := fun ⟨e1, e2, e3⟩ => he (by rw [e1, e2, e3])
    simp only [he, decide_false, sameN]
    rw [Bool.and_eq_false_iff, Bool.and_eq_false_iff]
    simp only [decide_eq_false_iff_not]
    by_cases e1 : k = k2
    · by_cases e2 : b = b2
      · exact .inr (fun e3 => this ⟨e1, e2, e3⟩)
      · exact .inl (.inr e2)
    · exact .inl (.inl e1)
theorem lback_calls {w : World} {A1 A2 : Option Addr} {c1 c2 : Nat} (k k2 : Int) (b b2 : List UInt8) (l l2 : List (Int × Int)) (p : List UInt8) (hb : b.length = 16) (hb2 : b2.length = 16) (hr : Rd w A1 (EV l)) (hr2 : Rd w A2 (EV l2))
    (hl : l.length ≤ 9223372036854775807) (hl2 : l2.length ≤ 9223372036854775807) (hp : p.length = 256) :
    Calls Try.prog 10 #[.agg (NV k b A1 l.length c1), .agg (NV k2 b2 A2 l2.length c2), .agg (BV p).toArray] w fun e w' => e = .returned (.bool true) ∧ Ext w w' := by
  have hs := NV_size (k := k) (A := A1) (n := l.length) (c := c1) hb
  have hs2 := NV_size (k := k2) (A := A2) (n := l2.length) (c := c2) hb2
  have N17 := NV17 (k := k) (A := A1) (n := l.length) (c := c1) hb
  have M17 := NV17 (k := k2) (A := A2) (n := l2.length) (c := c2) hb2
  have hz : (List.replicate 16 (0 : UInt8)).length = 16 := by simp
  by_cases hn1 : 50 < l.length
  · exact lback_long1 _ _ A1 A2 _ _ c1 c2 p N17 M17 hn1 hl
  by_cases hn2 : 50 < l2.length
  · exact lback_long2 _ _ A1 A2 _ _ c1 c2 p N17 M17 (by omega) hn2 hl2
  have hx := pageN_length (k := k) (l := l) hb
  have hy := pageN_length (k := k2) (l := l2) hb2
  have PA := fun W (h : Ext w W) => hid (LPage_calls (c := c1) k b l hb (hr.ext h) (by omega))
  have PB := fun W (h : Ext w W) => hid (LPage_calls (c := c2) k2 b2 l2 hb2 (hr2.ext h) (by omega))
  have SZ : ∀ (W : World) (A : Option Addr) (c : Nat), Hid (Calls Try.prog 42 #[.agg (NV 0 (List.replicate 16 0) A 0 c), .agg (NV 0 (List.replicate 16 0) none 0 0)] W fun e w' => e = .returned (.bool true) ∧ Ext W w') :=
    fun W A c => hid (Same_calls (c := c) (c2 := 0) 0 0 _ _ [] [] hz hz Rd.nil Rd.nil (by simp) (by simp))
  have ON : openB p = false → ∀ (W : World), Hid (Calls Try.prog 36 #[.agg (BV p).toArray] W fun e w' => ∃ A c, e = .returned (.tuple #[.agg (NV 0 (List.replicate 16 0) A 0 c), .int .i64 81]) ∧ Rd w' A (EV []) ∧ Ext W w') :=
    fun ho W => hid (LOpen_no p hp ho)
  have OY : openB p = true → ∀ (W : World), Hid (Calls Try.prog 36 #[.agg (BV p).toArray] W fun e w' => ∃ A c, e = .returned (.tuple #[.agg (NV (kN p) (bN p) A (eN p).length c), .int .i64 0]) ∧ Rd w' A (EV (eN p)) ∧ Ext W w') :=
    fun ho W => hid (LOpen_yes p hp ho)
  have PP : openB p = true → ∀ (W : World) (A : Option Addr) (c : Nat), Rd W A (EV (eN p)) → Hid (Calls Try.prog 35 #[.agg (NV (kN p) (bN p) A (eN p).length c)] W fun e w' => e = .returned (.tuple #[.agg (BV p).toArray, .int .i64 0]) ∧ Ext W w') := by
    intro ho W A c hrd
    have := LPage_calls (c := c) (kN p) (bN p) (eN p) (bN_length hp) hrd (by have := eN_length p; omega)
    obtain ⟨o1, o2⟩ := open_right ho
    unfold pageN errN at this
    rw [if_pos o1, if_pos o1, o2] at this
    exact hid this
  cases hR : rightB k b l
  · have PA' : ∀ W, Ext w W → Hid (Calls Try.prog 35 #[.agg (NV k b A1 l.length c1)] W fun e w' => e = .returned (.tuple #[.agg (BV (pageN k b l)).toArray, .int .i64 81]) ∧ Ext W w') := by
      intro W h
      have := (PA W h).out
      unfold errN at this
      rw [if_neg (by rw [hR]; decide)] at this
      exact hid this
    cases ho : openB p
    · exact lback_an _ _ A1 A2 _ _ c1 c2 (pageN k b l) (pageN k2 b2 l2) p _ _ hs hs2 N17 M17 (by omega) (by omega) hx hy hp hz rfl PA' PB (ON ho) SZ
    · exact lback_ay _ _ A1 A2 _ _ c1 c2 (pageN k b l) (pageN k2 b2 l2) p _ _ hs hs2 N17 M17 (by omega) (by omega) hx hy hp hz rfl PA' PB (kN p) (bN p) (eN p) _ (bN_length hp) (OY ho) (PP ho)
  · have PA' : ∀ W, Ext w W → Hid (Calls Try.prog 35 #[.agg (NV k b A1 l.length c1)] W fun e w' => e = .returned (.tuple #[.agg (BV (pageN k b l)).toArray, .int .i64 0]) ∧ Ext W w') := by
      intro W h
      have := (PA W h).out
      unfold errN at this
      rw [if_pos hR] at this
      exact hid this
    have OX : ∀ W, Hid (Calls Try.prog 36 #[.agg (BV (pageN k b l)).toArray] W fun e w' => ∃ A c, e = .returned (.tuple #[.agg (NV k b A l.length c), .int .i64 0]) ∧ Rd w' A (EV l) ∧ Ext W w') := by
      intro W
      obtain ⟨t1, t2, t3⟩ := there_back hb hR
      have := LOpen_yes (w := W) _ (pageB_length _ (nodeB_le hb hR)) (open_page hb hR)
      rw [t1, t2, t3] at this
      unfold pageN
      rw [if_pos hR]
      exact hid this
    have SA : ∀ W, Ext w W → ∀ A c, Rd W A (EV l) → Hid (Calls Try.prog 42 #[.agg (NV k b A l.length c), .agg (NV k b A1 l.length c1)] W fun e w' => e = .returned (.bool true) ∧ Ext W w') := by
      intro W h A c hrd
      have := Same_calls (c := c) (c2 := c1) k k b b l l hb hb hrd (hr.ext h) (by omega) (by omega)
      have e : sameN k b l k b l = true := by simp [sameN]
      rw [e] at this
      exact hid this
    cases hR2 : rightB k2 b2 l2
    · have PB' : ∀ W, Ext w W → Hid (Calls Try.prog 35 #[.agg (NV k2 b2 A2 l2.length c2)] W fun e w' => e = .returned (.tuple #[.agg (BV (pageN k2 b2 l2)).toArray, .int .i64 81]) ∧ Ext W w') := by
        intro W h
        have := (PB W h).out
        unfold errN at this
        rw [if_neg (by rw [hR2]; decide)] at this
        exact hid this
      cases ho : openB p
      · exact lback_bn _ _ A1 A2 _ _ c1 c2 (pageN k b l) (pageN k2 b2 l2) p _ hs hs2 N17 M17 (by omega) (by omega) hx hy hp hz rfl PA' PB' k b l hb OX SA (ON ho) SZ
      · exact lback_by _ _ A1 A2 _ _ c1 c2 (pageN k b l) (pageN k2 b2 l2) p _ hs hs2 N17 M17 (by omega) (by omega) hx hy hp hz rfl PA' PB' k b l hb OX SA (kN p) (bN p) (eN p) _ (bN_length hp) (OY ho) (PP ho)
    · have PB' : ∀ W, Ext w W → Hid (Calls Try.prog 35 #[.agg (NV k2 b2 A2 l2.length c2)] W fun e w' => e = .returned (.tuple #[.agg (BV (pageN k2 b2 l2)).toArray, .int .i64 0]) ∧ Ext W w') := by
        intro W h
        have := (PB W h).out
        unfold errN at this
        rw [if_pos hR2] at this
        exact hid this
      have SAB := fun W (h : Ext w W) => hid (Same_calls (c := c1) (c2 := c2) k k2 b b2 l l2 hb hb2 (hr.ext h) (hr2.ext h) (by omega) (by omega))
      have hsp := hid (same_page hb hb2 hR hR2)
      cases ho : openB p
      · exact lback_cn _ _ A1 A2 _ _ c1 c2 (pageN k b l) (pageN k2 b2 l2) p _ hs hs2 N17 M17 (by omega) (by omega) hx hy hp hz rfl PA' PB' k b l hb OX SA _ hsp SAB (ON ho) SZ
      · exact lback_cy _ _ A1 A2 _ _ c1 c2 (pageN k b l) (pageN k2 b2 l2) p _ hs hs2 N17 M17 (by omega) (by omega) hx hy hp hz rfl PA' PB' k b l hb OX SA _ hsp SAB (kN p) (bN p) (eN p) _ (bN_length hp) (OY ho) (PP ho)
end Go.Proofs.Ytnggcldghpmeaaa
