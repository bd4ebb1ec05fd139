/- The law TallyNames, walked. -/
import Derived.Test.YtnggcldghpmeaaaD5
import Derived.Test.YtnggcldghpmeaaaW7
set_option linter.unusedVariables false
set_option linter.unusedSimpArgs false
set_option maxRecDepth 100000
namespace Go.Proofs.Ytnggcldghpmeaaa
open Go.RowKit
attribute [local irreducible] Calls
/-- Some disk of block g holds ds; its blocks lie at lo or behind it. -/
def HasD (w : World) (lo g : Nat) (ds : DS) : Prop := ∃ S M ck Pd pc, DiskAt w lo g ds S M ck Pd pc
theorem HasD.ext {w w' : World} {lo g : Nat} {ds : DS} (h : HasD w lo g ds) (e : Ext w w') : HasD w' lo g ds := by
  obtain ⟨S, M, ck, Pd, pc, D⟩ := h
  exact ⟨S, M, ck, Pd, pc, D.ext e⟩
theorem HasD.lt {w : World} {lo g : Nat} {ds : DS} (h : HasD w lo g ds) : lo ≤ g ∧ g < w.heap.size := by
  obtain ⟨S, M, ck, Pd, pc, D⟩ := h
  have := D.o1; have := D.o2; have := D.o3; have := D.blk.lt
  omega
theorem HNew_calls (n : Nat) (hn : n ≤ 244) (hn0 : 0 < n) (w : World) : Calls Try.prog 33 #[.int .i64 n] w fun e w' => ∃ g, e = .returned (.pointer (some ⟨g, 0, none⟩)) ∧ HasD w' w.heap.size g (DS.new n) ∧ Ext w w' := by
  refine (New_calls n hn hn0 w).mono ?_
  rintro e w' ⟨g, S, M, rfl, D, E⟩
  exact ⟨g, rfl, ⟨S, M, 0, none, 0, D⟩, E⟩
/-- A generation's counts, read from a disk. -/
theorem HRead_in {w : World} {lo g : Nat} {ds : DS} (H : HasD w lo g ds) (gi : Int) (h0 : 0 ≤ gi) (hg : gi < 18446744073709551616) (hs : 4 ≤ ds.st.length) (hp : ∀ q ∈ ds.pend, q.2.length = 256) (hpl : ds.pend.length ≤ 100000) (p : List UInt8)
    (hpe : p = seen (ds.st[(2 + gi % 2).toNat]'(by omega)) ds.pend (2 + gi % 2).toNat) (hp2 : p.length = 256) (x : List UInt8) (ec : Int) (hx : x.length = 240)
    (hr : if okB p gi.toNat = true then x = countsB p ∧ ec = 0 else x = List.replicate 240 0 ∧ ec = 61) :
    Calls Try.prog 32 #[.pointer (some ⟨g, 0, none⟩), .int .u64 gi] w fun e w' => e = .returned (.tuple #[.agg (BV x).toArray, .int .i64 ec]) ∧ Ext w w' := by
  obtain ⟨S, M, ck, Pd, pc, D⟩ := H
  refine TRead_in g p x ec gi (2 + gi % 2) hx hp2 (fun W => hid (Area_calls gi h0 W)) (fun W hW => ?_) (fun W => ?_)
  · rw [hpe]
    exact hid (DRead_in (D.ext hW) _ (by omega) (2 + gi % 2) (by omega) hp hpl)
  · have := Open_calls p hp2 gi.toNat (by omega) W (okB p gi.toNat) rfl
    rw [Int.toNat_of_nonneg h0] at this
    cases hb : okB p gi.toNat
    · rw [hb] at this hr
      obtain ⟨rfl, rfl⟩ := hr
      exact hid this
    · rw [hb] at this hr
      obtain ⟨rfl, rfl⟩ := hr
      exact hid this
theorem HRead_out {w : World} {lo g : Nat} {ds : DS} (H : HasD w lo g ds) (gi : Int) (h0 : 0 ≤ gi) (hs : ds.st.length ≤ 2) :
    Calls Try.prog 32 #[.pointer (some ⟨g, 0, none⟩), .int .u64 gi] w fun e w' => e = .returned (.tuple #[.agg (BV (List.replicate 240 0)).toArray, .int .i64 41]) ∧ Ext w w' := by
  obtain ⟨S, M, ck, Pd, pc, D⟩ := H
  exact TRead_out g (List.replicate 256 0) (List.replicate 240 0) gi (2 + gi % 2) (by simp) z31.symm (by simp) (fun W => hid (Area_calls gi h0 W)) (fun W hW => hid (DRead_out (D.ext hW) (2 + gi % 2) (by omega) (by omega)))
theorem ok_zero (g : Nat) (h : g % 256 ≠ 0) : okB (List.replicate 256 0) g = false := by
  unfold okB
  rw [decide_eq_false_iff_not]
  intro hh
  have h1 := congrArg (List.take 1) hh
  rw [take_pageB _ _ (by simp [leB_length]; omega)] at h1
  simp [leB, lo8] at h1
  have h2 := congrArg UInt8.toNat h1
  simp at h2
  exact h h2
set_option maxHeartbeats 2000000 in
theorem names_aux (z : List UInt8) (hz : z.length = 240)
    (R2 : ∀ W g lo, HasD W lo g (DS.new 2) → Hid (Calls Try.prog 32 #[.pointer (some ⟨g, 0, none⟩), .int .u64 4] W fun e w' => e = .returned (.tuple #[.agg (BV z).toArray, .int .i64 41]) ∧ Ext W w'))
    (R4 : ∀ W g lo, HasD W lo g (DS.new 4) → Hid (Calls Try.prog 32 #[.pointer (some ⟨g, 0, none⟩), .int .u64 4] W fun e w' => e = .returned (.tuple #[.agg (BV z).toArray, .int .i64 61]) ∧ Ext W w'))
    (w : World) : Calls Try.prog 5 #[] w fun e w' => e = .returned (.bool true) ∧ Ext w w' := by
  have HZ := hid (BV_size sz31 hz)
  have HZ2 : Hid (Try.zeroCells31.size = (BV z).toArray.size) := hid (by rw [z31]; exact BV_sizes (by rw [hz]; simp))
  have N2 := fun W => hid (HNew_calls 2 (by decide) (by decide) W)
  have N4 := fun W => hid (HNew_calls 4 (by decide) (by decide) W)
  have A4 := fun W => hid (Area_calls 4 (by decide) W)
  have A5 := fun W => hid (Area_calls 5 (by decide) W)
  clear hz
  go_enter Try.func5, Try.ntmps5
  go_wp2_with (first
    | (go_at_call 33; refine (N2 _).out.mono ?_; rintro e W1 ⟨g, rfl, HD1, E1⟩)
    | (go_at_call 32; refine (R2 _ _ _ HD1).out.mono ?_; rintro e W2 ⟨rfl, hE2⟩; have E2 := E1.tr hE2)
    | (refine fit (.store 31 (.tmp 1) (.tmp 8)) ?_; refine wpl_fresh rfl 31 (.tmp 1) (.tmp 8) rfl rfl rfl HZ.out HZ2.out (BV_all _) ?_; intro W3 hE3 Z3 hs3; have E3 := E2.tr hE3)
    | (go_at_call 33; refine (N4 _).out.mono ?_; rintro e W4 ⟨g4, rfl, HD4, hE4⟩; have E4 := E3.tr hE4)
    | (go_at_call 32; refine (R4 _ _ _ HD4).out.mono ?_; rintro e W5 ⟨rfl, hE5⟩; have E5 := E4.tr hE5)
    | (refine fit (.store 31 (.tmp 3) (.tmp 13)) ?_; refine wpl_fresh rfl 31 (.tmp 3) (.tmp 13) rfl rfl rfl HZ.out HZ2.out (BV_all _) ?_; intro W6 hE6 Z6 hs6; have E6 := E5.tr hE6)
    | (go_at_call 24; refine (tallyAlive_calls _).mono ?_; rintro e W7 ⟨rfl, hE7⟩; have E7 := E6.tr hE7)
    | (go_at_call 30; first | (refine (A4 _).out.mono ?_; rintro e W8 ⟨rfl, rfl⟩) | (refine (A5 _).out.mono ?_; rintro e W8 ⟨rfl, rfl⟩)))
  go_ret
  exact ⟨rfl, E7⟩
theorem names_calls (w : World) : Calls Try.prog 5 #[] w fun e w' => e = .returned (.bool true) ∧ Ext w w' := by
  refine names_aux (List.replicate 240 0) (by simp) (fun W g lo H => hid ?_) (fun W g lo H => hid ?_) w
  · exact HRead_out H 4 (by decide) (by simp [DS.new])
  · refine HRead_in H 4 (by decide) (by decide) (by simp [DS.new]) (by simp [DS.new]) (by simp [DS.new]) (List.replicate 256 0) ?_ (by simp) _ _ (by simp) ?_
    · simp [seen, DS.new]
    · rw [if_neg (by rw [show (4 : Int).toNat = 4 from rfl, ok_zero 4 (by decide)]; decide)]
      exact ⟨rfl, rfl⟩
end Go.Proofs.Ytnggcldghpmeaaa
