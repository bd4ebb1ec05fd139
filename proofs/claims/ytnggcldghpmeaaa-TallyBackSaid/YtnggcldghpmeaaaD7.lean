/- The law TallyBack, walked in its three ways. -/
import Derived.Test.YtnggcldghpmeaaaD6
import Derived.Test.YtnggcldghpmeaaaW8
set_option linter.unusedVariables false
set_option linter.unusedSimpArgs false
set_option maxRecDepth 100000
namespace Go.Proofs.Ytnggcldghpmeaaa
open Go.RowKit
attribute [local irreducible] Calls
set_option maxHeartbeats 4000000 in
theorem back_aux1 (g0 g1 : Int) (h00 : 0 ≤ g0) (h01 : 0 ≤ g1) (a b x z : List UInt8) (ha : a.length = 240) (hb : b.length = 240) (hx : x.length = 240) (hz : (BV z).toArray = Try.zeroCells31) (hzl : z.length = 240) (D1 D2 : DS) (HX : Hid (x = b)) (hg : g0 = g1)
    (W1 : ∀ W lo g, HasD W lo g (DS.new 4) → Hid (Calls Try.prog 34 #[.pointer (some ⟨g, 0, none⟩), .int .u64 g0, .agg (BV a).toArray] W fun e w' => e = .returned (.int .i64 0) ∧ HasD w' lo g D1 ∧ Below lo W w'))
    (W2 : ∀ W lo g, HasD W lo g D1 → Hid (Calls Try.prog 34 #[.pointer (some ⟨g, 0, none⟩), .int .u64 g1, .agg (BV b).toArray] W fun e w' => e = .returned (.int .i64 0) ∧ HasD w' lo g D2 ∧ Below lo W w'))
    (R1 : ∀ W lo g, HasD W lo g D2 → Hid (Calls Try.prog 32 #[.pointer (some ⟨g, 0, none⟩), .int .u64 g1] W fun e w' => e = .returned (.tuple #[.agg (BV b).toArray, .int .i64 0]) ∧ Ext W w'))
    (R0 : ∀ W lo g, HasD W lo g D2 → Hid (Calls Try.prog 32 #[.pointer (some ⟨g, 0, none⟩), .int .u64 g0] W fun e w' => e = .returned (.tuple #[.agg (BV x).toArray, .int .i64 0]) ∧ Ext W w'))
    (w : World) : Calls Try.prog 6 #[.agg #[.int .u64 g0, .int .u64 g1], .agg (BV a).toArray, .agg (BV b).toArray] w fun e w' => e = .returned (.bool true) ∧ Ext w w' := by
  subst hg
  have HXE := hid hz
  have HZL := hid hzl
  have HSa := hid (BV_size sz24 ha)
  have HSb := hid (BV_size sz24 hb)
  have HSb1 := hid (BV_size sz31 hb)
  have HSx := hid (BV_size sz31 hx)
  have HLa := hid ha
  have HLb := hid hb
  have HLx := hid hx
  have HZb : Hid (Try.zeroCells31.size = (BV b).toArray.size) := hid (by rw [z31]; exact BV_sizes (by rw [hb]; simp))
  have HZx : Hid (Try.zeroCells31.size = (BV x).toArray.size) := hid (by rw [z31]; exact BV_sizes (by rw [hx]; simp))
  have N4 := fun W => hid (HNew_calls 4 (by decide) (by decide) W)
  obtain ⟨i0, hi, hz0, hz1, hz2⟩ := info_parts info5
  have Hi := hid hi
  clear hi hz0 hz1 hz2 ha hb hx hz hzl
  go_enter Try.func6, Try.ntmps6
  go_wp2_with (first
    | (go_at_call 24; refine (tallyAlive_calls _).mono ?_; rintro e V1 ⟨rfl, hE1⟩; have B3 : Blk V1 w.heap.size 23 #[.int .u64 g0, .int .u64 g0] := (((Blk.new w 23 _).al _).al _).ext hE1; have B4 : Blk V1 (w.heap.size + 1) 24 (BV a).toArray := ((Blk.new_ (by simp)).al _).ext hE1; have B5 : Blk V1 (w.heap.size + 1 + 1) 24 (BV b).toArray := (Blk.new_ (by simp)).ext hE1; have E1 : Ext w V1 := (((Ext.rfl'.al _).al _).al _).tr hE1)
    | (go_at_call 33; refine (N4 _).out.mono ?_; rintro e V2 ⟨g, rfl, HD2, hE2⟩; have E2 := E1.tr hE2; have hlo := hid B5.lt; have hlw := hid E1.size; have C3 := B3.ext hE2; have C4 := B4.ext hE2; have C5 := B5.ext hE2; clear B3 B4 B5; have c30 := C3.cell 0; have c31 := C3.cell 1)
    | (refine fit (.load 24 (.tmp 4)) ?_; refine wpl_do rfl (wp_load 24 (.tmp 4) rfl rfl C4 Try.underlying24 rfl HSa.out ?_))
    | (go_at_call 34; refine (W1 _ _ _ HD2).out.mono ?_; rintro e V3 ⟨rfl, HD3, hB3⟩; have hsz2 := HD2.lt; have E3 : Ext w V3 := E2.trans (hB3.mono hlw.out); have F3 := C3.below hB3 (by have := hlo.out; omega); have F4 := C4.below hB3 (by have := hlo.out; omega); have F5 := C5.below hB3 (by have := hlo.out; omega); clear C3 C4 C5; have d30 := F3.cell 0; have d31 := F3.cell 1)
    | (refine fit (.load 24 (.tmp 5)) ?_; refine wpl_do rfl (wp_load 24 (.tmp 5) rfl rfl F5 Try.underlying24 rfl HSb.out ?_))
    | (go_at_call 34; refine (W2 _ _ _ HD3).out.mono ?_; rintro e V4 ⟨rfl, HD4, hB4⟩; have E4 : Ext w V4 := E3.trans (hB4.mono hlw.out); have G3 := F3.below hB4 (by have := hlo.out; omega); have G4 := F4.below hB4 (by have := hlo.out; omega); have G5 := F5.below hB4 (by have := hlo.out; omega); clear F3 F4 F5; have e30 := G3.cell 0; have e31 := G3.cell 1)
    | (go_at_call 32; refine (R1 _ _ _ HD4).out.mono ?_; rintro e V5 ⟨rfl, hE5⟩; have E5 := E4.tr hE5; have HD5 := HD4.ext hE5; have H3 := G3.ext hE5; have H4 := G4.ext hE5; have H5 := G5.ext hE5; clear G3 G4 G5)
    | (refine fit (.store 31 (.tmp 8) (.tmp 34)) ?_; refine wpl_fresh rfl 31 (.tmp 8) (.tmp 34) rfl rfl rfl HSb1.out HZb.out (BV_all _) ?_; intro V6 hE6 Y6 hs6; have E6 := E5.tr hE6; have HD6 := HD5.ext hE6; have I3 := H3.ext hE6; have I4 := H4.ext hE6; have I5 := H5.ext hE6; clear H3 H4 H5; have f30 := I3.cell 0; have f31 := I3.cell 1)
    | (go_at_call 32; refine (R0 _ _ _ HD6).out.mono ?_; rintro e V7 ⟨rfl, hE7⟩; have E7 := E6.tr hE7; have J3 := I3.ext hE7; have J4 := I4.ext hE7; have J5 := I5.ext hE7; have Y7 := Y6.ext hE7; clear I3 I4 I5 Y6)
    | (refine fit (.store 31 (.tmp 10) (.tmp 41)) ?_; refine wpl_fresh rfl 31 (.tmp 10) (.tmp 41) rfl rfl rfl HSx.out HZx.out (BV_all _) ?_; intro V8 hE8 X8 hs8; have E8 := E7.tr hE8; have K3 := J3.ext hE8; have K4 := J4.ext hE8; have K5 := J5.ext hE8; have Y8 := Y7.ext hE8; clear J3 J4 J5 Y7; have g30 := K3.cell 0; have g31 := K3.cell 1)
    | (refine fit (.load 31 (.tmp 8)) ?_; refine wpl_do rfl (wp_load 31 (.tmp 8) rfl rfl Y8 Try.underlying31 rfl HSb1.out ?_))
    | (refine fit (.load 31 (.tmp 10)) ?_; refine wpl_do rfl (wp_load 31 (.tmp 10) rfl rfl X8 Try.underlying31 rfl HSx.out ?_))
    | (refine fit (.load 24 (.tmp 5)) ?_; refine wpl_do rfl (wp_load 24 (.tmp 5) rfl rfl K5 Try.underlying24 rfl HSb.out ?_))
    | (refine fit (.load 24 (.tmp 4)) ?_; refine wpl_do rfl (wp_load 24 (.tmp 4) rfl rfl K4 Try.underlying24 rfl HSa.out ?_))
    | (refine fit (.binOp .neq 31 (.tmp 46) (.tmp 47) 31) ?_; refine wpl_eq_bytes rfl .neq (.inr rfl) 31 (.tmp 46) (.tmp 47) 31 rfl Try.underlying31 Hi.out co5 Try.underlying5 eg31 rfl rfl HLb.out HLb.out false (by simp) ?_)
    | (refine fit (.binOp .eql 31 (.tmp 58) (.tmp 59) 31) ?_; refine wpl_eq_bytes rfl .eql (.inl rfl) 31 (.tmp 58) (.tmp 59) 31 rfl Try.underlying31 Hi.out co5 Try.underlying5 eg31 rfl rfl HLx.out HLb.out true (by rw [HX.out]; simp) ?_))
  go_ret
  exact ⟨rfl, E8⟩
set_option maxHeartbeats 4000000 in
theorem back_aux2 (g0 g1 : Int) (h00 : 0 ≤ g0) (h01 : 0 ≤ g1) (hg : ¬ g0 = g1) (hp : g0 % 2 = g1 % 2) (a b x z : List UInt8) (ha : a.length = 240) (hb : b.length = 240) (hx : x.length = 240) (hz : (BV z).toArray = Try.zeroCells31) (hzl : z.length = 240) (D1 D2 : DS) (HX : Hid (x = z))
    (W1 : ∀ W lo g, HasD W lo g (DS.new 4) → Hid (Calls Try.prog 34 #[.pointer (some ⟨g, 0, none⟩), .int .u64 g0, .agg (BV a).toArray] W fun e w' => e = .returned (.int .i64 0) ∧ HasD w' lo g D1 ∧ Below lo W w'))
    (W2 : ∀ W lo g, HasD W lo g D1 → Hid (Calls Try.prog 34 #[.pointer (some ⟨g, 0, none⟩), .int .u64 g1, .agg (BV b).toArray] W fun e w' => e = .returned (.int .i64 0) ∧ HasD w' lo g D2 ∧ Below lo W w'))
    (R1 : ∀ W lo g, HasD W lo g D2 → Hid (Calls Try.prog 32 #[.pointer (some ⟨g, 0, none⟩), .int .u64 g1] W fun e w' => e = .returned (.tuple #[.agg (BV b).toArray, .int .i64 0]) ∧ Ext W w'))
    (R0 : ∀ W lo g, HasD W lo g D2 → Hid (Calls Try.prog 32 #[.pointer (some ⟨g, 0, none⟩), .int .u64 g0] W fun e w' => e = .returned (.tuple #[.agg (BV x).toArray, .int .i64 61]) ∧ Ext W w'))
    (w : World) : Calls Try.prog 6 #[.agg #[.int .u64 g0, .int .u64 g1], .agg (BV a).toArray, .agg (BV b).toArray] w fun e w' => e = .returned (.bool true) ∧ Ext w w' := by
  have HXE := hid hz
  have HZL := hid hzl
  have HSa := hid (BV_size sz24 ha)
  have HSb := hid (BV_size sz24 hb)
  have HSb1 := hid (BV_size sz31 hb)
  have HSx := hid (BV_size sz31 hx)
  have HLa := hid ha
  have HLb := hid hb
  have HLx := hid hx
  have HZb : Hid (Try.zeroCells31.size = (BV b).toArray.size) := hid (by rw [z31]; exact BV_sizes (by rw [hb]; simp))
  have HZx : Hid (Try.zeroCells31.size = (BV x).toArray.size) := hid (by rw [z31]; exact BV_sizes (by rw [hx]; simp))
  have N4 := fun W => hid (HNew_calls 4 (by decide) (by decide) W)
  obtain ⟨i0, hi, hz0, hz1, hz2⟩ := info_parts info5
  have Hi := hid hi
  clear hi hz0 hz1 hz2 ha hb hx hz hzl
  go_enter Try.func6, Try.ntmps6
  go_wp2_with (first
    | (go_at_call 24; refine (tallyAlive_calls _).mono ?_; rintro e V1 ⟨rfl, hE1⟩; have B3 : Blk V1 w.heap.size 23 #[.int .u64 g0, .int .u64 g1] := (((Blk.new w 23 _).al _).al _).ext hE1; have B4 : Blk V1 (w.heap.size + 1) 24 (BV a).toArray := ((Blk.new_ (by simp)).al _).ext hE1; have B5 : Blk V1 (w.heap.size + 1 + 1) 24 (BV b).toArray := (Blk.new_ (by simp)).ext hE1; have E1 : Ext w V1 := (((Ext.rfl'.al _).al _).al _).tr hE1)
    | (go_at_call 33; refine (N4 _).out.mono ?_; rintro e V2 ⟨g, rfl, HD2, hE2⟩; have E2 := E1.tr hE2; have hlo := hid B5.lt; have hlw := hid E1.size; have C3 := B3.ext hE2; have C4 := B4.ext hE2; have C5 := B5.ext hE2; clear B3 B4 B5; have c30 := C3.cell 0; have c31 := C3.cell 1)
    | (refine fit (.load 24 (.tmp 4)) ?_; refine wpl_do rfl (wp_load 24 (.tmp 4) rfl rfl C4 Try.underlying24 rfl HSa.out ?_))
    | (go_at_call 34; refine (W1 _ _ _ HD2).out.mono ?_; rintro e V3 ⟨rfl, HD3, hB3⟩; have hsz2 := HD2.lt; have E3 : Ext w V3 := E2.trans (hB3.mono hlw.out); have F3 := C3.below hB3 (by have := hlo.out; omega); have F4 := C4.below hB3 (by have := hlo.out; omega); have F5 := C5.below hB3 (by have := hlo.out; omega); clear C3 C4 C5; have d30 := F3.cell 0; have d31 := F3.cell 1)
    | (refine fit (.load 24 (.tmp 5)) ?_; refine wpl_do rfl (wp_load 24 (.tmp 5) rfl rfl F5 Try.underlying24 rfl HSb.out ?_))
    | (go_at_call 34; refine (W2 _ _ _ HD3).out.mono ?_; rintro e V4 ⟨rfl, HD4, hB4⟩; have E4 : Ext w V4 := E3.trans (hB4.mono hlw.out); have G3 := F3.below hB4 (by have := hlo.out; omega); have G4 := F4.below hB4 (by have := hlo.out; omega); have G5 := F5.below hB4 (by have := hlo.out; omega); clear F3 F4 F5; have e30 := G3.cell 0; have e31 := G3.cell 1)
    | (go_at_call 32; refine (R1 _ _ _ HD4).out.mono ?_; rintro e V5 ⟨rfl, hE5⟩; have E5 := E4.tr hE5; have HD5 := HD4.ext hE5; have H3 := G3.ext hE5; have H4 := G4.ext hE5; have H5 := G5.ext hE5; clear G3 G4 G5)
    | (refine fit (.store 31 (.tmp 8) (.tmp 34)) ?_; refine wpl_fresh rfl 31 (.tmp 8) (.tmp 34) rfl rfl rfl HSb1.out HZb.out (BV_all _) ?_; intro V6 hE6 Y6 hs6; have E6 := E5.tr hE6; have HD6 := HD5.ext hE6; have I3 := H3.ext hE6; have I4 := H4.ext hE6; have I5 := H5.ext hE6; clear H3 H4 H5; have f30 := I3.cell 0; have f31 := I3.cell 1)
    | (go_at_call 32; refine (R0 _ _ _ HD6).out.mono ?_; rintro e V7 ⟨rfl, hE7⟩; have E7 := E6.tr hE7; have J3 := I3.ext hE7; have J4 := I4.ext hE7; have J5 := I5.ext hE7; have Y7 := Y6.ext hE7; clear I3 I4 I5 Y6)
    | (refine fit (.store 31 (.tmp 10) (.tmp 41)) ?_; refine wpl_fresh rfl 31 (.tmp 10) (.tmp 41) rfl rfl rfl HSx.out HZx.out (BV_all _) ?_; intro V8 hE8 X8 hs8; have E8 := E7.tr hE8; have K3 := J3.ext hE8; have K4 := J4.ext hE8; have K5 := J5.ext hE8; have Y8 := Y7.ext hE8; clear J3 J4 J5 Y7; have g30 := K3.cell 0; have g31 := K3.cell 1)
    | (refine fit (.load 31 (.tmp 8)) ?_; refine wpl_do rfl (wp_load 31 (.tmp 8) rfl rfl Y8 Try.underlying31 rfl HSb1.out ?_))
    | (refine fit (.load 31 (.tmp 10)) ?_; refine wpl_do rfl (wp_load 31 (.tmp 10) rfl rfl X8 Try.underlying31 rfl HSx.out ?_))
    | (refine fit (.load 24 (.tmp 5)) ?_; refine wpl_do rfl (wp_load 24 (.tmp 5) rfl rfl K5 Try.underlying24 rfl HSb.out ?_))
    | (refine fit (.load 24 (.tmp 4)) ?_; refine wpl_do rfl (wp_load 24 (.tmp 4) rfl rfl K4 Try.underlying24 rfl HSa.out ?_))
    | (refine fit (.binOp .neq 31 (.tmp 46) (.tmp 47) 31) ?_; refine wpl_eq_bytes rfl .neq (.inr rfl) 31 (.tmp 46) (.tmp 47) 31 rfl Try.underlying31 Hi.out co5 Try.underlying5 eg31 rfl rfl HLb.out HLb.out false (by simp) ?_)
    | (refine fit (.binOp .eql 31 (.tmp 72) (.tmp 73) 31) ?_; refine wpl_eq_bytes rfl .eql (.inl rfl) 31 (.tmp 72) (.tmp 73) 31 rfl Try.underlying31 Hi.out co5 Try.underlying5 eg31 rfl (by rw [HXE.out]; rfl) HLx.out HZL.out true (by rw [HX.out]; simp) ?_))
  go_ret
  exact ⟨rfl, E8⟩
set_option maxHeartbeats 4000000 in
theorem back_aux3 (g0 g1 : Int) (h00 : 0 ≤ g0) (h01 : 0 ≤ g1) (hg : ¬ g0 = g1) (hp : ¬ g0 % 2 = g1 % 2) (a b x z : List UInt8) (ha : a.length = 240) (hb : b.length = 240) (hx : x.length = 240) (hz : (BV z).toArray = Try.zeroCells31) (hzl : z.length = 240) (D1 D2 : DS) (HX : Hid (x = a))
    (W1 : ∀ W lo g, HasD W lo g (DS.new 4) → Hid (Calls Try.prog 34 #[.pointer (some ⟨g, 0, none⟩), .int .u64 g0, .agg (BV a).toArray] W fun e w' => e = .returned (.int .i64 0) ∧ HasD w' lo g D1 ∧ Below lo W w'))
    (W2 : ∀ W lo g, HasD W lo g D1 → Hid (Calls Try.prog 34 #[.pointer (some ⟨g, 0, none⟩), .int .u64 g1, .agg (BV b).toArray] W fun e w' => e = .returned (.int .i64 0) ∧ HasD w' lo g D2 ∧ Below lo W w'))
    (R1 : ∀ W lo g, HasD W lo g D2 → Hid (Calls Try.prog 32 #[.pointer (some ⟨g, 0, none⟩), .int .u64 g1] W fun e w' => e = .returned (.tuple #[.agg (BV b).toArray, .int .i64 0]) ∧ Ext W w'))
    (R0 : ∀ W lo g, HasD W lo g D2 → Hid (Calls Try.prog 32 #[.pointer (some ⟨g, 0, none⟩), .int .u64 g0] W fun e w' => e = .returned (.tuple #[.agg (BV x).toArray, .int .i64 0]) ∧ Ext W w'))
    (w : World) : Calls Try.prog 6 #[.agg #[.int .u64 g0, .int .u64 g1], .agg (BV a).toArray, .agg (BV b).toArray] w fun e w' => e = .returned (.bool true) ∧ Ext w w' := by
  have HXE := hid hz
  have HZL := hid hzl
  have HSa := hid (BV_size sz24 ha)
  have HSb := hid (BV_size sz24 hb)
  have HSb1 := hid (BV_size sz31 hb)
  have HSx := hid (BV_size sz31 hx)
  have HLa := hid ha
  have HLb := hid hb
  have HLx := hid hx
  have HZb : Hid (Try.zeroCells31.size = (BV b).toArray.size) := hid (by rw [z31]; exact BV_sizes (by rw [hb]; simp))
  have HZx : Hid (Try.zeroCells31.size = (BV x).toArray.size) := hid (by rw [z31]; exact BV_sizes (by rw [hx]; simp))
  have N4 := fun W => hid (HNew_calls 4 (by decide) (by decide) W)
  obtain ⟨i0, hi, hz0, hz1, hz2⟩ := info_parts info5
  have Hi := hid hi
  clear hi hz0 hz1 hz2 ha hb hx hz hzl
  go_enter Try.func6, Try.ntmps6
  go_wp2_with (first
    | (go_at_call 24; refine (tallyAlive_calls _).mono ?_; rintro e V1 ⟨rfl, hE1⟩; have B3 : Blk V1 w.heap.size 23 #[.int .u64 g0, .int .u64 g1] := (((Blk.new w 23 _).al _).al _).ext hE1; have B4 : Blk V1 (w.heap.size + 1) 24 (BV a).toArray := ((Blk.new_ (by simp)).al _).ext hE1; have B5 : Blk V1 (w.heap.size + 1 + 1) 24 (BV b).toArray := (Blk.new_ (by simp)).ext hE1; have E1 : Ext w V1 := (((Ext.rfl'.al _).al _).al _).tr hE1)
    | (go_at_call 33; refine (N4 _).out.mono ?_; rintro e V2 ⟨g, rfl, HD2, hE2⟩; have E2 := E1.tr hE2; have hlo := hid B5.lt; have hlw := hid E1.size; have C3 := B3.ext hE2; have C4 := B4.ext hE2; have C5 := B5.ext hE2; clear B3 B4 B5; have c30 := C3.cell 0; have c31 := C3.cell 1)
    | (refine fit (.load 24 (.tmp 4)) ?_; refine wpl_do rfl (wp_load 24 (.tmp 4) rfl rfl C4 Try.underlying24 rfl HSa.out ?_))
    | (go_at_call 34; refine (W1 _ _ _ HD2).out.mono ?_; rintro e V3 ⟨rfl, HD3, hB3⟩; have hsz2 := HD2.lt; have E3 : Ext w V3 := E2.trans (hB3.mono hlw.out); have F3 := C3.below hB3 (by have := hlo.out; omega); have F4 := C4.below hB3 (by have := hlo.out; omega); have F5 := C5.below hB3 (by have := hlo.out; omega); clear C3 C4 C5; have d30 := F3.cell 0; have d31 := F3.cell 1)
    | (refine fit (.load 24 (.tmp 5)) ?_; refine wpl_do rfl (wp_load 24 (.tmp 5) rfl rfl F5 Try.underlying24 rfl HSb.out ?_))
    | (go_at_call 34; refine (W2 _ _ _ HD3).out.mono ?_; rintro e V4 ⟨rfl, HD4, hB4⟩; have E4 : Ext w V4 := E3.trans (hB4.mono hlw.out); have G3 := F3.below hB4 (by have := hlo.out; omega); have G4 := F4.below hB4 (by have := hlo.out; omega); have G5 := F5.below hB4 (by have := hlo.out; omega); clear F3 F4 F5; have e30 := G3.cell 0; have e31 := G3.cell 1)
    | (go_at_call 32; refine (R1 _ _ _ HD4).out.mono ?_; rintro e V5 ⟨rfl, hE5⟩; have E5 := E4.tr hE5; have HD5 := HD4.ext hE5; have H3 := G3.ext hE5; have H4 := G4.ext hE5; have H5 := G5.ext hE5; clear G3 G4 G5)
    | (refine fit (.store 31 (.tmp 8) (.tmp 34)) ?_; refine wpl_fresh rfl 31 (.tmp 8) (.tmp 34) rfl rfl rfl HSb1.out HZb.out (BV_all _) ?_; intro V6 hE6 Y6 hs6; have E6 := E5.tr hE6; have HD6 := HD5.ext hE6; have I3 := H3.ext hE6; have I4 := H4.ext hE6; have I5 := H5.ext hE6; clear H3 H4 H5; have f30 := I3.cell 0; have f31 := I3.cell 1)
    | (go_at_call 32; refine (R0 _ _ _ HD6).out.mono ?_; rintro e V7 ⟨rfl, hE7⟩; have E7 := E6.tr hE7; have J3 := I3.ext hE7; have J4 := I4.ext hE7; have J5 := I5.ext hE7; have Y7 := Y6.ext hE7; clear I3 I4 I5 Y6)
    | (refine fit (.store 31 (.tmp 10) (.tmp 41)) ?_; refine wpl_fresh rfl 31 (.tmp 10) (.tmp 41) rfl rfl rfl HSx.out HZx.out (BV_all _) ?_; intro V8 hE8 X8 hs8; have E8 := E7.tr hE8; have K3 := J3.ext hE8; have K4 := J4.ext hE8; have K5 := J5.ext hE8; have Y8 := Y7.ext hE8; clear J3 J4 J5 Y7; have g30 := K3.cell 0; have g31 := K3.cell 1)
    | (refine fit (.load 31 (.tmp 8)) ?_; refine wpl_do rfl (wp_load 31 (.tmp 8) rfl rfl Y8 Try.underlying31 rfl HSb1.out ?_))
    | (refine fit (.load 31 (.tmp 10)) ?_; refine wpl_do rfl (wp_load 31 (.tmp 10) rfl rfl X8 Try.underlying31 rfl HSx.out ?_))
    | (refine fit (.load 24 (.tmp 5)) ?_; refine wpl_do rfl (wp_load 24 (.tmp 5) rfl rfl K5 Try.underlying24 rfl HSb.out ?_))
    | (refine fit (.load 24 (.tmp 4)) ?_; refine wpl_do rfl (wp_load 24 (.tmp 4) rfl rfl K4 Try.underlying24 rfl HSa.out ?_))
    | (refine fit (.binOp .neq 31 (.tmp 46) (.tmp 47) 31) ?_; refine wpl_eq_bytes rfl .neq (.inr rfl) 31 (.tmp 46) (.tmp 47) 31 rfl Try.underlying31 Hi.out co5 Try.underlying5 eg31 rfl rfl HLb.out HLb.out false (by simp) ?_)
    | (refine fit (.binOp .eql 31 (.tmp 79) (.tmp 80) 31) ?_; refine wpl_eq_bytes rfl .eql (.inl rfl) 31 (.tmp 79) (.tmp 80) 31 rfl Try.underlying31 Hi.out co5 Try.underlying5 eg31 rfl rfl HLx.out HLa.out true (by rw [HX.out]; simp) ?_))
  go_ret
  exact ⟨rfl, E8⟩
end Go.Proofs.Ytnggcldghpmeaaa
