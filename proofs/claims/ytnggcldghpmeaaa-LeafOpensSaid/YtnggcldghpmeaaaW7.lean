/- The package tally: the chapter's example runs true. -/
import Derived.Test.YtnggcldghpmeaaaW6
set_option linter.unusedVariables false
set_option linter.unusedSimpArgs false
set_option maxRecDepth 100000
namespace Go.Proofs.Ytnggcldghpmeaaa
open Go.RowKit
attribute [local irreducible] Calls
def c7 : List UInt8 := (List.replicate 240 0).set 7 3
theorem c7_len : c7.length = 240 := by simp [c7]
theorem c7_used : usedN c7 = 1 := by decide
theorem c7_build : Try.zeroCells31.setIfInBounds 7 (.int .u8 3) = (BV c7).toArray := by
  rw [z31]; rfl
def p7 : List UInt8 := pageB (leB 8 5 ++ c7)
theorem p7_len : p7.length = 256 := pageB_length _ (by simp [leB_length, c7_len])
theorem take_pageB (l : List UInt8) (n : Nat) (h : n ≤ l.length) : (pageB l).take n = l.take n := by
  unfold pageB sealB
  rw [List.append_assoc, List.take_append_of_le_length h]
theorem countsB_page (g : Nat) (c : List UInt8) (hc : c.length = 240) : countsB (pageB (leB 8 g ++ c)) = c := by
  unfold countsB pageB sealB
  rw [List.append_assoc, List.append_assoc, List.drop_append_of_le_length (by simp [leB_length]), List.drop_eq_nil_of_le (by simp [leB_length])]
  rw [List.nil_append, List.take_append_of_le_length (by omega), List.take_of_length_le (by omega)]
theorem ok7 : okB p7 5 = true := by
  unfold okB p7
  rw [countsB_page _ _ c7_len]; simp
theorem no7 : okB p7 7 = false := by
  unfold okB
  rw [decide_eq_false_iff_not]
  intro h
  have h1 := congrArg (List.take 1) h
  unfold p7 at h1
  rw [take_pageB _ _ (by simp [leB_length]; omega), take_pageB _ _ (by simp [leB_length]; omega)] at h1
  simp [leB, lo8] at h1
theorem counts7 : countsB p7 = c7 := by unfold p7; exact countsB_page _ _ c7_len
set_option maxHeartbeats 4000000 in
theorem tallyAlive_aux (c p z : List UInt8) (hb : Try.zeroCells31.setIfInBounds 7 (.int .u8 3) = (BV c).toArray)
    (HS7 : Hid ((Try.prog.info? 31).map (·.size) = some (BV c).toArray.size)) (HSp : Hid ((Try.prog.info? 28).map (·.size) = some (BV p).toArray.size)) (HZ0 : Hid ((Try.prog.info? 31).map (·.size) = some (BV z).toArray.size))
    (HCL : Hid (c.length = 240)) (HP1 : Hid (Try.zeroCells28.size = (BV p).toArray.size)) (HZ5 : Hid (Try.zeroCells31.size = (BV c).toArray.size)) (HZ6 : Hid (Try.zeroCells31.size = (BV z).toArray.size))
    (HZ1 : Hid ((Try.prog.info? 31).map (·.size) = some (Try.zeroCells31.setIfInBounds 7 (.int .u8 3)).size))
    (HZ2 : Hid (Try.zeroCells31.size = (Try.zeroCells31.setIfInBounds 7 (.int .u8 3)).size))
    (HZ3 : Hid ((Try.zeroCells31.setIfInBounds 7 (.int .u8 3)).all (·.oneCell') = true))
    (P5 : ∀ W, Hid (Calls Try.prog 26 #[.int .u64 5, .agg (BV c).toArray] W fun e w' => e = .returned (.agg (BV p).toArray) ∧ Ext W w'))
    (O5 : ∀ W, Hid (Calls Try.prog 27 #[.agg (BV p).toArray, .int .u64 5] W fun e w' => e = .returned (.tuple #[.agg (BV c).toArray, .int .i64 0]) ∧ Ext W w'))
    (O7 : ∀ W, Hid (Calls Try.prog 27 #[.agg (BV p).toArray, .int .u64 7] W fun e w' => e = .returned (.tuple #[.agg (BV z).toArray, .int .i64 61]) ∧ Ext W w'))
    (U7 : ∀ W, Hid (Calls Try.prog 25 #[.agg (BV c).toArray] W fun e w' => e = .returned (.int .i64 1) ∧ Ext W w'))
    (w : World) : Calls Try.prog 24 #[] w fun e w' => e = .returned (.bool true) ∧ Ext w w' := by
  have Hb := hid hb
  clear hb
  have hi5 := info_parts info5
  obtain ⟨i0, hi, hz0, hz1, hz2⟩ := hi5
  have Hi := hid hi
  clear hi hz0 hz1 hz2
  go_enter Try.func24, Try.ntmps24
  go_wp2_with (first
    | (refine fit (.store 31 (.tmp 1) (.tmp 7)) ?_; refine wpl_fresh rfl 31 (.tmp 1) (.tmp 7) rfl rfl rfl HZ1.out HZ2.out HZ3.out ?_; intro W1 E1 G1 hs1; rw [Hb.out] at G1)
    | (refine fit (.load 31 (.tmp 1)) ?_; refine wpl_load rfl 31 (.tmp 1) rfl rfl G1 Try.underlying31 rfl HS7.out ?_)
    | (go_at_call 26; refine (P5 _).out.mono ?_; rintro e W2 ⟨rfl, hE2⟩; have G2 := G1.ext hE2; have E2 := E1.tr hE2)
    | (refine fit (.store 28 (.tmp 2) (.tmp 9)) ?_; refine wpl_fresh rfl 28 (.tmp 2) (.tmp 9) rfl rfl rfl HSp.out HP1.out (BV_all _) ?_; intro W3 hE3 G3 hs3; have E3 := E2.tr hE3; have H3 := G2.ext hE3)
    | (refine fit (.load 28 (.tmp 2)) ?_; refine wpl_load rfl 28 (.tmp 2) rfl rfl G3 Try.underlying28 rfl HSp.out ?_)
    | (go_at_call 27; refine (O5 _).out.mono ?_; rintro e W4 ⟨rfl, hE4⟩; have E4 := E3.tr hE4; have H4 := H3.ext hE4; have G4 := G3.ext hE4)
    | (refine fit (.store 31 (.tmp 3) (.tmp 13)) ?_; refine wpl_fresh rfl 31 (.tmp 3) (.tmp 13) rfl rfl rfl HS7.out HZ5.out (BV_all _) ?_; intro W5 hE5 I5 hs5; have E5 := E4.tr hE5; have H5 := H4.ext hE5; have G5 := G4.ext hE5)
    | (refine fit (.load 28 (.tmp 2)) ?_; refine wpl_load rfl 28 (.tmp 2) rfl rfl G5 Try.underlying28 rfl HSp.out ?_)
    | (go_at_call 27; refine (O7 _).out.mono ?_; rintro e W6 ⟨rfl, hE6⟩; have E6 := E5.tr hE6; have H6 := H5.ext hE6; have I6 := I5.ext hE6)
    | (refine fit (.store 31 (.tmp 5) (.tmp 18)) ?_; refine wpl_fresh rfl 31 (.tmp 5) (.tmp 18) rfl rfl rfl HZ0.out HZ6.out (BV_all _) ?_; intro W7 hE7 _ hs7; have E7 := E6.tr hE7; have H7 := H6.ext hE7; have I7 := I6.ext hE7)
    | (refine fit (.load 31 (.tmp 3)) ?_; refine wpl_do rfl (wp_load 31 (.tmp 3) rfl rfl I7 Try.underlying31 rfl HS7.out ?_))
    | (refine fit (.load 31 (.tmp 1)) ?_; refine wpl_do rfl (wp_load 31 (.tmp 1) rfl rfl H7 Try.underlying31 rfl HS7.out ?_))
    | (refine fit (.binOp .eql 31 (.tmp 23) (.tmp 24) 31) ?_; refine stop ?_)
    | (go_at_call 25; refine (U7 _).out.mono ?_; rintro e W8 ⟨rfl, hE8⟩; have E8 := E7.tr hE8)
    )
  refine ⟨?_⟩
  refine wpl_eq_bytes rfl .eql (.inl rfl) 31 (.tmp 23) (.tmp 24) 31 rfl Try.underlying31 Hi.out co5 Try.underlying5 eg31 rfl rfl HCL.out HCL.out true (by simp) ?_
  go_wp2_with (first
    | (refine fit (.load 31 (.tmp 1)) ?_; refine wpl_do rfl (wp_load 31 (.tmp 1) rfl rfl H7 Try.underlying31 rfl HS7.out ?_))
    | (go_at_call 25; refine (U7 _).out.mono ?_; rintro e W8 ⟨rfl, hE8⟩; have E8 := E7.tr hE8))
  go_ret
  exact ⟨rfl, E8⟩

theorem tallyAlive_calls (w : World) : Calls Try.prog 24 #[] w fun e w' => e = .returned (.bool true) ∧ Ext w w' := by
  refine tallyAlive_aux c7 p7 (List.replicate 240 0) c7_build (hid (BV_size sz31 c7_len)) (hid (BV_size sz28 p7_len)) (hid (BV_size sz31 (by simp))) (hid c7_len) ?_ ?_ ?_ ?_ ?_ ?_ ?_ ?_ ?_ ?_ w
  · rw [z28]; exact BV_sizes (by rw [p7_len]; simp)
  · rw [z31]; exact BV_sizes (by rw [c7_len]; simp)
  · rw [z31]; exact rfl
  · rw [c7_build]; exact BV_size sz31 c7_len
  · show _ = _; simp
  · rw [c7_build]; exact BV_all _
  · exact fun W => hid (Page_calls 5 (by decide) c7 c7_len W)
  · intro W
    have := Open_calls p7 p7_len 5 (by decide) W true ok7
    rw [counts7] at this
    exact this
  · intro W
    exact Open_calls p7 p7_len 7 (by decide) W false no7
  · intro W
    have := Used_calls c7 c7_len W
    rw [c7_used] at this
    exact this
end Go.Proofs.Ytnggcldghpmeaaa
