/- The package leaf: the chapter's example, and the law LeafNames, walked. -/
import Derived.Test.YtnggcldghpmeaaaL12
set_option linter.unusedVariables false
set_option linter.unusedSimpArgs false
set_option maxRecDepth 100000
namespace Go.Proofs.Ytnggcldghpmeaaa
open Go.RowKit
attribute [local irreducible] Calls
theorem NV_litS (k : Int) (A : Option Addr) (n c : Nat) : (#[.int .i64 k, .int .u8 0, .int .u8 0, .int .u8 0, .int .u8 0, .int .u8 0, .int .u8 0, .int .u8 0, .int .u8 0, .int .u8 0, .int .u8 0, .int .u8 0, .int .u8 0, .int .u8 0, .int .u8 0, .int .u8 0, .int .u8 0, .slice A n c] : Array Value) = NV k (List.replicate 16 0) A n c := by
  simp [NV, BV, bv, List.replicate]
def L7 : List (Int × Int) := [(3, 9), (7, 1)]
set_option maxHeartbeats 4000000 in
theorem leafAlive_aux (p z : List UInt8) (hp : p.length = 256) (hzl : z.length = 16) (hz : z = List.replicate 16 0)
    (PG : ∀ W A, Rd W A (EV L7) → Hid (Calls Try.prog 35 #[.agg (NV 2 z A 2 2)] W fun e w' => e = .returned (.tuple #[.agg (BV p).toArray, .int .i64 0]) ∧ Ext W w'))
    (OP : ∀ W, Hid (Calls Try.prog 36 #[.agg (BV p).toArray] W fun e w' => ∃ A c, e = .returned (.tuple #[.agg (NV 2 z A 2 c), .int .i64 0]) ∧ Rd w' A (EV L7) ∧ Ext W w'))
    (A5 : ∀ W A, Rd W A (EV L7) → Hid (Calls Try.prog 41 #[.slice A 2 2, .int .i64 5] W fun e w' => e = .returned (.int .i64 0) ∧ Ext W w'))
    (A2 : ∀ W A, Rd W A (EV L7) → Hid (Calls Try.prog 41 #[.slice A 2 2, .int .i64 2] W fun e w' => e = .returned (.int .i64 (-1)) ∧ Ext W w'))
    (w : World) : Calls Try.prog 37 #[] w fun e w' => e = .returned (.bool true) ∧ Ext w w' := by
  have HS := hid (BV_size sz28 hp)
  have HZP : Hid (Try.zeroCells28.size = (BV p).toArray.size) := hid (by rw [z28]; exact BV_sizes (by rw [hp]; simp))
  have HZ := hid hzl
  have HN1 : ∀ A c, Hid ((Try.prog.info? 50).map (·.size) = some (NV 2 z A 2 c).size) := fun A c => hid (by rw [NV_size HZ.out]; exact sz50)
  have HN2 : ∀ A c, Hid ((NV 0 z none 0 0).size = (NV 2 z A 2 c).size) := fun A c => hid (by rw [NV_size HZ.out, NV_size HZ.out])
  have HZE := hid hz
  clear hp hzl hz
  go_enter Try.func37, Try.ntmps37
  go_wp2_with (first
    | (go_at_call 35; rw [NV_litS, ← HZE.out]; have R0 : Rd (w.alloc (.cells #[.int .i64 3, .int .i64 9, .int .i64 7, .int .i64 1] 60)) (some ⟨w.heap.size, 0, none⟩) (EV L7) := Rd.new rfl rfl; refine (PG _ _ R0).out.mono ?_; rintro e w1 ⟨rfl, hE1⟩; have E1 := (Ext.rfl'.al _).tr hE1; have R1 := R0.ext hE1)
    | (refine fit (.store 28 (.tmp 2) (.tmp 13)) ?_; refine wpl_fresh rfl 28 (.tmp 2) (.tmp 13) rfl rfl rfl HS.out HZP.out (BV_all _) ?_; intro w2 hE2 B2 hs2; have E2 := E1.tr hE2; have R2 := R1.ext hE2)
    | (refine fit (.load 28 (.tmp 2)) ?_; refine wpl_do rfl (wp_load 28 (.tmp 2) rfl rfl B2 Try.underlying28 rfl HS.out ?_))
    | (go_at_call 36; refine (OP _).out.mono ?_; rintro e w3 ⟨A, c, rfl, hrd, hE3⟩; have E3 := E2.tr hE3; have R3 := R2.ext hE3)
    | (refine fit (.store 50 (.tmp 4) (.tmp 18)) ?_; simp only [NV_litS]; rw [← HZE.out]; refine wpl_fresh rfl 50 (.tmp 4) (.tmp 18) rfl rfl rfl (HN1 A c).out (HN2 A c).out NV_one ?_; intro w4 hE4 B4 hs4; have E4 := E3.tr hE4; have R4 := R3.ext hE4; have hrd4 := hrd.ext hE4))
  have HB4 := hid B4.dr1
  have HR4 := hid R4.dr1
  have HD4 := hid hrd4.dr1
  have HE4 := hid E4.dr1
  obtain ⟨ad, rfl, hat⟩ := EV_at HD4.out 1 (by simp [L7])
  obtain ⟨ad2, e2, hat2⟩ := EV_at HR4.out 1 (by simp [L7])
  cases e2
  have HAT : Hid (At w4.drew (ad.add 2) [.int .i64 7, .int .i64 1]) := hid hat
  have HAT2 : Hid (At w4.drew ((⟨w.heap.size, 0, none⟩ : Addr).add 2) [.int .i64 7, .int .i64 1]) := hid hat2
  have HI6 := hid sz60
  clear hat hat2 R4 R3 R2 R1 B2 hs2 hs4 B4 hrd4 hrd hE1 hE2 hE3 hE4 E1 E2 E3 E4
  refine seq (fun W => Ext w4.drew W) [0, 1, 2, 3, 4, 5, 6, 7, 8, 9, 10, 11, 12, 13, 14, 15, 16, 17, 18, 19, 20, 21, 22, 23, 24, 25, 26, 27, 28, 29, 30, 31, 32] (by kernel_rfl) (by kernel_rfl) (by kernel_rfl) (by decide) (fun _ _ _ _ _ h => h) Ext.rfl' ?_
  refine seq_take (v := ?_) rfl rfl rfl (fun W hW => ?_) ?_
  rotate_left
  · go_simp
    rfl
  try simp only [Act.put, List.getElem_toArray, List.getElem_cons_zero, List.getElem_cons_succ, List.setIfInBounds_toArray, List.set_cons_zero, List.set_cons_succ]
  refine seq_do rfl rfl rfl ?_
  go_simp
  go_at_call 41
  refine (A5 _ _ HR4.out).out.mono ?_
  rintro e w5 ⟨rfl, hE5⟩
  refine ⟨hE5, ?_⟩
  try simp only [Act.put, List.getElem_toArray, List.getElem_cons_zero, List.getElem_cons_succ, List.setIfInBounds_toArray, List.set_cons_zero, List.set_cons_succ]
  refine seq_take (v := ?_) rfl rfl rfl (fun W hW => ?_) ?_
  rotate_left
  · go_simp
    rfl
  try simp only [Act.put, List.getElem_toArray, List.getElem_cons_zero, List.getElem_cons_succ, List.setIfInBounds_toArray, List.set_cons_zero, List.set_cons_succ]
  refine seq_take (v := ?_) rfl rfl rfl (fun W hW => ?_) ?_
  rotate_left
  · go_simp
    rfl
  try simp only [Act.put, List.getElem_toArray, List.getElem_cons_zero, List.getElem_cons_succ, List.setIfInBounds_toArray, List.set_cons_zero, List.set_cons_succ]
  refine seq_take (v := ?_) rfl rfl rfl (fun W hW => ?_) ?_
  rotate_left
  · go_simp
    rfl
  try simp only [Act.put, List.getElem_toArray, List.getElem_cons_zero, List.getElem_cons_succ, List.setIfInBounds_toArray, List.set_cons_zero, List.set_cons_succ]
  refine seq_do rfl rfl rfl ?_
  go_simp
  go_at_call 41
  refine (A2 _ _ (HR4.out.ext hE5)).out.mono ?_
  rintro e w6 ⟨rfl, hE6⟩
  have E6 := hE5.tr hE6
  refine ⟨E6, ?_⟩
  have HE6 := hid E6
  clear E6 hE5 hE6
  try simp only [Act.put, List.getElem_toArray, List.getElem_cons_zero, List.getElem_cons_succ, List.setIfInBounds_toArray, List.set_cons_zero, List.set_cons_succ]
  refine seq_take (v := ?_) rfl rfl rfl (fun W hW => ?_) ?_
  rotate_left
  · go_simp
    rfl
  try simp only [Act.put, List.getElem_toArray, List.getElem_cons_zero, List.getElem_cons_succ, List.setIfInBounds_toArray, List.set_cons_zero, List.set_cons_succ]
  refine seq_take (v := ?_) rfl rfl rfl (fun W hW => ?_) ?_
  rotate_left
  · go_simp
    rfl
  try simp only [Act.put, List.getElem_toArray, List.getElem_cons_zero, List.getElem_cons_succ, List.setIfInBounds_toArray, List.set_cons_zero, List.set_cons_succ]
  refine seq_take (v := ?_) rfl rfl rfl (fun W hW => ?_) ?_
  rotate_left
  · go_simp
    rfl
  try simp only [Act.put, List.getElem_toArray, List.getElem_cons_zero, List.getElem_cons_succ, List.setIfInBounds_toArray, List.set_cons_zero, List.set_cons_succ]
  refine seq_take (v := ?_) rfl rfl rfl (fun W hW => ?_) ?_
  rotate_left
  · go_simp
    rfl
  try simp only [Act.put, List.getElem_toArray, List.getElem_cons_zero, List.getElem_cons_succ, List.setIfInBounds_toArray, List.set_cons_zero, List.set_cons_succ]
  refine seq_take (v := ?_) rfl rfl rfl (fun W hW => ?_) ?_
  rotate_left
  · go_simp
    rfl
  try simp only [Act.put, List.getElem_toArray, List.getElem_cons_zero, List.getElem_cons_succ, List.setIfInBounds_toArray, List.set_cons_zero, List.set_cons_succ]
  refine seq_take (v := ?_) rfl rfl rfl (fun W hW => ?_) ?_
  rotate_left
  · go_simp
    rfl
  try simp only [Act.put, List.getElem_toArray, List.getElem_cons_zero, List.getElem_cons_succ, List.setIfInBounds_toArray, List.set_cons_zero, List.set_cons_succ]
  refine seq_take (v := ?_) rfl rfl rfl (fun W hW => ?_) ?_
  rotate_left
  · go_simp
    rfl
  try simp only [Act.put, List.getElem_toArray, List.getElem_cons_zero, List.getElem_cons_succ, List.setIfInBounds_toArray, List.set_cons_zero, List.set_cons_succ]
  refine seq_take (v := ?_) rfl rfl rfl (fun W hW => ?_) ?_
  rotate_left
  · go_simp
    rfl
  try simp only [Act.put, List.getElem_toArray, List.getElem_cons_zero, List.getElem_cons_succ, List.setIfInBounds_toArray, List.set_cons_zero, List.set_cons_succ]
  refine seq_take (v := ?_) rfl rfl rfl (fun W hW => ?_) ?_
  rotate_left
  · go_simp
    rfl
  try simp only [Act.put, List.getElem_toArray, List.getElem_cons_zero, List.getElem_cons_succ, List.setIfInBounds_toArray, List.set_cons_zero, List.set_cons_succ]
  refine seq_take (v := ?_) rfl rfl rfl (fun W hW => ?_) ?_
  rotate_left
  · go_simp
    rfl
  try simp only [Act.put, List.getElem_toArray, List.getElem_cons_zero, List.getElem_cons_succ, List.setIfInBounds_toArray, List.set_cons_zero, List.set_cons_succ]
  refine seq_take (v := ?_) rfl rfl rfl (fun W hW => ?_) ?_
  rotate_left
  · go_simp
    rfl
  try simp only [Act.put, List.getElem_toArray, List.getElem_cons_zero, List.getElem_cons_succ, List.setIfInBounds_toArray, List.set_cons_zero, List.set_cons_succ]
  refine seq_take (v := ?_) rfl rfl rfl (fun W hW => ?_) ?_
  rotate_left
  · go_simp
    rfl
  try simp only [Act.put, List.getElem_toArray, List.getElem_cons_zero, List.getElem_cons_succ, List.setIfInBounds_toArray, List.set_cons_zero, List.set_cons_succ]
  refine seq_take (v := ?_) rfl rfl rfl (fun W hW => ?_) ?_
  rotate_left
  · have c17 := ((HB4.out.ext hW).cell 17).trans (NV17 HZ.out);go_simp
    rfl
  try simp only [Act.put, List.getElem_toArray, List.getElem_cons_zero, List.getElem_cons_succ, List.setIfInBounds_toArray, List.set_cons_zero, List.set_cons_succ]
  refine seq_do rfl rfl rfl ?_
  go_simp
  refine ⟨HE6.out, ?_⟩
  try simp only [Act.put, List.getElem_toArray, List.getElem_cons_zero, List.getElem_cons_succ, List.setIfInBounds_toArray, List.set_cons_zero, List.set_cons_succ]
  refine seq_take (v := ?_) rfl rfl rfl (fun W hW => ?_) ?_
  rotate_left
  · go_simp
    rfl
  try simp only [Act.put, List.getElem_toArray, List.getElem_cons_zero, List.getElem_cons_succ, List.setIfInBounds_toArray, List.set_cons_zero, List.set_cons_succ]
  refine seq_take (v := ?_) rfl rfl rfl (fun W hW => ?_) ?_
  rotate_left
  · go_simp
    rfl
  try simp only [Act.put, List.getElem_toArray, List.getElem_cons_zero, List.getElem_cons_succ, List.setIfInBounds_toArray, List.set_cons_zero, List.set_cons_succ]
  refine seq_take (v := ?_) rfl rfl rfl (fun W hW => ?_) ?_
  rotate_left
  · go_simp
    rfl
  try simp only [Act.put, List.getElem_toArray, List.getElem_cons_zero, List.getElem_cons_succ, List.setIfInBounds_toArray, List.set_cons_zero, List.set_cons_succ]
  refine seq_take (v := ?_) rfl rfl rfl (fun W hW => ?_) ?_
  rotate_left
  · go_simp
    rfl
  try simp only [Act.put, List.getElem_toArray, List.getElem_cons_zero, List.getElem_cons_succ, List.setIfInBounds_toArray, List.set_cons_zero, List.set_cons_succ]
  refine seq_take (v := ?_) rfl rfl rfl (fun W hW => ?_) ?_
  rotate_left
  · have c17 := ((HB4.out.ext hW).cell 17).trans (NV17 HZ.out);go_simp
    rfl
  try simp only [Act.put, List.getElem_toArray, List.getElem_cons_zero, List.getElem_cons_succ, List.setIfInBounds_toArray, List.set_cons_zero, List.set_cons_succ]
  refine seq_take (v := ?_) rfl rfl rfl (fun W hW => ?_) ?_
  rotate_left
  · go_simp
    rfl
  try simp only [Act.put, List.getElem_toArray, List.getElem_cons_zero, List.getElem_cons_succ, List.setIfInBounds_toArray, List.set_cons_zero, List.set_cons_succ]
  refine seq_loadAt rfl 60 (.tmp 45) rfl rfl rfl [.int .i64 7, .int .i64 1] (fun W hW => HAT.out.ext hW) Try.underlying60 rfl HI6.out ?_
  try simp only [Act.put, List.getElem_toArray, List.getElem_cons_zero, List.getElem_cons_succ, List.setIfInBounds_toArray, List.set_cons_zero, List.set_cons_succ]
  refine seq_take (v := ?_) rfl rfl rfl (fun W hW => ?_) ?_
  rotate_left
  · go_simp
    rfl
  try simp only [Act.put, List.getElem_toArray, List.getElem_cons_zero, List.getElem_cons_succ, List.setIfInBounds_toArray, List.set_cons_zero, List.set_cons_succ]
  refine seq_take (v := ?_) rfl rfl rfl (fun W hW => ?_) ?_
  rotate_left
  · go_simp
    rfl
  try simp only [Act.put, List.getElem_toArray, List.getElem_cons_zero, List.getElem_cons_succ, List.setIfInBounds_toArray, List.set_cons_zero, List.set_cons_succ]
  refine seq_loadAt rfl 60 (.tmp 48) rfl rfl rfl [.int .i64 7, .int .i64 1] (fun W hW => HAT2.out.ext hW) Try.underlying60 rfl HI6.out ?_
  try simp only [Act.put, List.getElem_toArray, List.getElem_cons_zero, List.getElem_cons_succ, List.setIfInBounds_toArray, List.set_cons_zero, List.set_cons_succ]
  refine seq_take (v := .bool true) rfl rfl rfl (fun W hW => ?_) ?_
  · go_simp
  try simp only [Act.put, List.getElem_toArray, List.getElem_cons_zero, List.getElem_cons_succ, List.setIfInBounds_toArray, List.set_cons_zero, List.set_cons_succ]
  refine seq_take (v := ?_) rfl rfl rfl (fun W hW => ?_) ?_
  rotate_left
  · go_simp
    rfl
  try simp only [Act.put, List.getElem_toArray, List.getElem_cons_zero, List.getElem_cons_succ, List.setIfInBounds_toArray, List.set_cons_zero, List.set_cons_succ]
  refine seq_take (v := ?_) rfl rfl rfl (fun W hW => ?_) ?_
  rotate_left
  · go_simp
    rfl
  try simp only [Act.put, List.getElem_toArray, List.getElem_cons_zero, List.getElem_cons_succ, List.setIfInBounds_toArray, List.set_cons_zero, List.set_cons_succ]
  refine seq_nil ?_
  go_wp2
  go_ret
  exact ⟨rfl, HE4.out.tr HE6.out⟩
theorem right7 : rightB 2 (List.replicate 16 0) L7 = true := by decide
theorem leafAlive_calls (w : World) : Calls Try.prog 37 #[] w fun e w' => e = .returned (.bool true) ∧ Ext w w' := by
  have hz : (List.replicate 16 (0 : UInt8)).length = 16 := by simp
  obtain ⟨t1, t2, t3⟩ := there_back hz right7
  have hs : SortedE L7 := rises_sorted (by decide)
  refine leafAlive_aux (pageB (nodeB 2 (List.replicate 16 0) L7)) (List.replicate 16 0) (pageB_length _ (nodeB_le hz right7)) hz rfl (fun W A hr => hid ?_) (fun W => hid ?_) (fun W A hr => hid ?_) (fun W A hr => hid ?_) w
  · have := LPage_calls (c := 2) 2 (List.replicate 16 0) L7 hz hr (by decide)
    unfold pageN errN at this
    rw [if_pos right7, if_pos right7] at this
    exact this
  · have := LOpen_yes (w := W) _ (pageB_length _ (nodeB_le hz right7)) (open_page hz right7)
    rw [t1, t2, t3] at this
    exact this
  · refine (At_calls (c := 2) L7 5 hr (by decide) hs).mono ?_
    rintro e w' ⟨at_, rfl, ⟨h1, h2, h3, h4⟩, hE⟩
    have a0 := h4 0 (by decide)
    have a1 := h3 1 (by decide)
    have e0 : keyAt L7 0 = 3 := rfl
    have e1 : keyAt L7 1 = 7 := rfl
    rw [e0] at a0
    rw [e1] at a1
    have hl : L7.length = 2 := rfl
    have : at_ = 0 := by omega
    rw [this]
    exact ⟨rfl, hE⟩
  · refine (At_calls (c := 2) L7 2 hr (by decide) hs).mono ?_
    rintro e w' ⟨at_, rfl, ⟨h1, h2, h3, h4⟩, hE⟩
    have a0 := h3 0 (by decide)
    have e0 : keyAt L7 0 = 3 := rfl
    rw [e0] at a0
    have hl : L7.length = 2 := rfl
    have : at_ = -1 := by omega
    rw [this]
    exact ⟨rfl, hE⟩
/-! ### LeafNames -/
set_option maxHeartbeats 4000000 in
theorem leafNames_aux (z p : List UInt8) (hzl : z.length = 16) (hz : z = List.replicate 16 0) (hp : p.length = 256) (hpz : (BV p).toArray = Try.zeroCells28)
    (PG : ∀ W, Hid (Calls Try.prog 35 #[.agg (NV 0 z none 0 0)] W fun e w' => e = .returned (.tuple #[.agg (BV p).toArray, .int .i64 81]) ∧ Ext W w'))
    (OP : ∀ W, Hid (Calls Try.prog 36 #[.agg (BV p).toArray] W fun e w' => ∃ A c, e = .returned (.tuple #[.agg (NV 0 z A 0 c), .int .i64 81]) ∧ Ext W w'))
    (w : World) : Calls Try.prog 7 #[] w fun e w' => e = .returned (.bool true) ∧ Ext w w' := by
  have HS := hid (BV_size sz28 hp)
  have HZP : Hid (Try.zeroCells28.size = (BV p).toArray.size) := hid (by rw [hpz])
  have HPZ := hid hpz
  have HZ := hid hzl
  have HZE := hid hz
  have HN1 : ∀ A c, Hid ((Try.prog.info? 50).map (·.size) = some (NV 0 z A 0 c).size) := fun A c => hid (by rw [NV_size HZ.out]; exact sz50)
  have HN2 : ∀ A c, Hid ((NV 0 z none 0 0).size = (NV 0 z A 0 c).size) := fun A c => hid (by rw [NV_size HZ.out, NV_size HZ.out])
  clear hp hzl hz hpz
  go_enter Try.func7, Try.ntmps7
  go_wp2_with (first
    | (go_at_call 35; rw [NV_litS, ← HZE.out]; refine (PG _).out.mono ?_; rintro e w1 ⟨rfl, E1⟩)
    | (refine fit (.store 28 (.tmp 1) (.tmp 8)) ?_; refine wpl_fresh rfl 28 (.tmp 1) (.tmp 8) rfl rfl rfl HS.out HZP.out (BV_all _) ?_; intro w2 hE2 B2 hs2; have E2 := E1.tr hE2)
    | (go_at_call 36; rw [← HPZ.out]; refine (OP _).out.mono ?_; rintro e w3 ⟨A, c, rfl, hE3⟩; have E3 := E2.tr hE3)
    | (refine fit (.store 50 (.tmp 3) (.tmp 13)) ?_; simp only [NV_litS]; rw [← HZE.out]; refine wpl_fresh rfl 50 (.tmp 3) (.tmp 13) rfl rfl rfl (HN1 A c).out (HN2 A c).out NV_one ?_; intro w4 hE4 B4 hs4; have E4 := E3.tr hE4)
    | (go_at_call 37; refine (leafAlive_calls _).mono ?_; rintro e w5 ⟨rfl, hE5⟩; have E5 := E4.tr hE5))
  go_ret
  exact ⟨rfl, E5⟩
theorem leafNames_calls (w : World) : Calls Try.prog 7 #[] w fun e w' => e = .returned (.bool true) ∧ Ext w w' := by
  have hz : (List.replicate 16 (0 : UInt8)).length = 16 := by simp
  refine leafNames_aux (List.replicate 16 0) (List.replicate 256 0) hz rfl (by simp) z28.symm (fun W => hid ?_) (fun W => hid ?_) w
  · exact LPage_calls (c := 0) 0 (List.replicate 16 0) [] hz Rd.nil (by simp)
  · refine (LOpen_no (List.replicate 256 0) (by simp) ?_).mono ?_
    · have hk : kN (List.replicate 256 0) = 0 := rfl
      unfold openB
      rw [hk]; rfl
    · rintro e w' ⟨A, c, rfl, _, hE⟩
      exact ⟨A, c, rfl, hE⟩
end Go.Proofs.Ytnggcldghpmeaaa
