/- The package leaf: a node's page, walked. -/
import Derived.Test.YtnggcldghpmeaaaL6
set_option linter.unusedVariables false
set_option linter.unusedSimpArgs false
set_option maxRecDepth 100000
namespace Go.Proofs.Ytnggcldghpmeaaa
open Go.RowKit
attribute [local irreducible] Calls
theorem bytes_calls {w : World} {A : Option Addr} {c : Nat} (k : Int) (b : List UInt8) (l : List (Int × Int)) (hb : b.length = 16) (hr : Rd w A (EV l)) (hl : l.length ≤ 100000) :
    Calls Try.prog 90 #[.agg (NV k b A l.length c)] w fun e w' => ∃ A' c', e = .returned (.slice A' (nodeLen k l) c') ∧ Own w' w.heap.size 5 1 A' (nodeLen k l) c' (BV (nodeB k b l)) ∧ Ext w w' := by
  unfold nodeLen nodeB
  by_cases hk : k = 1
  · subst hk
    exact bytes_data b hb
  · simp only [hk, if_false]
    exact bytes_ents k b l hk hb hr hl
/-- A node's page, and the error's number. -/
def pageN (k : Int) (b : List UInt8) (l : List (Int × Int)) : List UInt8 := if rightB k b l = true then pageB (nodeB k b l) else List.replicate 256 0
def errN (k : Int) (b : List UInt8) (l : List (Int × Int)) : Int := if rightB k b l = true then 0 else 81
theorem right_len {k : Int} {b : List UInt8} {l : List (Int × Int)} (h : rightB k b l = true) : l.length ≤ 6 := by
  unfold rightB at h
  split at h
  · have : l.length = 0 := by simpa using h
    omega
  · split at h
    · simp only [Bool.and_eq_true, decide_eq_true_eq] at h; exact h.1.2
    · cases h
theorem nodeB_le {k : Int} {b : List UInt8} {l : List (Int × Int)} (hb : b.length = 16) (h : rightB k b l = true) : (nodeB k b l).length ≤ 252 := by
  rw [nodeB_length hb]
  have := right_len h
  unfold nodeLen
  split <;> omega
theorem pageN_length {k : Int} {b : List UInt8} {l : List (Int × Int)} (hb : b.length = 16) : (pageN k b l).length = 256 := by
  unfold pageN
  split
  · rename_i h; exact pageB_length _ (nodeB_le hb h)
  · simp
set_option maxHeartbeats 4000000 in
theorem LPage_no {w : World} (nv : Array Value) (hs : nv.size = 18) (RT : ∀ W, Ext w W → Hid (Calls Try.prog 40 #[.agg nv] W fun e w' => e = .returned (.bool false) ∧ Ext W w')) :
    Calls Try.prog 35 #[.agg nv] w fun e w' => e = .returned (.tuple #[.agg (BV (List.replicate 256 0)).toArray, .int .i64 81]) ∧ Ext w w' := by
  have HI : Hid ((Try.prog.info? 50).map (·.size) = some nv.size) := hid (by rw [hs]; exact sz50)
  obtain ⟨p, hp⟩ : ∃ p : List UInt8, p = List.replicate 256 0 := ⟨_, rfl⟩
  have HL : Hid (p.length = 256) := hid (by rw [hp]; simp)
  rw [← hp]
  have HX : Hid ((BV p).toArray = Try.zeroCells28) := hid (by rw [hp]; exact z28.symm)
  have HS := hid (BV_size sz28 HL.out)
  clear hp hs
  go_enter Try.func35, Try.ntmps35
  go_wp2_with (first
    | (refine fit (.load 50 (.tmp 1)) ?_; refine wpl_do rfl (wp_load 50 (.tmp 1) rfl rfl (((Blk.new w 50 nv).al _).al _) Try.underlying50 rfl HI.out ?_))
    | (go_at_call 40; refine (RT _ (((Ext.rfl'.al _).al _).al _)).out.mono ?_; rintro e w1 ⟨rfl, hE1⟩; have E1 := (((Ext.rfl'.al (.cells nv 50)).al (.cells Try.zeroCells28 28)).al (.cells Try.zeroCells28 28)).tr hE1; have B2 : Blk w1 (w.heap.size + 1) 28 Try.zeroCells28 := ((Blk.new_ (by simp)).al _).ext hE1; have B4 : Blk w1 (w.heap.size + 1 + 1) 28 Try.zeroCells28 := (Blk.new_ (by simp)).ext hE1; rw [← HX.out] at B2 B4)
    | (refine fit (.load 28 (.tmp 4)) ?_; refine wpl_do rfl (wp_load 28 (.tmp 4) rfl rfl B4 Try.underlying28 rfl HS.out ?_))
    | (refine fit (.store 28 (.tmp 2) (.tmp 8)) ?_; refine wpl_store rfl 28 (.tmp 2) (.tmp 8) rfl rfl rfl B2 HS.out rfl (BV_all _) ?_; intro W5 hW5 G5 hb5 hf5 hs5))
  exact ret2 rfl (RV.cell rfl G5 Try.underlying28 rfl HS.out) (RV.tmp rfl) rfl ⟨rfl, E1.trans (hb5.mono (by omega))⟩
set_option maxHeartbeats 4000000 in
theorem LPage_yes {w : World} (nv : Array Value) (hs : nv.size = 18) (m : Nat) (l : List UInt8) (hm : m = l.length) (hl : l.length ≤ 252)
    (RT : ∀ W, Ext w W → Hid (Calls Try.prog 40 #[.agg nv] W fun e w' => e = .returned (.bool true) ∧ Ext W w'))
    (BT : ∀ W, Ext w W → Hid (Calls Try.prog 90 #[.agg nv] W fun e w' => ∃ A' c', e = .returned (.slice A' m c') ∧ Own w' W.heap.size 5 1 A' m c' (BV l) ∧ Ext W w')) :
    Calls Try.prog 35 #[.agg nv] w fun e w' => e = .returned (.tuple #[.agg (BV (pageB l)).toArray, .int .i64 0]) ∧ Ext w w' := by
  have HI : Hid ((Try.prog.info? 50).map (·.size) = some nv.size) := hid (by rw [hs]; exact sz50)
  have HL := hid hl
  have HM := hid hm
  have HP := hid (pageB_length l hl)
  have HS := hid (BV_size sz28 HP.out)
  have HZ : Hid (Try.zeroCells28.size = (BV (pageB l)).toArray.size) := hid (by rw [z28]; exact BV_sizes (by rw [HP.out]; simp))
  clear hs hl hm
  go_enter Try.func35, Try.ntmps35
  go_wp2_with (first
    | (refine fit (.load 50 (.tmp 1)) ?_; refine wpl_do rfl (wp_load 50 (.tmp 1) rfl rfl (((Blk.new w 50 nv).al _).al _) Try.underlying50 rfl HI.out ?_))
    | (go_at_call 40; refine (RT _ (((Ext.rfl'.al _).al _).al _)).out.mono ?_; rintro e w1 ⟨rfl, hE1⟩; have E1 := (((Ext.rfl'.al (.cells nv 50)).al (.cells Try.zeroCells28 28)).al (.cells Try.zeroCells28 28)).tr hE1; have B1 : Blk w1 w.heap.size 50 nv := (((Blk.new w 50 nv).al _).al _).ext hE1; have B2 : Blk w1 (w.heap.size + 1) 28 Try.zeroCells28 := ((Blk.new_ (by simp)).al _).ext hE1; have B4 : Blk w1 (w.heap.size + 1 + 1) 28 Try.zeroCells28 := (Blk.new_ (by simp)).ext hE1))
  obtain ⟨q, hq⟩ : ∃ q, q = w.heap.size := ⟨_, rfl⟩
  rw [← hq] at B1 B2 B4 ⊢
  have HQ := hid hq
  have HE := hid E1.dr1
  have H1 := hid B1.dr1
  have H2 := hid B2.dr1
  have H4 := hid B4.dr1
  rw [z28] at B4
  have H4z := hid B4.dr1
  clear hq E1 hE1 B1 B2 B4
  refine seqL (fun W => Ext w1.drew W) [0, 1, 2, 3, 4] 5 (by kernel_rfl) (by kernel_rfl) (by kernel_rfl) (by decide) (fun _ _ _ _ _ h => h) Ext.rfl' ?_
  refine seq_take (v := ?_) rfl rfl rfl (fun W hW => ?_) ?_
  rotate_left
  · go_simp
    rfl
  try simp only [Act.put, List.getElem_toArray, List.getElem_cons_zero, List.getElem_cons_succ, List.setIfInBounds_toArray, List.set_cons_zero, List.set_cons_succ]
  refine seq_load rfl 50 (.tmp 1) rfl rfl rfl (fun W hW => H1.out.ext hW) Try.underlying50 rfl HI.out ?_
  try simp only [Act.put, List.getElem_toArray, List.getElem_cons_zero, List.getElem_cons_succ, List.setIfInBounds_toArray, List.set_cons_zero, List.set_cons_succ]
  refine seq_do rfl rfl rfl ?_
  go_simp
  go_at_call 90
  refine (BT _ HE.out).out.mono ?_
  rintro e W3 ⟨A3, c3, rfl, hown3, hE3⟩
  refine ⟨hE3, ?_⟩
  try simp only [Act.put, List.getElem_toArray, List.getElem_cons_zero, List.getElem_cons_succ, List.setIfInBounds_toArray, List.set_cons_zero, List.set_cons_succ]
  refine seq_do rfl rfl rfl ?_
  go_simp
  refine ⟨hE3.al _, ?_⟩
  try simp only [Act.put, List.getElem_toArray, List.getElem_cons_zero, List.getElem_cons_succ, List.setIfInBounds_toArray, List.set_cons_zero, List.set_cons_succ]
  have HC := hid (Seal_c (n := 1) (c := 1) [l] l (m + 4) (Parts.new1 (t := 63) (c1 := c3) rfl HM.out hown3.rd) (by simp) (by simp [sumLen]; have := HL.out; omega) rfl (by simp) (by rw [HM.out]))
  refine seq_do rfl rfl rfl ?_
  go_simp
  go_at_call 87
  refine HC.out.mono ?_
  rintro e W4 ⟨A4, c4, rfl, hown4, hE4⟩
  have E4 : Ext w1.drew W4 := (hE3.al (.cells #[.slice A3 m c3] 63)).tr hE4
  refine ⟨E4, ?_⟩
  try simp only [Act.put, List.getElem_toArray, List.getElem_cons_zero, List.getElem_cons_succ, List.setIfInBounds_toArray, List.set_cons_zero, List.set_cons_succ]
  refine seq_last rfl rfl ?_
  refine wp_copyS rfl (.tmp 9) (.tmp 13) 63 63 rfl 5 Try.underlying63 (by kernel_rfl) rfl rfl (q + 1 + 1) 0 (BV (List.replicate 256 0)) 28 (H4z.out.ext E4) (BV (sealB l)) (by rw [BV_length, sealB_length, ← HM.out]; have := HL.out; have := HM.out; exact (Nat.min_eq_left (by omega)).symm) (fun _ => rfl) hown4.rd (by rw [BV_length, BV_length, sealB_length]; simp; have := HL.out; omega) (BV_one _) ?_
  intro W5 G4 hb5
  rw [page_splice l HL.out] at G4
  have G2 := (H2.out.ext E4).below hb5 (by omega)
  have hEE := HE.out
  go_simp
  go_wp2_with (first
    | (refine fit (.load 28 (.tmp 4)) ?_; refine wpl_do rfl (wp_load 28 (.tmp 4) rfl rfl G4 Try.underlying28 rfl HS.out ?_))
    | (refine fit (.store 28 (.tmp 2) (.tmp 15)) ?_; refine wpl_store rfl 28 (.tmp 2) (.tmp 15) rfl rfl rfl G2 HS.out HZ.out (BV_all _) ?_; intro W6 hW6 G6 hb6 hf6 hs6))
  refine ret2 rfl (RV.cell rfl G6 Try.underlying28 rfl HS.out) (RV.tmp rfl) rfl ⟨rfl, ?_⟩
  have hq := HQ.out
  exact ((hEE.tr E4).trans (hb5.mono (by omega))).trans (hb6.mono (by omega))
theorem LPage_calls {w : World} {A : Option Addr} {c : Nat} (k : Int) (b : List UInt8) (l : List (Int × Int)) (hb : b.length = 16) (hr : Rd w A (EV l)) (hl : l.length ≤ 100000) :
    Calls Try.prog 35 #[.agg (NV k b A l.length c)] w fun e w' => e = .returned (.tuple #[.agg (BV (pageN k b l)).toArray, .int .i64 (errN k b l)]) ∧ Ext w w' := by
  unfold pageN errN
  cases hR : rightB k b l
  · refine LPage_no _ (NV_size hb) (fun W hW => hid ?_)
    have := Right_calls (c := c) k b l hb (hr.ext hW) hl
    rwa [hR] at this
  · refine LPage_yes _ (NV_size hb) (nodeLen k l) (nodeB k b l) (nodeB_length hb).symm (nodeB_le hb hR) (fun W hW => hid ?_) (fun W hW => hid (bytes_calls k b l hb (hr.ext hW) hl))
    have := Right_calls (c := c) k b l hb (hr.ext hW) hl
    rwa [hR] at this
end Go.Proofs.Ytnggcldghpmeaaa
