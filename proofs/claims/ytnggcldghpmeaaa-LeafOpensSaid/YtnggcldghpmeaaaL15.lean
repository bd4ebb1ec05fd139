/- The package leaf: whether two nodes are the same, walked. -/
import Derived.Test.YtnggcldghpmeaaaL5
set_option linter.unusedVariables false
set_option linter.unusedSimpArgs false
set_option maxRecDepth 100000
namespace Go.Proofs.Ytnggcldghpmeaaa
open Go.RowKit
attribute [local irreducible] Calls
theorem eq_upto {l m : List (Int × Int)} (hl : l.length = m.length) (h : ∀ j, j < l.length → l[j]? = m[j]?) : l = m := by
  apply List.ext_getElem? 
  intro i
  by_cases hi : i < l.length
  · exact h i hi
  · rw [List.getElem?_eq_none (by omega), List.getElem?_eq_none (by omega)]
set_option maxHeartbeats 4000000 in
theorem Equal_calls {w : World} {A A2 : Option Addr} {c c2 : Nat} (l m : List (Int × Int)) (hr : Rd w A (EV l)) (hr2 : Rd w A2 (EV m)) (hl : l.length ≤ 100000) (hm : m.length ≤ 100000) :
    Calls Try.prog 98 #[.slice A l.length c, .slice A2 m.length c2] w fun e w' => e = .returned (.bool (decide (l = m))) ∧ Ext w w' := by
  obtain ⟨r, hrr⟩ : ∃ r, r = decide (l = m) := ⟨_, rfl⟩
  rw [← hrr]
  have HR := hid hrr
  clear hrr
  by_cases hlen : l.length = m.length
  · have HLE := hid hlen
    rw [← hlen]
    clear hlen
    go_enter Try.func98, Try.ntmps98
    go_wp2
    go_loopw [13] (fun i wr => ∃ k : Nat, k ≤ l.length ∧ i = .int .i64 k ∧ (∀ j, j < k → l[j]? = m[j]?) ∧ Ext w wr) (fun i _ => l.length - (intOf i).toNat)
    case atStart => exact ⟨0, by omega, rfl, fun j hj => by omega, Ext.rfl'⟩
    case round =>
      obtain ⟨k, hk, rfl, hg, E1⟩ := hrel
      by_cases hlt : k < l.length
      · obtain ⟨ad, rfl, hat⟩ := EV_at (hr.ext E1) k hlt
        obtain ⟨ad2, rfl, hat2⟩ := EV_at (hr2.ext E1) k (by have := HLE.out; omega)
        have hx1 : l[k]? = some l[k] := by simp
        have hx2 : m[k]? = some (m[k]'(by have := HLE.out; omega)) := by simp
        have hd : ¬ l[k]? = m[k]? → ¬ l = m := fun h e => h (by rw [e])
        rw [hx1, hx2] at hd
        generalize l[k] = x at *
        generalize m[k]'(by have := HLE.out; omega) = y at *
        obtain ⟨a, p⟩ := x
        obtain ⟨a', p'⟩ := y
        simp only at hat hat2
        have HX1 := hid hx1
        have HX2 := hid hx2
        have HD := hid hd
        have HG := hid hg
        have HI := hid sz60
        have HAT := hid hat.dr1
        have HAT2 := hid hat2.dr1
        clear hx1 hx2 hd hat hat2 hg
        go_wp2
        rename_i K1 hK1
        by_cases hne : a = a' ∧ p = p'
        · obtain ⟨rfl, rfl⟩ := hne
          refine seq (fun W => Ext wr.drew W) [0, 1, 2, 3, 4, 5, 6, 7, 8] (by kernel_rfl) (by kernel_rfl) (by kernel_rfl) (by decide) (fun _ _ _ _ _ h => h) Ext.rfl' ?_
          refine seq_take (v := ?_) rfl rfl rfl (fun W hW => ?_) ?_
          rotate_left
          · go_simp
            rfl
          try simp only [Act.put, List.getElem_toArray, List.getElem_cons_zero, List.getElem_cons_succ, List.setIfInBounds_toArray, List.set_cons_zero, List.set_cons_succ]
          refine seq_take (v := ?_) rfl rfl rfl (fun W hW => ?_) ?_
          rotate_left
          · go_simp
            rfl
          try simp only [Act.put, List.getElem_toArray, List.getElem_cons_zero, List.getElem_cons_succ, List.setIfInBounds_toArray, List.set_cons_zero, List.set_cons_succ]
          refine seq_take (v := ?_) rfl rfl rfl (fun W hW => ?_) ?_
          rotate_left
          · go_simp
            rfl
          try simp only [Act.put, List.getElem_toArray, List.getElem_cons_zero, List.getElem_cons_succ, List.setIfInBounds_toArray, List.set_cons_zero, List.set_cons_succ]
          refine seq_loadAt rfl 60 (.tmp 18) rfl rfl rfl [.int .i64 a, .int .i64 p] (fun W hW => HAT.out.ext hW) Try.underlying60 rfl HI.out ?_
          try simp only [Act.put, List.getElem_toArray, List.getElem_cons_zero, List.getElem_cons_succ, List.setIfInBounds_toArray, List.set_cons_zero, List.set_cons_succ]
          refine seq_take (v := ?_) rfl rfl rfl (fun W hW => ?_) ?_
          rotate_left
          · go_simp
            rfl
          try simp only [Act.put, List.getElem_toArray, List.getElem_cons_zero, List.getElem_cons_succ, List.setIfInBounds_toArray, List.set_cons_zero, List.set_cons_succ]
          refine seq_take (v := ?_) rfl rfl rfl (fun W hW => ?_) ?_
          rotate_left
          · go_simp
            rfl
          try simp only [Act.put, List.getElem_toArray, List.getElem_cons_zero, List.getElem_cons_succ, List.setIfInBounds_toArray, List.set_cons_zero, List.set_cons_succ]
          refine seq_take (v := ?_) rfl rfl rfl (fun W hW => ?_) ?_
          rotate_left
          · go_simp
            rfl
          try simp only [Act.put, List.getElem_toArray, List.getElem_cons_zero, List.getElem_cons_succ, List.setIfInBounds_toArray, List.set_cons_zero, List.set_cons_succ]
          refine seq_loadAt rfl 60 (.tmp 22) rfl rfl rfl [.int .i64 a, .int .i64 p] (fun W hW => HAT2.out.ext hW) Try.underlying60 rfl HI.out ?_
          try simp only [Act.put, List.getElem_toArray, List.getElem_cons_zero, List.getElem_cons_succ, List.setIfInBounds_toArray, List.set_cons_zero, List.set_cons_succ]
          refine seq_take (v := .bool false) rfl rfl rfl (fun W hW => ?_) ?_
          · go_simp
          try simp only [Act.put, List.getElem_toArray, List.getElem_cons_zero, List.getElem_cons_succ, List.setIfInBounds_toArray, List.set_cons_zero, List.set_cons_succ]
          refine seq_nil ?_
          refine hK1 _ _ ?_
          go_wp2
          go_roundw
          case rel =>
            refine ⟨k + 1, by omega, by go_num, fun j hj => ?_, E1.dr1⟩
            by_cases hjk : j < k
            · exact HG.out j hjk
            · obtain rfl : j = k := by omega
              rw [HX1.out, HX2.out]
          case measure => simp [intOf]; omega
        · have hv : (a == a' && p == p') = false := by
            rw [Bool.and_eq_false_iff]
            simp only [beq_eq_false_iff_ne]
            by_cases h : a = a'
            · exact .inr (fun h2 => hne ⟨h, h2⟩)
            · exact .inl h
          have HV := hid hv
          have HRF : Hid (r = false) := hid (by rw [HR.out, decide_eq_false_iff_not]; exact HD.out (by simp; exact fun h h2 => hne ⟨h, h2⟩))
          clear hv
          refine seq (fun W => Ext wr.drew W) [0, 1, 2, 3, 4, 5, 6, 7, 8] (by kernel_rfl) (by kernel_rfl) (by kernel_rfl) (by decide) (fun _ _ _ _ _ h => h) Ext.rfl' ?_
          refine seq_take (v := ?_) rfl rfl rfl (fun W hW => ?_) ?_
          rotate_left
          · go_simp
            rfl
          try simp only [Act.put, List.getElem_toArray, List.getElem_cons_zero, List.getElem_cons_succ, List.setIfInBounds_toArray, List.set_cons_zero, List.set_cons_succ]
          refine seq_take (v := ?_) rfl rfl rfl (fun W hW => ?_) ?_
          rotate_left
          · go_simp
            rfl
          try simp only [Act.put, List.getElem_toArray, List.getElem_cons_zero, List.getElem_cons_succ, List.setIfInBounds_toArray, List.set_cons_zero, List.set_cons_succ]
          refine seq_take (v := ?_) rfl rfl rfl (fun W hW => ?_) ?_
          rotate_left
          · go_simp
            rfl
          try simp only [Act.put, List.getElem_toArray, List.getElem_cons_zero, List.getElem_cons_succ, List.setIfInBounds_toArray, List.set_cons_zero, List.set_cons_succ]
          refine seq_loadAt rfl 60 (.tmp 18) rfl rfl rfl [.int .i64 a, .int .i64 p] (fun W hW => HAT.out.ext hW) Try.underlying60 rfl HI.out ?_
          try simp only [Act.put, List.getElem_toArray, List.getElem_cons_zero, List.getElem_cons_succ, List.setIfInBounds_toArray, List.set_cons_zero, List.set_cons_succ]
          refine seq_take (v := ?_) rfl rfl rfl (fun W hW => ?_) ?_
          rotate_left
          · go_simp
            rfl
          try simp only [Act.put, List.getElem_toArray, List.getElem_cons_zero, List.getElem_cons_succ, List.setIfInBounds_toArray, List.set_cons_zero, List.set_cons_succ]
          refine seq_take (v := ?_) rfl rfl rfl (fun W hW => ?_) ?_
          rotate_left
          · go_simp
            rfl
          try simp only [Act.put, List.getElem_toArray, List.getElem_cons_zero, List.getElem_cons_succ, List.setIfInBounds_toArray, List.set_cons_zero, List.set_cons_succ]
          refine seq_take (v := ?_) rfl rfl rfl (fun W hW => ?_) ?_
          rotate_left
          · go_simp
            rfl
          try simp only [Act.put, List.getElem_toArray, List.getElem_cons_zero, List.getElem_cons_succ, List.setIfInBounds_toArray, List.set_cons_zero, List.set_cons_succ]
          refine seq_loadAt rfl 60 (.tmp 22) rfl rfl rfl [.int .i64 a', .int .i64 p'] (fun W hW => HAT2.out.ext hW) Try.underlying60 rfl HI.out ?_
          try simp only [Act.put, List.getElem_toArray, List.getElem_cons_zero, List.getElem_cons_succ, List.setIfInBounds_toArray, List.set_cons_zero, List.set_cons_succ]
          refine seq_take (v := .bool true) rfl rfl rfl (fun W hW => ?_) ?_
          · go_simp
            exact fun h h2 => hne ⟨h, h2⟩
          try simp only [Act.put, List.getElem_toArray, List.getElem_cons_zero, List.getElem_cons_succ, List.setIfInBounds_toArray, List.set_cons_zero, List.set_cons_succ]
          refine seq_nil ?_
          refine hK1 _ _ ?_
          go_wp2
          go_ret
          exact ⟨by rw [HRF.out]; rfl, E1.dr1⟩
      · obtain rfl : k = l.length := by omega
        have HRT : Hid (r = true) := hid (by rw [HR.out, decide_eq_true_eq]; exact eq_upto HLE.out hg)
        go_wp2
        go_ret
        exact ⟨by rw [HRT.out]; rfl, E1⟩
  · have HRF : Hid (r = false) := hid (by rw [HR.out, decide_eq_false_iff_not]; exact fun e => hlen (by rw [e]))
    go_enter Try.func98, Try.ntmps98
    go_wp2
    go_ret
    exact ⟨by rw [HRF.out]; rfl, Ext.rfl'⟩
end Go.Proofs.Ytnggcldghpmeaaa
