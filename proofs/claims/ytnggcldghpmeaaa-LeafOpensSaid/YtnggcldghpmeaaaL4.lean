/- The package leaf: whether entries rise, walked. -/
import Derived.Test.YtnggcldghpmeaaaL3
import Derived.Deep.QuietTactic
import Derived.BigQuiet
set_option linter.unusedVariables false
set_option linter.unusedSimpArgs false
set_option maxRecDepth 100000
namespace Go.Proofs.Ytnggcldghpmeaaa
open Go.RowKit
attribute [local irreducible] Calls
/-- Entries as cells. -/
def EV (l : List (Int × Int)) : List Value := l.flatMap fun e => [.int .i64 e.1, .int .i64 e.2]
theorem EV_length (l : List (Int × Int)) : (EV l).length = l.length * 2 := by
  induction l with
  | nil => rfl
  | cons e l ih => simp [EV] at ih ⊢; omega
theorem EV_drop : ∀ (l : List (Int × Int)) (k : Nat) (h : k < l.length), ((EV l).drop (k * 2)).take 2 = [.int .i64 l[k].1, .int .i64 l[k].2]
  | e :: l, 0, _ => by simp [EV]
  | e :: l, k + 1, h => by
    have ih := EV_drop l k (by simpa using h)
    have e1 : EV (e :: l) = [.int .i64 e.1, .int .i64 e.2] ++ EV l := by simp [EV]
    rw [e1, Nat.succ_mul, Nat.add_comm (k * 2) 2, ← List.drop_drop]
    simpa using ih
theorem EV_at {w : World} {A : Option Addr} {l : List (Int × Int)} (h : Rd w A (EV l)) (k : Nat) (hk : k < l.length) :
    ∃ ad, A = some ad ∧ At w (ad.add (k * 2)) [.int .i64 l[k].1, .int .i64 l[k].2] := by
  obtain ⟨ad, rfl, _⟩ := h.at_ (k * 2) (by rw [EV_length]; omega)
  have h1 := ((At.of h).drop (k * 2)).take 2
  rw [EV_drop l k hk] at h1
  exact ⟨ad, rfl, h1⟩
theorem sz60 : (Try.prog.info? 60).map (·.size) = some 2 := by kernel_rfl
/-- May entry k stand where it stands? -/
def goodAt (l : List (Int × Int)) (k : Nat) : Bool := match l[k]? with
  | none => true
  | some e => decide (0 ≤ e.1) && decide (e.1 < 64) && decide (0 ≤ e.2) && decide (e.2 < 240) && (k == 0 || match l[k - 1]? with
    | none => true
    | some d => decide (d.1 < e.1))
def risesB (l : List (Int × Int)) : Bool := (List.range l.length).all (goodAt l) && decide (1 ≤ l.length) && decide (l.length ≤ 6)
theorem rises_bad {l : List (Int × Int)} {k : Nat} (h : k < l.length) (hb : goodAt l k = false) : risesB l = false := by
  unfold risesB
  have : (List.range l.length).all (goodAt l) = false := by
    rw [List.all_eq_false]
    exact ⟨k, List.mem_range.2 h, by simp [hb]⟩
  rw [this]; rfl
theorem rises_good {l : List (Int × Int)} (h : ∀ k, k < l.length → goodAt l k = true) : risesB l = (decide (1 ≤ l.length) && decide (l.length ≤ 6)) := by
  unfold risesB
  have : (List.range l.length).all (goodAt l) = true := by
    rw [List.all_eq_true]
    intro k hk
    exact h k (List.mem_range.1 hk)
  rw [this, Bool.true_and]
set_option maxHeartbeats 4000000 in
theorem rises_calls {w : World} {A : Option Addr} {c : Nat} (l : List (Int × Int)) (hr : Rd w A (EV l)) (hl : l.length ≤ 100000) :
    Calls Try.prog 94 #[.slice A l.length c] w fun e w' => e = .returned (.bool (risesB l)) ∧ Ext w w' := by
  go_enter Try.func94, Try.ntmps94
  go_wp2
  go_loopw [7] (fun i wr => ∃ k : Nat, k ≤ l.length ∧ i = .int .i64 k ∧ (∀ j, j < k → goodAt l j = true) ∧ Ext w wr) (fun i _ => l.length - (intOf i).toNat)
  case atStart => exact ⟨0, by omega, rfl, fun j hj => by omega, Ext.rfl'⟩
  case round =>
    obtain ⟨k, hk, rfl, hg, E1⟩ := hrel
    by_cases hlt : k < l.length
    · obtain ⟨ad, rfl, hat⟩ := EV_at (hr.ext E1) k hlt
      have HAT := hid hat
      have HG := hid hg
      have HBad := hid (fun h => rises_bad hlt h)
      have hgd : goodAt l k = (decide (0 ≤ l[k].1) && decide (l[k].1 < 64) && decide (0 ≤ l[k].2) && decide (l[k].2 < 240) && (k == 0 || match l[k - 1]? with
        | none => true
        | some d => decide (d.1 < l[k].1))) := by simp [goodAt, hlt]
      have HGD := hid hgd
      have HI := hid sz60
      clear hat hg hgd
      generalize l[k] = en at *
      obtain ⟨a, p⟩ := en
      simp only at *
      go_wp2_with (refine fit (.load 60 (.tmp 10)) ?_; refine wpl_do rfl (wp_loadAt 60 (.tmp 10) rfl rfl [.int .i64 a, .int .i64 p] HAT.out Try.underlying60 rfl HI.out ?_))
      refine abs_w (fun W => Ext w W ∧ Blk W wr.heap.size 60 #[.int .i64 a, .int .i64 p] ∧ Ext wr W) (fun W1 h1 => ?_) ⟨E1.al _, Blk.new _ _ _, Ext.rfl'.al _⟩
      obtain ⟨E2, B2, E12⟩ := h1
      have b0 := B2.cell 0
      have b1 := B2.cell 1
      by_cases h1 : a < 0
      · have hb := HBad.out (by rw [HGD.out]; simp; omega)
        go_quiet (fail)
        go_wp2
        go_ret
        exact ⟨by first | rfl | (rw [hb]; rfl), E2.dr _⟩
      by_cases h2 : 64 ≤ a
      · have hb := HBad.out (by rw [HGD.out]; simp; omega)
        go_quiet (fail)
        go_wp2
        go_ret
        exact ⟨by first | rfl | (rw [hb]; rfl), E2.dr _⟩
      by_cases h3 : p < 0
      · have hb := HBad.out (by rw [HGD.out]; simp; omega)
        go_quiet (fail)
        go_wp2
        go_ret
        exact ⟨by first | rfl | (rw [hb]; rfl), E2.dr _⟩
      by_cases h4 : 240 ≤ p
      · have hb := HBad.out (by rw [HGD.out]; simp; omega)
        go_quiet (fail)
        go_wp2
        go_ret
        exact ⟨by first | rfl | (rw [hb]; rfl), E2.dr _⟩
      by_cases h5 : k = 0
      · subst h5
        have hgood : Hid (goodAt l 0 = true) := hid (HGD.out.trans (by simp; omega))
        go_quiet (fail)
        go_wp2
        go_roundw
        case rel => exact ⟨1, by omega, rfl, fun j hj => (by obtain rfl : j = 0 := (by omega); exact hgood.out), E2.dr _⟩
        case measure => simp [intOf]; omega
      · obtain ⟨m, rfl⟩ : ∃ m, k = m + 1 := ⟨k - 1, by omega⟩
        obtain ⟨ad', e, hm⟩ := EV_at (hr.ext E2) m (by omega)
        cases e
        have hp := hm.out 0 _ rfl
        rw [add_of_add] at hp
        have hq : l[m + 1 - 1]? = some l[m] := by simp
        generalize l[m] = dn at *
        obtain ⟨d, d2⟩ := dn
        simp only at *
        have HGQ := hid (HGD.out.trans (by rw [hq]))
        have hp' : W1.cell? (ad.add (m * 2)) = some (.int .i64 d) := hp
        clear hp hq hm
        by_cases h6 : a ≤ d
        · have hb := HBad.out (by rw [HGQ.out]; simp; omega)
          go_quiet (fail)
          go_wp2
          go_ret
          exact ⟨by first | rfl | (rw [hb]; rfl), E2.dr _⟩
        · have hgood : Hid (goodAt l (m + 1) = true) := hid (HGQ.out.trans (by simp; omega))
          go_quiet (fail)
          go_wp2
          go_roundw
          case rel =>
            exact ⟨m + 2, by omega, by go_num, fun j hj => by
              by_cases hj2 : j < m + 1
              · exact HG.out j hj2
              · obtain rfl : j = m + 1 := by omega
                exact hgood.out, E2.dr _⟩
          case measure => simp [intOf]; omega
    · obtain rfl : k = l.length := by omega
      have hR := hid (rises_good hg)
      by_cases h1 : 1 ≤ l.length
      · go_wp2
        go_ret
        exact ⟨by rw [hR.out]; simp [h1]; omega, E1⟩
      · go_wp2
        go_ret
        exact ⟨by rw [hR.out]; simp [h1], E1⟩
end Go.Proofs.Ytnggcldghpmeaaa
