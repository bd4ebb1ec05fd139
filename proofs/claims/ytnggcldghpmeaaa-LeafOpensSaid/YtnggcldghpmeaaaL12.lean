/- The package leaf: there and back; the chapter's example, and the law LeafNames, walked. -/
import Derived.Test.YtnggcldghpmeaaaL10
import Derived.Test.YtnggcldghpmeaaaL11
import Derived.Test.YtnggcldghpmeaaaW7
set_option linter.unusedVariables false
set_option linter.unusedSimpArgs false
set_option maxRecDepth 100000
namespace Go.Proofs.Ytnggcldghpmeaaa
open Go.RowKit
attribute [local irreducible] Calls
/-! ### There and back -/
theorem good_bounds {l : List (Int × Int)} {k : Nat} (h : k < l.length) (hg : goodAt l k = true) : 0 ≤ l[k].1 ∧ l[k].1 < 64 ∧ 0 ≤ l[k].2 ∧ l[k].2 < 240 := by
  simp only [goodAt, List.getElem?_eq_getElem h, Bool.and_eq_true, decide_eq_true_eq] at hg
  exact ⟨hg.1.1.1.1, hg.1.1.1.2, hg.1.1.2, hg.1.2⟩
theorem rises_all {l : List (Int × Int)} (h : risesB l = true) : ∀ k, k < l.length → goodAt l k = true := by
  unfold risesB at h
  rw [Bool.and_eq_true, Bool.and_eq_true, List.all_eq_true] at h
  exact fun k hk => h.1.1 k (List.mem_range.2 hk)
theorem rises_sorted {l : List (Int × Int)} (h : risesB l = true) : SortedE l := by
  have step : ∀ y, y + 1 < l.length → keyAt l y < keyAt l (y + 1) := by
    intro y hy
    have hg := rises_all h (y + 1) hy
    have h1 : l[y + 1 - 1]? = some l[y] := by simp
    simp only [goodAt, List.getElem?_eq_getElem hy, h1, Bool.and_eq_true, Bool.or_eq_true, decide_eq_true_eq, beq_iff_eq] at hg
    have h2 : l[y].1 < l[y + 1].1 := by
      rcases hg.2 with h | h
      · omega
      · exact h
    have e1 : keyAt l y = l[y].1 := by simp [keyAt, show y < l.length by omega]
    have e2 : keyAt l (y + 1) = l[y + 1].1 := by simp [keyAt, hy]
    rw [e1, e2]; exact h2
  intro x y hxy hy
  induction y with
  | zero => omega
  | succ y ih =>
    have h1 := step y hy
    rcases Nat.lt_or_ge x y with h | h
    · have := ih h (by omega); omega
    · obtain rfl : x = y := by omega
      exact h1
theorem leN_b8 (a : Int) (h0 : 0 ≤ a) (h1 : a < 256) : (leN [b8 a] : Int) = a := by
  have : leN [b8 a] = (b8 a).toNat := by simp [leN]
  rw [this]
  unfold b8
  rw [UInt8.toNat_ofNat']
  omega
theorem ents_entB : ∀ (l : List (Int × Int)) (r : List UInt8), (∀ e ∈ l, 0 ≤ e.1 ∧ e.1 < 256 ∧ 0 ≤ e.2 ∧ e.2 < 256) → ents l.length (entB l ++ r) = l
  | [], r, _ => rfl
  | e :: l, r, h => by
    have h1 := h e (by simp)
    have ih := ents_entB l r (fun x hx => h x (by simp [hx]))
    have e1 : entB (e :: l) ++ r = b8 e.1 :: b8 e.2 :: (entB l ++ r) := by simp [entB]
    rw [e1]
    simp only [List.length_cons, ents, List.take_succ_cons, List.take_zero, List.drop_succ_cons, List.drop_zero]
    rw [ih, leN_b8 _ h1.1 h1.2.1, leN_b8 _ h1.2.2.1 h1.2.2.2]
theorem there_back {k : Int} {b : List UInt8} {l : List (Int × Int)} (hb : b.length = 16) (hR : rightB k b l = true) :
    kN (pageB (nodeB k b l)) = k ∧ bN (pageB (nodeB k b l)) = b ∧ eN (pageB (nodeB k b l)) = l := by
  obtain ⟨r, hr⟩ : ∃ r, pageB (nodeB k b l) = nodeB k b l ++ r := ⟨_, by unfold pageB sealB; rw [List.append_assoc]⟩
  rw [hr]
  by_cases hk : k = 1
  · subst hk
    have hl : l = [] := by
      unfold rightB at hR
      simpa using hR
    subst hl
    have hn : nodeB 1 b [] = 1 :: b := by simp [nodeB]
    rw [hn]
    have h1 : kN ((1 :: b) ++ r) = 1 := by unfold kN; rfl
    refine ⟨h1, ?_, ?_⟩
    · unfold bN
      rw [if_pos h1]
      simp only [List.cons_append, List.drop_succ_cons, List.drop_zero]
      rw [List.take_append_of_le_length (by omega), List.take_of_length_le (by omega)]
    · unfold eN
      rw [if_pos h1]
  · have h23 : k = 2 ∨ k = 3 := by
      unfold rightB at hR
      rw [if_neg hk] at hR
      by_cases h : k = 2 ∨ k = 3
      · exact h
      · rw [if_neg h] at hR; cases hR
    have hrest : b = List.replicate 16 0 ∧ l.length ≤ 6 ∧ risesB l = true := by
      unfold rightB at hR
      rw [if_neg hk, if_pos h23] at hR
      simp only [Bool.and_eq_true, decide_eq_true_eq] at hR
      exact ⟨hR.1.1, hR.1.2, hR.2⟩
    have hn : nodeB k b l = b8 k :: b8 l.length :: entB l := by simp [nodeB, hk]
    rw [hn]
    have hkn : kN ((b8 k :: b8 l.length :: entB l) ++ r) = k := by
      show (leN [b8 k] : Int) = k
      exact leN_b8 k (by omega) (by omega)
    refine ⟨hkn, ?_, ?_⟩
    · unfold bN
      rw [if_neg (by rw [hkn]; exact hk)]
      exact hrest.1.symm
    · unfold eN
      rw [if_neg (by rw [hkn]; exact hk)]
      have hc : leN [b8 (l.length : Int)] = l.length := by
        have := leN_b8 (l.length : Int) (by omega) (by omega)
        omega
      show ents (min (leN [b8 (l.length : Int)]) 6) (entB l ++ r) = l
      rw [hc, Nat.min_eq_left hrest.2.1]
      refine ents_entB l r fun e he => ?_
      obtain ⟨j, hj, rfl⟩ := List.getElem_of_mem he
      have := good_bounds hj (rises_all hrest.2.2 j hj)
      omega
theorem open_page {k : Int} {b : List UInt8} {l : List (Int × Int)} (hb : b.length = 16) (hR : rightB k b l = true) : openB (pageB (nodeB k b l)) = true := by
  obtain ⟨h1, h2, h3⟩ := there_back hb hR
  unfold openB
  rw [h1, h2, h3, hR]
  simp
/-- A page that is opened is its node's: its node is right. -/
theorem open_right {p : List UInt8} (h : openB p = true) : rightB (kN p) (bN p) (eN p) = true ∧ pageB (nodeB (kN p) (bN p) (eN p)) = p := by
  unfold openB at h
  rw [Bool.and_eq_true, decide_eq_true_eq] at h
  exact h
end Go.Proofs.Ytnggcldghpmeaaa
