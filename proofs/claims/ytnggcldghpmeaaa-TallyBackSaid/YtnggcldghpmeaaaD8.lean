/- The law TallyBack: whatever the two generations. -/
import Derived.Test.YtnggcldghpmeaaaD7
set_option linter.unusedVariables false
set_option linter.unusedSimpArgs false
set_option maxRecDepth 100000
namespace Go.Proofs.Ytnggcldghpmeaaa
open Go.RowKit
attribute [local irreducible] Calls
theorem ok_page (g : Nat) (c : List UInt8) (hc : c.length = 240) : okB (pageB (leB 8 g ++ c)) g = true := by
  unfold okB
  rw [countsB_page _ _ hc]; simp
theorem not_ok (g h : Nat) (c : List UInt8) (hc : c.length = 240) (hg : g < 18446744073709551616) (hh : h < 18446744073709551616) (hne : h ≠ g) : okB (pageB (leB 8 g ++ c)) h = false := by
  unfold okB
  rw [decide_eq_false_iff_not]
  intro he
  have h1 := congrArg (List.take 8) he
  rw [take_pageB _ _ (by simp [leB_length]), take_pageB _ _ (by simp [leB_length]), List.take_append_of_le_length (by simp [leB_length]), List.take_append_of_le_length (by simp [leB_length]), List.take_of_length_le (by simp [leB_length]), List.take_of_length_le (by simp [leB_length])] at h1
  exact hne (leB_inj 8 (by omega) (by omega) h1)
def back1 (g0 : Int) (a : List UInt8) : DS := { DS.new 4 with pend := [((2 + g0 % 2).toNat, pageB (leB 8 g0.toNat ++ a))] }
def back2 (g0 g1 : Int) (a b : List UInt8) : DS := { DS.new 4 with pend := [((2 + g0 % 2).toNat, pageB (leB 8 g0.toNat ++ a)), ((2 + g1 % 2).toNat, pageB (leB 8 g1.toNat ++ b))] }
section
variable {g0 g1 : Int} {a b : List UInt8} (h00 : 0 ≤ g0) (h0 : g0 < 18446744073709551616) (h01 : 0 ≤ g1) (h1 : g1 < 18446744073709551616) (ha : a.length = 240) (hb : b.length = 240)
include h00 h0 ha in
theorem back_w1 (W : World) (lo g : Nat) (H : HasD W lo g (DS.new 4)) : Calls Try.prog 34 #[.pointer (some ⟨g, 0, none⟩), .int .u64 g0, .agg (BV a).toArray] W fun e w' => e = .returned (.int .i64 0) ∧ HasD w' lo g (back1 g0 a) ∧ Below lo W w' := by
  obtain ⟨S, M, ck, Pd, pc, D⟩ := H
  refine (TWrite_calls D rfl rfl (by simp [DS.new]) (by simp [DS.new]) g0 h00 h0 a ha).mono ?_
  rintro e w' ⟨Pd', pc', rfl, D', hB⟩
  exact ⟨rfl, ⟨S, M, ck, Pd', pc', D'⟩, hB⟩
include h01 h1 hb in
theorem back_w2 (W : World) (lo g : Nat) (H : HasD W lo g (back1 g0 a)) : Calls Try.prog 34 #[.pointer (some ⟨g, 0, none⟩), .int .u64 g1, .agg (BV b).toArray] W fun e w' => e = .returned (.int .i64 0) ∧ HasD w' lo g (back2 g0 g1 a b) ∧ Below lo W w' := by
  obtain ⟨S, M, ck, Pd, pc, D⟩ := H
  refine (TWrite_calls D rfl rfl (by simp [back1, DS.new]) (by simp [back1]) g1 h01 h1 b hb).mono ?_
  rintro e w' ⟨Pd', pc', rfl, D', hB⟩
  exact ⟨rfl, ⟨S, M, ck, Pd', pc', D'⟩, hB⟩
include ha hb in
theorem back_pages : ∀ q ∈ (back2 g0 g1 a b).pend, q.2.length = 256 := by
  intro q hq
  simp only [back2, List.mem_cons, List.not_mem_nil, or_false] at hq
  rcases hq with rfl | rfl
  · exact pageB_length _ (by simp [leB_length, ha])
  · exact pageB_length _ (by simp [leB_length, hb])
include h01 h1 ha hb in
theorem back_r1 (W : World) (lo g : Nat) (H : HasD W lo g (back2 g0 g1 a b)) : Calls Try.prog 32 #[.pointer (some ⟨g, 0, none⟩), .int .u64 g1] W fun e w' => e = .returned (.tuple #[.agg (BV b).toArray, .int .i64 0]) ∧ Ext W w' := by
  refine HRead_in H g1 h01 h1 (by simp [back2, DS.new]) (back_pages ha hb) (by simp [back2]) (pageB (leB 8 g1.toNat ++ b)) (by simp [seen, back2]) (pageB_length _ (by simp [leB_length, hb])) b 0 hb ?_
  rw [if_pos (ok_page _ _ hb)]
  exact ⟨(countsB_page _ _ hb).symm, rfl⟩
include h00 h0 h01 h1 ha hb in
theorem back_calls (w : World) : Calls Try.prog 6 #[.agg #[.int .u64 g0, .int .u64 g1], .agg (BV a).toArray, .agg (BV b).toArray] w fun e w' => e = .returned (.bool true) ∧ Ext w w' := by
  have W1 := fun W lo g H => hid (back_w1 h00 h0 ha W lo g H)
  have W2 := fun W lo g H => hid (back_w2 (g0 := g0) (a := a) h01 h1 hb W lo g H)
  have R1 := fun W lo g H => hid (back_r1 (g0 := g0) h01 h1 ha hb W lo g H)
  by_cases hg : g0 = g1
  · refine back_aux1 g0 g1 h00 h01 a b b (List.replicate 240 0) ha hb hb z31.symm (by simp) _ _ (hid rfl) hg W1 W2 R1 ?_ w
    subst hg
    exact R1
  · have hz : (List.replicate 240 (0 : UInt8)).length = 240 := by simp
    by_cases hp : g0 % 2 = g1 % 2
    · refine back_aux2 g0 g1 h00 h01 hg hp a b (List.replicate 240 0) (List.replicate 240 0) ha hb hz z31.symm hz _ _ (hid rfl) W1 W2 R1 ?_ w
      intro W lo g H
      refine hid (HRead_in H g0 h00 h0 (by simp [back2, DS.new]) (back_pages ha hb) (by simp [back2]) (pageB (leB 8 g1.toNat ++ b)) (by simp [seen, back2, hp]) (pageB_length _ (by simp [leB_length, hb])) _ 61 hz ?_)
      rw [if_neg (by rw [not_ok _ _ _ hb (by omega) (by omega) (by omega)]; decide)]
      exact ⟨rfl, rfl⟩
    · refine back_aux3 g0 g1 h00 h01 hg hp a b a (List.replicate 240 0) ha hb ha z31.symm hz _ _ (hid rfl) W1 W2 R1 ?_ w
      intro W lo g H
      have hi : ¬ (2 + g1 % 2).toNat = (2 + g0 % 2).toNat := by omega
      refine hid (HRead_in H g0 h00 h0 (by simp [back2, DS.new]) (back_pages ha hb) (by simp [back2]) (pageB (leB 8 g0.toNat ++ a)) (by simp [seen, back2, hi]) (pageB_length _ (by simp [leB_length, ha])) _ 0 ha ?_)
      rw [if_pos (ok_page _ _ ha)]
      exact ⟨(countsB_page _ _ ha).symm, rfl⟩
end
end Go.Proofs.Ytnggcldghpmeaaa
