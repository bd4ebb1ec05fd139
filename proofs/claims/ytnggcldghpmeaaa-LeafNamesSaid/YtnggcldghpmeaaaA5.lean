/- The law LeafNames: it is true; its row. -/
import Derived.Test.YtnggcldghpmeaaaR2
import Derived.Test.YtnggcldghpmeaaaL13
set_option linter.unusedVariables false
set_option linter.unusedSimpArgs false
set_option maxRecDepth 100000
namespace Go.Proofs.Ytnggcldghpmeaaa
open Go.ChangeShapes Go.WideShapes Go.ChangeAt Go.RowKit
set_option maxHeartbeats 1000000 in
set_option maxRecDepth 100000 in
theorem leafNames_lifted (os : Os) (started : os.Started) (H : Type) (enc : TypeId × Value → H) :
    ReturnsInHanded {} Try.checked os 7 .any (Rows.leafNamesSpec.pre6 enc Try.prog Try.f7 Rows.leafNamesRow.domain false) (Rows.leafNamesSpec.post enc Try.prog Try.f7 false true false false) := by
  refine returnsInHanded_of_change (C := Try.checked) Try.own started (by kernel_rfl) Try.func7
    (ChangeSpec.witness6 (enc := enc) (C := Try.checked) false ⟨#[], #[], []⟩ 8 (by kernel_rfl) (by kernel_rfl) (by kernel_rfl) (by kernel_rfl)) ?_
  intro W base args ds gs before hval0 hW hcnd _
  have hval : ∀ (j : Nat) t v, Try.f7.params[j]? = some t → args[j]? = some v → Value.okWide Try.prog W .any base t v := hval0
  have hW' := hW
  obtain ⟨p, q, hA0, hV, rfl, hfz, hnd⟩ := hW
  have hA : DataW.TrodAll enc Try.prog W 0 (fun _ => true) true Try.f7.params.toList args.toList ds p := hA0
  rw [Try.params7] at hA hval
  obtain ⟨h1, rfl, rfl⟩ := trodAll_nil hA
  obtain rfl : args = #[] := by cases args; simp_all
  obtain ⟨rfl, rfl⟩ := trodVars_none hV
  refine (leafNames_calls W).mono fun e W' ⟨he, hE⟩ => ?_
  subst he
  exact ⟨_, rfl, post_law Try.laidOut hW' rfl rfl Try.underlying4 rfl (by rw [Try.params7]; intro t ht; simp at ht) hE⟩
theorem leafNames_named : Try.prog.funcNamed Rows.leafNamesRow.func = some 7 := by kernel_rfl
theorem leafNames_place : (Rows.leafNamesRow.inPlace == Try.prog.inPlace 7) = true := by kernel_rfl
theorem leafNames_unf : (Rows.leafNamesRow.unfollowed == Try.prog.unfollowed 7) = true := by kernel_rfl
theorem leafNames_rec : (Rows.leafNamesRow.recurses == Try.prog.recurses 7) = true := by kernel_rfl
theorem leafNames_vars : (Rows.leafNamesRow.named == Try.prog.varsNamed 7) = true := by kernel_rfl
theorem leafNames_veil : Rows.leafNamesRow.veiledFits Try.prog Try.f7.params.toList (Try.f7.params.toList ++ Rows.leafNamesSpec.plain.varTypes Try.prog ++ Try.f7.resultTypes.toList) = true := by kernel_rfl
theorem leafNames_joined : joinedFacts Try.prog 7 Try.f7 Rows.leafNamesSpec Rows.leafNamesRow = true :=
  joined_of Try.laidOut pr_maps pr_stops pr_knobs pr_heard pr_plain pr_enter pr_final pr_make rfl rfl rfl rfl rfl rfl (by kernel_rfl) (by kernel_rfl) (by kernel_rfl)
    leafNames_place leafNames_unf leafNames_rec leafNames_vars (by kernel_rfl) (by kernel_rfl) (by kernel_rfl) (by kernel_rfl) (by kernel_rfl) (by kernel_rfl) (by kernel_rfl) (by kernel_rfl) (by kernel_rfl)
    rfl rfl (by kernel_rfl) (by kernel_rfl) leafNames_veil
theorem leafNames_holds : Rows.LeafNamesSaid :=
  OpenClaim.holds_of_wide 7 Try.f7 rfl rfl rfl rfl rfl rfl rfl ⟨rfl, rfl, rfl, rfl, rfl⟩ rfl rfl rfl rfl rfl leafNames_named Try.func7 leafNames_joined
    (of_decide_eq_true (by kernel_rfl)) (by unfold Func.isWrapper; first | (rw [if_pos (by decide +kernel)]; kernel_rfl) | (rw [if_neg (by decide +kernel)]; exact ⟨rfl, rfl⟩))
    (fun os started H enc _ => leafNames_lifted os started H enc)
#print axioms leafNames_holds
end Go.Proofs.Ytnggcldghpmeaaa
