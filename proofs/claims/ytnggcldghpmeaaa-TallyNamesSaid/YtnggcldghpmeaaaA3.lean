/- The law TallyNames: it is true; its row. -/
import Derived.Test.YtnggcldghpmeaaaR2
import Derived.Test.YtnggcldghpmeaaaD6
set_option linter.unusedVariables false
set_option linter.unusedSimpArgs false
set_option maxRecDepth 100000
namespace Go.Proofs.Ytnggcldghpmeaaa
open Go.ChangeShapes Go.WideShapes Go.ChangeAt Go.RowKit
set_option maxHeartbeats 1000000 in
set_option maxRecDepth 100000 in
theorem tallyNames_lifted (os : Os) (started : os.Started) (H : Type) (enc : TypeId × Value → H) :
    ReturnsInHanded {} Try.checked os 5 .any (Rows.tallyNamesSpec.pre6 enc Try.prog Try.f5 Rows.tallyNamesRow.domain false) (Rows.tallyNamesSpec.post enc Try.prog Try.f5 false true false false) := by
  refine returnsInHanded_of_change (C := Try.checked) Try.own started (by kernel_rfl) Try.func5
    (ChangeSpec.witness6 (enc := enc) (C := Try.checked) false ⟨#[], #[], []⟩ 8 (by kernel_rfl) (by kernel_rfl) (by kernel_rfl) (by kernel_rfl)) ?_
  intro W base args ds gs before hval0 hW hcnd _
  have hval : ∀ (j : Nat) t v, Try.f5.params[j]? = some t → args[j]? = some v → Value.okWide Try.prog W .any base t v := hval0
  have hW' := hW
  obtain ⟨p, q, hA0, hV, rfl, hfz, hnd⟩ := hW
  have hA : DataW.TrodAll enc Try.prog W 0 (fun _ => true) true Try.f5.params.toList args.toList ds p := hA0
  rw [Try.params5] at hA hval
  obtain ⟨h1, rfl, rfl⟩ := trodAll_nil hA
  obtain rfl : args = #[] := by cases args; simp_all
  obtain ⟨rfl, rfl⟩ := trodVars_none hV
  refine (names_calls W).mono fun e W' ⟨he, hE⟩ => ?_
  subst he
  exact ⟨_, rfl, post_law Try.laidOut hW' rfl rfl Try.underlying4 rfl (by rw [Try.params5]; intro t ht; simp at ht) hE⟩
theorem tallyNames_named : Try.prog.funcNamed Rows.tallyNamesRow.func = some 5 := by kernel_rfl
theorem tallyNames_place : (Rows.tallyNamesRow.inPlace == Try.prog.inPlace 5) = true := by kernel_rfl
theorem tallyNames_unf : (Rows.tallyNamesRow.unfollowed == Try.prog.unfollowed 5) = true := by kernel_rfl
theorem tallyNames_rec : (Rows.tallyNamesRow.recurses == Try.prog.recurses 5) = true := by kernel_rfl
theorem tallyNames_vars : (Rows.tallyNamesRow.named == Try.prog.varsNamed 5) = true := by kernel_rfl
theorem tallyNames_veil : Rows.tallyNamesRow.veiledFits Try.prog Try.f5.params.toList (Try.f5.params.toList ++ Rows.tallyNamesSpec.plain.varTypes Try.prog ++ Try.f5.resultTypes.toList) = true := by kernel_rfl
theorem tallyNames_joined : joinedFacts Try.prog 5 Try.f5 Rows.tallyNamesSpec Rows.tallyNamesRow = true :=
  joined_of Try.laidOut pr_maps pr_stops pr_knobs pr_heard pr_plain pr_enter pr_final pr_make rfl rfl rfl rfl rfl rfl (by kernel_rfl) (by kernel_rfl) (by kernel_rfl)
    tallyNames_place tallyNames_unf tallyNames_rec tallyNames_vars (by kernel_rfl) (by kernel_rfl) (by kernel_rfl) (by kernel_rfl) (by kernel_rfl) (by kernel_rfl) (by kernel_rfl) (by kernel_rfl) (by kernel_rfl)
    rfl rfl (by kernel_rfl) (by kernel_rfl) tallyNames_veil
theorem tallyNames_holds : Rows.TallyNamesSaid :=
  OpenClaim.holds_of_wide 5 Try.f5 rfl rfl rfl rfl rfl rfl rfl ⟨rfl, rfl, rfl, rfl, rfl⟩ rfl rfl rfl rfl rfl tallyNames_named Try.func5 tallyNames_joined
    (of_decide_eq_true (by kernel_rfl)) (by unfold Func.isWrapper; first | (rw [if_pos (by decide +kernel)]; kernel_rfl) | (rw [if_neg (by decide +kernel)]; exact ⟨rfl, rfl⟩))
    (fun os started H enc _ => tallyNames_lifted os started H enc)
#print axioms tallyNames_holds
end Go.Proofs.Ytnggcldghpmeaaa
