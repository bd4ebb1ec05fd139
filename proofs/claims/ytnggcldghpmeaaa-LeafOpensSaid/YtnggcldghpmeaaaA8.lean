/- The law LeafOpens: it is true at every input; its row. -/
import Derived.Test.YtnggcldghpmeaaaR2
import Derived.Test.YtnggcldghpmeaaaM6
set_option linter.unusedVariables false
set_option linter.unusedSimpArgs false
set_option maxRecDepth 100000
namespace Go.Proofs.Ytnggcldghpmeaaa
open Go.ChangeShapes Go.WideShapes Go.ChangeAt Go.RowKit
theorem co28 : Try.prog.cellsOf 28 = 256 := by kernel_rfl
theorem read28 : Try.prog.readableRec 28 = true ∧ 28 < Try.prog.types.size := ⟨by kernel_rfl, of_decide_eq_true (by kernel_rfl)⟩
set_option maxHeartbeats 1000000 in
set_option maxRecDepth 100000 in
theorem leafOpens_lifted (os : Os) (started : os.Started) (H : Type) (enc : TypeId × Value → H) :
    ReturnsInHanded {} Try.checked os 8 .any (Rows.leafOpensSpec.pre6 enc Try.prog Try.f8 Rows.leafOpensRow.domain false) (Rows.leafOpensSpec.post enc Try.prog Try.f8 false true false false) := by
  refine returnsInHanded_of_change (C := Try.checked) Try.own started (by kernel_rfl) Try.func8
    (ChangeSpec.witness6 (enc := enc) (C := Try.checked) false ⟨#[], #[.agg Try.zeroCells28], []⟩ 8 (by kernel_rfl) (by kernel_rfl) (by kernel_rfl) (by kernel_rfl)) ?_
  intro W base args ds gs before hval0 hW hcnd _
  have hval : ∀ (j : Nat) t v, Try.f8.params[j]? = some t → args[j]? = some v → Value.okWide Try.prog W .any base t v := hval0
  have hW' := hW
  obtain ⟨p, q, hA0, hV, rfl, hfz, hnd⟩ := hW
  have hA : DataW.TrodAll enc Try.prog W 0 (fun _ => true) true Try.f8.params.toList args.toList ds p := hA0
  rw [Try.params8] at hA hval
  obtain ⟨v0, d0, rfl, rfl, h0⟩ := trodAll_one hA
  obtain ⟨pg, rfl, hpg⟩ := open_bytes_arr Try.underlying28 Try.underlying5 co5 co28 (hval 0 28 v0 rfl rfl) h0
  obtain ⟨rfl, rfl⟩ := trodVars_none hV
  refine (opens_calls pg hpg).mono fun e W' ⟨he, hE⟩ => ?_
  subst he
  exact ⟨_, rfl, post_law Try.laidOut hW' rfl rfl Try.underlying4 rfl (by rw [Try.params8]; intro t ht; simp at ht; subst ht; exact read28) hE⟩
theorem leafOpens_named : Try.prog.funcNamed Rows.leafOpensRow.func = some 8 := by kernel_rfl
theorem leafOpens_place : (Rows.leafOpensRow.inPlace == Try.prog.inPlace 8) = true := by kernel_rfl
theorem leafOpens_unf : (Rows.leafOpensRow.unfollowed == Try.prog.unfollowed 8) = true := by kernel_rfl
theorem leafOpens_rec : (Rows.leafOpensRow.recurses == Try.prog.recurses 8) = true := by kernel_rfl
theorem leafOpens_vars : (Rows.leafOpensRow.named == Try.prog.varsNamed 8) = true := by kernel_rfl
theorem leafOpens_veil : Rows.leafOpensRow.veiledFits Try.prog Try.f8.params.toList (Try.f8.params.toList ++ Rows.leafOpensSpec.plain.varTypes Try.prog ++ Try.f8.resultTypes.toList) = true := by kernel_rfl
theorem leafOpens_joined : joinedFacts Try.prog 8 Try.f8 Rows.leafOpensSpec Rows.leafOpensRow = true :=
  joined_of Try.laidOut pr_maps pr_stops pr_knobs pr_heard pr_plain pr_enter pr_final pr_make rfl rfl rfl rfl rfl rfl (by kernel_rfl) (by kernel_rfl) (by kernel_rfl)
    leafOpens_place leafOpens_unf leafOpens_rec leafOpens_vars (by kernel_rfl) (by kernel_rfl) (by kernel_rfl) (by kernel_rfl) (by kernel_rfl) (by kernel_rfl) (by kernel_rfl) (by kernel_rfl) (by kernel_rfl)
    rfl rfl (by kernel_rfl) (by kernel_rfl) leafOpens_veil
theorem leafOpens_holds : Rows.LeafOpensSaid :=
  OpenClaim.holds_of_wide 8 Try.f8 rfl rfl rfl rfl rfl rfl rfl ⟨rfl, rfl, rfl, rfl, rfl⟩ rfl rfl rfl rfl rfl leafOpens_named Try.func8 leafOpens_joined
    (of_decide_eq_true (by kernel_rfl)) (by unfold Func.isWrapper; first | (rw [if_pos (by decide +kernel)]; kernel_rfl) | (rw [if_neg (by decide +kernel)]; exact ⟨rfl, rfl⟩))
    (fun os started H enc _ => leafOpens_lifted os started H enc)
#print axioms leafOpens_holds
end Go.Proofs.Ytnggcldghpmeaaa
