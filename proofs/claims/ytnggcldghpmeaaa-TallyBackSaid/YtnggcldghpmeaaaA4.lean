/- The law TallyBack: it is true at every input; its row. -/
import Derived.Test.YtnggcldghpmeaaaR2
import Derived.Test.YtnggcldghpmeaaaD8
set_option linter.unusedVariables false
set_option linter.unusedSimpArgs false
set_option maxRecDepth 100000
namespace Go.Proofs.Ytnggcldghpmeaaa
open Go.ChangeShapes Go.WideShapes Go.ChangeAt Go.RowKit
theorem co22 : Try.prog.cellsOf 22 = 1 := by kernel_rfl
theorem co23 : Try.prog.cellsOf 23 = 2 := by kernel_rfl
theorem co24 : Try.prog.cellsOf 24 = 240 := by kernel_rfl
theorem read23 : Try.prog.readableRec 23 = true ∧ 23 < Try.prog.types.size := ⟨by kernel_rfl, of_decide_eq_true (by kernel_rfl)⟩
theorem read24 : Try.prog.readableRec 24 = true ∧ 24 < Try.prog.types.size := ⟨by kernel_rfl, of_decide_eq_true (by kernel_rfl)⟩
set_option maxHeartbeats 1000000 in
set_option maxRecDepth 100000 in
theorem tallyBack_lifted (os : Os) (started : os.Started) (H : Type) (enc : TypeId × Value → H) :
    ReturnsInHanded {} Try.checked os 6 .any (Rows.tallyBackSpec.pre6 enc Try.prog Try.f6 Rows.tallyBackRow.domain false) (Rows.tallyBackSpec.post enc Try.prog Try.f6 false true false false) := by
  refine returnsInHanded_of_change (C := Try.checked) Try.own started (by kernel_rfl) Try.func6
    (ChangeSpec.witness6 (enc := enc) (C := Try.checked) false ⟨#[], #[.agg #[.int .u64 0, .int .u64 0], .agg Try.zeroCells24, .agg Try.zeroCells24], []⟩ 8 (by kernel_rfl) (by kernel_rfl) (by kernel_rfl) (by kernel_rfl)) ?_
  intro W base args ds gs before hval0 hW hcnd _
  have hval : ∀ (j : Nat) t v, Try.f6.params[j]? = some t → args[j]? = some v → Value.okWide Try.prog W .any base t v := hval0
  have hW' := hW
  obtain ⟨p, q, hA0, hV, rfl, hfz, hnd⟩ := hW
  have hA : DataW.TrodAll enc Try.prog W 0 (fun _ => true) true Try.f6.params.toList args.toList ds p := hA0
  rw [Try.params6] at hA hval
  obtain ⟨v0, v1, v2, d0, d1, d2, p0, p1, p2, rfl, rfl, rfl, h0, h1, h2⟩ := trodAll_three hA
  obtain ⟨zs, rfl, hzl, hzw⟩ := open_arr Try.underlying23 Try.underlying22 co22 co23 (hval 0 23 v0 rfl rfl) h0
  obtain ⟨a, rfl, ha⟩ := open_bytes_arr Try.underlying24 Try.underlying5 co5 co24 (hval 1 24 v1 rfl rfl) h1
  obtain ⟨b, rfl, hb⟩ := open_bytes_arr Try.underlying24 Try.underlying5 co5 co24 (hval 2 24 v2 rfl rfl) h2
  obtain ⟨g0, g1, rfl⟩ := list2 hzl
  have k0 := wf_u64 (hzw g0 (by simp))
  have k1 := wf_u64 (hzw g1 (by simp))
  obtain ⟨rfl, rfl⟩ := trodVars_none hV
  refine (back_calls k0.1 (by omega) k1.1 (by omega) ha hb W).mono fun e W' ⟨he, hE⟩ => ?_
  subst he
  exact ⟨_, rfl, post_law Try.laidOut hW' rfl rfl Try.underlying4 rfl (by rw [Try.params6]; intro t ht; simp at ht; rcases ht with rfl | rfl; exact read23; exact read24) hE⟩
theorem tallyBack_named : Try.prog.funcNamed Rows.tallyBackRow.func = some 6 := by kernel_rfl
theorem tallyBack_place : (Rows.tallyBackRow.inPlace == Try.prog.inPlace 6) = true := by kernel_rfl
theorem tallyBack_unf : (Rows.tallyBackRow.unfollowed == Try.prog.unfollowed 6) = true := by kernel_rfl
theorem tallyBack_rec : (Rows.tallyBackRow.recurses == Try.prog.recurses 6) = true := by kernel_rfl
theorem tallyBack_vars : (Rows.tallyBackRow.named == Try.prog.varsNamed 6) = true := by kernel_rfl
theorem tallyBack_veil : Rows.tallyBackRow.veiledFits Try.prog Try.f6.params.toList (Try.f6.params.toList ++ Rows.tallyBackSpec.plain.varTypes Try.prog ++ Try.f6.resultTypes.toList) = true := by kernel_rfl
theorem tallyBack_joined : joinedFacts Try.prog 6 Try.f6 Rows.tallyBackSpec Rows.tallyBackRow = true :=
  joined_of Try.laidOut pr_maps pr_stops pr_knobs pr_heard pr_plain pr_enter pr_final pr_make rfl rfl rfl rfl rfl rfl (by kernel_rfl) (by kernel_rfl) (by kernel_rfl)
    tallyBack_place tallyBack_unf tallyBack_rec tallyBack_vars (by kernel_rfl) (by kernel_rfl) (by kernel_rfl) (by kernel_rfl) (by kernel_rfl) (by kernel_rfl) (by kernel_rfl) (by kernel_rfl) (by kernel_rfl)
    rfl rfl (by kernel_rfl) (by kernel_rfl) tallyBack_veil
theorem tallyBack_holds : Rows.TallyBackSaid :=
  OpenClaim.holds_of_wide 6 Try.f6 rfl rfl rfl rfl rfl rfl rfl ⟨rfl, rfl, rfl, rfl, rfl⟩ rfl rfl rfl rfl rfl tallyBack_named Try.func6 tallyBack_joined
    (of_decide_eq_true (by kernel_rfl)) (by unfold Func.isWrapper; first | (rw [if_pos (by decide +kernel)]; kernel_rfl) | (rw [if_neg (by decide +kernel)]; exact ⟨rfl, rfl⟩))
    (fun os started H enc _ => tallyBack_lifted os started H enc)
#print axioms tallyBack_holds
end Go.Proofs.Ytnggcldghpmeaaa
