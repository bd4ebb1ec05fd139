/- The law LeafBack: it is true at every input; its row. -/
import Derived.Test.YtnggcldghpmeaaaR2
import Derived.Test.YtnggcldghpmeaaaR3
import Derived.Test.YtnggcldghpmeaaaL18
set_option linter.unusedVariables false
set_option linter.unusedSimpArgs false
set_option maxRecDepth 100000
namespace Go.Proofs.Ytnggcldghpmeaaa
open Go.ChangeShapes Go.WideShapes Go.ChangeAt Go.RowKit
theorem co28 : Try.prog.cellsOf 28 = 256 := by kernel_rfl
theorem read28 : Try.prog.readableRec 28 = true ∧ 28 < Try.prog.types.size := ⟨by kernel_rfl, of_decide_eq_true (by kernel_rfl)⟩
set_option maxHeartbeats 1000000 in
set_option maxRecDepth 100000 in
theorem leafBack_lifted (os : Os) (started : os.Started) (H : Type) (enc : TypeId × Value → H) :
    ReturnsInHanded {} Try.checked os 10 .any (Rows.leafBackSpec.pre6 enc Try.prog Try.f10 Rows.leafBackRow.domain false) (Rows.leafBackSpec.post enc Try.prog Try.f10 false true false false) := by
  refine returnsInHanded_of_change (C := Try.checked) Try.own started (by kernel_rfl) Try.func10
    (ChangeSpec.witness6 (enc := enc) (C := Try.checked) false ⟨#[], #[.agg #[.int .i64 0, .int .u8 0, .int .u8 0, .int .u8 0, .int .u8 0, .int .u8 0, .int .u8 0, .int .u8 0, .int .u8 0, .int .u8 0, .int .u8 0, .int .u8 0, .int .u8 0, .int .u8 0, .int .u8 0, .int .u8 0, .int .u8 0, .slice none 0 0], .agg #[.int .i64 0, .int .u8 0, .int .u8 0, .int .u8 0, .int .u8 0, .int .u8 0, .int .u8 0, .int .u8 0, .int .u8 0, .int .u8 0, .int .u8 0, .int .u8 0, .int .u8 0, .int .u8 0, .int .u8 0, .int .u8 0, .int .u8 0, .slice none 0 0], .agg Try.zeroCells28], []⟩ 8 (by kernel_rfl) (by kernel_rfl) (by kernel_rfl) (by kernel_rfl)) ?_
  intro W base args ds gs before hval0 hW hcnd _
  have hval : ∀ (j : Nat) t v, Try.f10.params[j]? = some t → args[j]? = some v → Value.okWide Try.prog W .any base t v := hval0
  have hW' := hW
  obtain ⟨p, q, hA0, hV, rfl, hfz, hnd⟩ := hW
  have hA : DataW.TrodAll enc Try.prog W 0 (fun _ => true) true Try.f10.params.toList args.toList ds p := hA0
  rw [Try.params10] at hA hval
  obtain ⟨v0, v1, v2, d0, d1, d2, p0, p1, p2, rfl, rfl, rfl, h0, h1, h2⟩ := trodAll_three hA
  obtain ⟨k, b, A, c, l, rfl, hb, hr, hm⟩ := open_node (hval 0 50 v0 rfl rfl) h0
  obtain ⟨k2, b2, A2, c2, l2, rfl, hb2, hr2, hm2⟩ := open_node (hval 1 50 v1 rfl rfl) h1
  obtain ⟨pg, rfl, hpg⟩ := open_bytes_arr Try.underlying28 Try.underlying5 co5 co28 (hval 2 28 v2 rfl rfl) h2
  have hm' : l.length ≤ 9223372036854775807 := hm
  have hm2' : l2.length ≤ 9223372036854775807 := hm2
  obtain ⟨rfl, rfl⟩ := trodVars_none hV
  refine (lback_calls k k2 b b2 l l2 pg hb hb2 hr hr2 hm' hm2' hpg).mono fun e W' ⟨he, hE⟩ => ?_
  subst he
  exact ⟨_, rfl, post_law Try.laidOut hW' rfl rfl Try.underlying4 rfl (by rw [Try.params10]; intro t ht; simp at ht; rcases ht with rfl | rfl; exact read50; exact read28) hE⟩
theorem leafBack_named : Try.prog.funcNamed Rows.leafBackRow.func = some 10 := by kernel_rfl
theorem leafBack_place : (Rows.leafBackRow.inPlace == Try.prog.inPlace 10) = true := by kernel_rfl
theorem leafBack_unf : (Rows.leafBackRow.unfollowed == Try.prog.unfollowed 10) = true := by kernel_rfl
theorem leafBack_rec : (Rows.leafBackRow.recurses == Try.prog.recurses 10) = true := by kernel_rfl
theorem leafBack_vars : (Rows.leafBackRow.named == Try.prog.varsNamed 10) = true := by kernel_rfl
theorem leafBack_veil : Rows.leafBackRow.veiledFits Try.prog Try.f10.params.toList (Try.f10.params.toList ++ Rows.leafBackSpec.plain.varTypes Try.prog ++ Try.f10.resultTypes.toList) = true := by kernel_rfl
theorem leafBack_joined : joinedFacts Try.prog 10 Try.f10 Rows.leafBackSpec Rows.leafBackRow = true :=
  joined_of Try.laidOut pr_maps pr_stops pr_knobs pr_heard pr_plain pr_enter pr_final pr_make rfl rfl rfl rfl rfl rfl (by kernel_rfl) (by kernel_rfl) (by kernel_rfl)
    leafBack_place leafBack_unf leafBack_rec leafBack_vars (by kernel_rfl) (by kernel_rfl) (by kernel_rfl) (by kernel_rfl) (by kernel_rfl) (by kernel_rfl) (by kernel_rfl) (by kernel_rfl) (by kernel_rfl)
    rfl rfl (by kernel_rfl) (by kernel_rfl) leafBack_veil
theorem leafBack_holds : Rows.LeafBackSaid :=
  OpenClaim.holds_of_wide 10 Try.f10 rfl rfl rfl rfl rfl rfl rfl ⟨rfl, rfl, rfl, rfl, rfl⟩ rfl rfl rfl rfl rfl leafBack_named Try.func10 leafBack_joined
    (of_decide_eq_true (by kernel_rfl)) (by unfold Func.isWrapper; first | (rw [if_pos (by decide +kernel)]; kernel_rfl) | (rw [if_neg (by decide +kernel)]; exact ⟨rfl, rfl⟩))
    (fun os started H enc _ => leafBack_lifted os started H enc)
#print axioms leafBack_holds
end Go.Proofs.Ytnggcldghpmeaaa
