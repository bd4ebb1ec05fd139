/- The law LeafPlaces: it is true at every input; its row. -/
import Derived.Test.YtnggcldghpmeaaaR2
import Derived.Test.YtnggcldghpmeaaaR3
import Derived.Test.YtnggcldghpmeaaaL14
set_option linter.unusedVariables false
set_option linter.unusedSimpArgs false
set_option maxRecDepth 100000
namespace Go.Proofs.Ytnggcldghpmeaaa
open Go.ChangeShapes Go.WideShapes Go.ChangeAt Go.RowKit
set_option maxHeartbeats 1000000 in
set_option maxRecDepth 100000 in
theorem leafPlaces_lifted (os : Os) (started : os.Started) (H : Type) (enc : TypeId × Value → H) :
    ReturnsInHanded {} Try.checked os 9 .any (Rows.leafPlacesSpec.pre6 enc Try.prog Try.f9 Rows.leafPlacesRow.domain false) (Rows.leafPlacesSpec.post enc Try.prog Try.f9 false true false false) := by
  refine returnsInHanded_of_change (C := Try.checked) Try.own started (by kernel_rfl) Try.func9
    (ChangeSpec.witness6 (enc := enc) (C := Try.checked) false ⟨#[], #[.agg #[.int .i64 0, .int .u8 0, .int .u8 0, .int .u8 0, .int .u8 0, .int .u8 0, .int .u8 0, .int .u8 0, .int .u8 0, .int .u8 0, .int .u8 0, .int .u8 0, .int .u8 0, .int .u8 0, .int .u8 0, .int .u8 0, .int .u8 0, .slice none 0 0], .int .i64 0], []⟩ 8 (by kernel_rfl) (by kernel_rfl) (by kernel_rfl) (by kernel_rfl)) ?_
  intro W base args ds gs before hval0 hW hcnd _
  have hval : ∀ (j : Nat) t v, Try.f9.params[j]? = some t → args[j]? = some v → Value.okWide Try.prog W .any base t v := hval0
  have hW' := hW
  obtain ⟨p, q, hA0, hV, rfl, hfz, hnd⟩ := hW
  have hA : DataW.TrodAll enc Try.prog W 0 (fun _ => true) true Try.f9.params.toList args.toList ds p := hA0
  rw [Try.params9] at hA hval
  obtain ⟨v0, v1, d0, d1, p0, p1, rfl, rfl, rfl, h0, h1⟩ := trodAll_two hA
  obtain ⟨k, b, A, c, l, rfl, hb, hr, hm⟩ := open_node (hval 0 50 v0 rfl rfl) h0
  obtain ⟨key, rfl, rfl, rfl, hkw⟩ := open_int Try.underlying3 (hval 1 3 v1 rfl rfl) h1
  have hm' : l.length ≤ 9223372036854775807 := hm
  obtain ⟨rfl, rfl⟩ := trodVars_none hV
  refine (places_calls k b l key hb hr hm').mono fun e W' ⟨he, hE⟩ => ?_
  subst he
  exact ⟨_, rfl, post_law Try.laidOut hW' rfl rfl Try.underlying4 rfl (by rw [Try.params9]; intro t ht; simp at ht; rcases ht with rfl | rfl; exact read50; exact read3) hE⟩
theorem leafPlaces_named : Try.prog.funcNamed Rows.leafPlacesRow.func = some 9 := by kernel_rfl
theorem leafPlaces_place : (Rows.leafPlacesRow.inPlace == Try.prog.inPlace 9) = true := by kernel_rfl
theorem leafPlaces_unf : (Rows.leafPlacesRow.unfollowed == Try.prog.unfollowed 9) = true := by kernel_rfl
theorem leafPlaces_rec : (Rows.leafPlacesRow.recurses == Try.prog.recurses 9) = true := by kernel_rfl
theorem leafPlaces_vars : (Rows.leafPlacesRow.named == Try.prog.varsNamed 9) = true := by kernel_rfl
theorem leafPlaces_veil : Rows.leafPlacesRow.veiledFits Try.prog Try.f9.params.toList (Try.f9.params.toList ++ Rows.leafPlacesSpec.plain.varTypes Try.prog ++ Try.f9.resultTypes.toList) = true := by kernel_rfl
theorem leafPlaces_joined : joinedFacts Try.prog 9 Try.f9 Rows.leafPlacesSpec Rows.leafPlacesRow = true :=
  joined_of Try.laidOut pr_maps pr_stops pr_knobs pr_heard pr_plain pr_enter pr_final pr_make rfl rfl rfl rfl rfl rfl (by kernel_rfl) (by kernel_rfl) (by kernel_rfl)
    leafPlaces_place leafPlaces_unf leafPlaces_rec leafPlaces_vars (by kernel_rfl) (by kernel_rfl) (by kernel_rfl) (by kernel_rfl) (by kernel_rfl) (by kernel_rfl) (by kernel_rfl) (by kernel_rfl) (by kernel_rfl)
    rfl rfl (by kernel_rfl) (by kernel_rfl) leafPlaces_veil
theorem leafPlaces_holds : Rows.LeafPlacesSaid :=
  OpenClaim.holds_of_wide 9 Try.f9 rfl rfl rfl rfl rfl rfl rfl ⟨rfl, rfl, rfl, rfl, rfl⟩ rfl rfl rfl rfl rfl leafPlaces_named Try.func9 leafPlaces_joined
    (of_decide_eq_true (by kernel_rfl)) (by unfold Func.isWrapper; first | (rw [if_pos (by decide +kernel)]; kernel_rfl) | (rw [if_neg (by decide +kernel)]; exact ⟨rfl, rfl⟩))
    (fun os started H enc _ => leafPlaces_lifted os started H enc)
#print axioms leafPlaces_holds
end Go.Proofs.Ytnggcldghpmeaaa
