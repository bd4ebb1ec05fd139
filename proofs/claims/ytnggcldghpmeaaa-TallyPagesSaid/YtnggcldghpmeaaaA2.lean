/- The law TallyPages: it is true at every input; its row. -/
import Derived.Test.YtnggcldghpmeaaaR2
import Derived.Test.YtnggcldghpmeaaaW17
set_option linter.unusedVariables false
set_option linter.unusedSimpArgs false
set_option maxRecDepth 100000
namespace Go.Proofs.Ytnggcldghpmeaaa
open Go.ChangeShapes Go.WideShapes Go.ChangeAt Go.RowKit
theorem co24 : Try.prog.cellsOf 24 = 240 := by kernel_rfl
theorem co28 : Try.prog.cellsOf 28 = 256 := by kernel_rfl
theorem read22 : Try.prog.readableRec 22 = true ∧ 22 < Try.prog.types.size := ⟨by kernel_rfl, of_decide_eq_true (by kernel_rfl)⟩
theorem read24 : Try.prog.readableRec 24 = true ∧ 24 < Try.prog.types.size := ⟨by kernel_rfl, of_decide_eq_true (by kernel_rfl)⟩
theorem read28 : Try.prog.readableRec 28 = true ∧ 28 < Try.prog.types.size := ⟨by kernel_rfl, of_decide_eq_true (by kernel_rfl)⟩
theorem Pages_calls (g : Nat) (hg : g < 18446744073709551616) (c p : List UInt8) (hc : c.length = 240) (hp : p.length = 256) (w : World) :
    Calls Try.prog 4 #[.int .u64 g, .agg (BV c).toArray, .agg (BV p).toArray] w fun e w' => e = .returned (.bool true) ∧ Ext w w' := by
  refine pages_aux g (by omega) c p (if okB p g then countsB p else List.replicate 240 0) (pageB (leB 8 g ++ c)) (if okB p g then 0 else 61) hc hp (by split <;> simp [countsB, hp]) (pageB_length _ (by simp [leB_length, hc])) ?_ ?_
    (fun W => hid (Page_calls g hg c hc W)) (fun W => hid (RefPage_calls g hg c hc W)) w
  · exact fun W => hid (Open_calls p hp g hg W _ rfl)
  · exact fun W => hid (RefOpen_calls p hp g hg W _ rfl)
set_option maxHeartbeats 1000000 in
set_option maxRecDepth 100000 in
theorem tallyPages_lifted (os : Os) (started : os.Started) (H : Type) (enc : TypeId × Value → H) :
    ReturnsInHanded {} Try.checked os 4 .any (Rows.tallyPagesSpec.pre6 enc Try.prog Try.f4 Rows.tallyPagesRow.domain false) (Rows.tallyPagesSpec.post enc Try.prog Try.f4 false true false false) := by
  refine returnsInHanded_of_change (C := Try.checked) Try.own started (by kernel_rfl) Try.func4
    (ChangeSpec.witness6 (enc := enc) (C := Try.checked) false ⟨#[], #[.int .u64 0, .agg Try.zeroCells24, .agg Try.zeroCells28], []⟩ 8 (by kernel_rfl) (by kernel_rfl) (by kernel_rfl) (by kernel_rfl)) ?_
  intro W base args ds gs before hval0 hW hcnd _
  have hval : ∀ (j : Nat) t v, Try.f4.params[j]? = some t → args[j]? = some v → Value.okWide Try.prog W .any base t v := hval0
  have hW' := hW
  obtain ⟨p, q, hA0, hV, rfl, hfz, hnd⟩ := hW
  have hA : DataW.TrodAll enc Try.prog W 0 (fun _ => true) true Try.f4.params.toList args.toList ds p := hA0
  rw [Try.params4] at hA hval
  obtain ⟨v0, v1, v2, d0, d1, d2, p0, p1, p2, rfl, rfl, rfl, h0, h1, h2⟩ := trodAll_three hA
  obtain ⟨z, rfl, rfl, rfl, hzw⟩ := open_int Try.underlying22 (hval 0 22 v0 rfl rfl) h0
  obtain ⟨c, rfl, hc⟩ := open_bytes_arr Try.underlying24 Try.underlying5 co5 co24 (hval 1 24 v1 rfl rfl) h1
  obtain ⟨b, rfl, hb⟩ := open_bytes_arr Try.underlying28 Try.underlying5 co5 co28 (hval 2 28 v2 rfl rfl) h2
  have k0 := wf_u64 hzw
  obtain ⟨g, rfl⟩ := Int.eq_ofNat_of_zero_le k0.1
  obtain ⟨rfl, rfl⟩ := trodVars_none hV
  refine (Pages_calls g (by omega) c b hc hb W).mono fun e W' ⟨he, hE⟩ => ?_
  subst he
  exact ⟨_, rfl, post_law Try.laidOut hW' rfl rfl Try.underlying4 rfl (by rw [Try.params4]; intro t ht; simp at ht; rcases ht with rfl | rfl | rfl; exact read22; exact read24; exact read28) hE⟩
theorem tallyPages_named : Try.prog.funcNamed Rows.tallyPagesRow.func = some 4 := by kernel_rfl
theorem tallyPages_place : (Rows.tallyPagesRow.inPlace == Try.prog.inPlace 4) = true := by kernel_rfl
theorem tallyPages_unf : (Rows.tallyPagesRow.unfollowed == Try.prog.unfollowed 4) = true := by kernel_rfl
theorem tallyPages_rec : (Rows.tallyPagesRow.recurses == Try.prog.recurses 4) = true := by kernel_rfl
theorem tallyPages_vars : (Rows.tallyPagesRow.named == Try.prog.varsNamed 4) = true := by kernel_rfl
theorem tallyPages_veil : Rows.tallyPagesRow.veiledFits Try.prog Try.f4.params.toList (Try.f4.params.toList ++ Rows.tallyPagesSpec.plain.varTypes Try.prog ++ Try.f4.resultTypes.toList) = true := by kernel_rfl
theorem tallyPages_joined : joinedFacts Try.prog 4 Try.f4 Rows.tallyPagesSpec Rows.tallyPagesRow = true :=
  joined_of Try.laidOut pr_maps pr_stops pr_knobs pr_heard pr_plain pr_enter pr_final pr_make rfl rfl rfl rfl rfl rfl (by kernel_rfl) (by kernel_rfl) (by kernel_rfl)
    tallyPages_place tallyPages_unf tallyPages_rec tallyPages_vars (by kernel_rfl) (by kernel_rfl) (by kernel_rfl) (by kernel_rfl) (by kernel_rfl) (by kernel_rfl) (by kernel_rfl) (by kernel_rfl) (by kernel_rfl)
    rfl rfl (by kernel_rfl) (by kernel_rfl) tallyPages_veil
theorem tallyPages_holds : Rows.TallyPagesSaid :=
  OpenClaim.holds_of_wide 4 Try.f4 rfl rfl rfl rfl rfl rfl rfl ⟨rfl, rfl, rfl, rfl, rfl⟩ rfl rfl rfl rfl rfl tallyPages_named Try.func4 tallyPages_joined
    (of_decide_eq_true (by kernel_rfl)) (by unfold Func.isWrapper; first | (rw [if_pos (by decide +kernel)]; kernel_rfl) | (rw [if_neg (by decide +kernel)]; exact ⟨rfl, rfl⟩))
    (fun os started H enc _ => tallyPages_lifted os started H enc)
#print axioms tallyPages_holds
end Go.Proofs.Ytnggcldghpmeaaa
