/- The dump's own first words: what kind of cut this is, told without working through the whole line. -/
import Derived.Test.YtnggcldghpmeaaaRows
set_option linter.unusedVariables false
namespace Go.Proofs.Ytnggcldghpmeaaa
open Go
theorem words_one : ∀ (w r : List Char), (∀ c ∈ w, c ≠ Char.ofNat 32) → wordsSigns (w ++ Char.ofNat 32 :: r) = w :: wordsSigns r
  | [], r, _ => rfl
  | c :: w, r, h => by
    have hc : c ≠ Char.ofNat 32 := h c (by simp)
    have ih := words_one w r (fun d hd => h d (by simp [hd]))
    rw [List.cons_append, wordsSigns]
    · rw [ih]
    · exact fun e => hc e
def restOf : String := "at understudy/understudylaw06.TallyApart understudy/understudylaw06.TallyPages understudy/understudylaw06.TallyNames understudy/understudylaw06.TallyBack understudy/understudylaw08.LeafNames understudy/understudylaw08.LeafOpens understudy/understudylaw08.LeafPlaces understudy/understudylaw08.LeafBack understudy/understudylaw14.RecordReads understudy/understudylaw14.RecordTells understudy/understudylaw18.FrameNames understudy/understudylaw18.FrameBytes understudy/understudylaw18.FrameReads understudy/understudylaw18.FrameBack understudy/understudylaw18.FrameFinds understudy/understudylaw18.FrameSizes understudy/understudylaw05.RootNames understudy/understudylaw05.RootTurns understudy/understudylaw05.RootSpoilt understudy/understudylaw05.RootTorn understudy/understudylaw05.RootRuns"
theorem head_is : Try.prog.initOrder = "harness" ++ " " ++ "5e0cfebd2bea5951044767948b311522f3d7b61f17554a7931bbfa63a5adf9e2" ++ " " ++ "cut" ++ " " ++ restOf := by kernel_rfl
theorem head_words : behindMainWord (wordsSigns Try.prog.initOrder.toList) = "cut".toList :: wordsSigns restOf.toList := by
  rw [head_is]
  have h : ("harness" ++ " " ++ "5e0cfebd2bea5951044767948b311522f3d7b61f17554a7931bbfa63a5adf9e2" ++ " " ++ "cut" ++ " " ++ restOf).toList = "harness".toList ++ Char.ofNat 32 :: ("5e0cfebd2bea5951044767948b311522f3d7b61f17554a7931bbfa63a5adf9e2".toList ++ Char.ofNat 32 :: ("cut".toList ++ Char.ofNat 32 :: restOf.toList)) := by
    simp only [String.toList_append]
    rw [show " ".toList = [Char.ofNat 32] from by decide]
    simp only [List.append_assoc, List.cons_append, List.nil_append]
  rw [h, words_one _ _ (by decide), words_one _ _ (by decide +kernel), words_one _ _ (by decide)]
  generalize wordsSigns restOf.toList = r
  show (if (("harness".toList == "harness".toList || "harness".toList == "ownmain".toList) && isSumSigns "5e0cfebd2bea5951044767948b311522f3d7b61f17554a7931bbfa63a5adf9e2".toList) = true then "cut".toList :: r else "harness".toList :: "5e0cfebd2bea5951044767948b311522f3d7b61f17554a7931bbfa63a5adf9e2".toList :: "cut".toList :: r) = "cut".toList :: r
  rw [if_pos (by decide +kernel)]
theorem strip_cut (r : List (List Char)) : stripLifts liftWords ("cut".toList :: r) = ([], "cut".toList :: r) := by
  unfold liftWords
  simp only [stripLifts]
  rfl
theorem enter_of {P : Program} {r : List (List Char)} (h : behindMainWord (wordsSigns P.initOrder.toList) = "cut".toList :: r) (h1 : P.laysLater = false) (h2 : P.bearsReflect = false) (h3 : P.doorFits [] = true) : P.mayEnter = true := by
  unfold Program.mayEnter
  rw [h]
  simp only [strip_cut, h1, h2, h3]
  simp
theorem lifts_of {P : Program} {r : List (List Char)} (h : behindMainWord (wordsSigns P.initOrder.toList) = "cut".toList :: r) : P.headLifts = [] := by
  unfold Program.headLifts
  rw [h, strip_cut]
  simp
theorem final_of {P : Program} {r : List (List Char)} (h : behindMainWord (wordsSigns P.initOrder.toList) = "cut".toList :: r) : P.liftsFinal = false := by
  unfold Program.liftsFinal
  rw [lifts_of h, h]
  simp
theorem make_of {P : Program} {r : List (List Char)} (h : behindMainWord (wordsSigns P.initOrder.toList) = "cut".toList :: r) : P.make = some .cut := by
  unfold Program.make
  rw [lifts_of h, h]
  simp
theorem pr_later : Try.prog.laysLater = false := by kernel_rfl
theorem pr_reflect : Try.prog.bearsReflect = false := by kernel_rfl
theorem pr_doors : Try.prog.doorFits [] = true := by kernel_rfl
theorem pr_enter : Try.prog.mayEnter = true := enter_of head_words pr_later pr_reflect pr_doors
theorem pr_final : Try.prog.liftsFinal = false := final_of head_words
theorem pr_make : Try.prog.make = some .cut := make_of head_words
end Go.Proofs.Ytnggcldghpmeaaa
