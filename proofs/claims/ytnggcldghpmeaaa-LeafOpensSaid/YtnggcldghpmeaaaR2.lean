/- What a row asks of the program, in parts: each part a theorem of its own. -/
import Derived.Test.YtnggcldghpmeaaaR1
import Derived.Test.YtnggcldghpmeaaaHead
set_option linter.unusedVariables false
namespace Go.Proofs.Ytnggcldghpmeaaa
open Go.ChangeShapes Go.WideShapes Go.ChangeAt Go.RowKit
theorem Try.own : ownKnob Try.prog.godebug = none := by kernel_rfl
theorem Try.laidOut : laidOutB Try.prog = true := by kernel_rfl
theorem and_i {a b : Bool} (h : a = true) (k : b = true) : (a && b) = true := by rw [h, k]; rfl
theorem pr_maps : mapsRowed Try.prog = true := by kernel_rfl
theorem pr_stops : (Try.prog.stops == []) = true := by kernel_rfl
theorem pr_knobs : (Try.prog.stopKnobs == []) = true := by kernel_rfl
theorem pr_heard : Try.prog.stopsHeard = true := by kernel_rfl
theorem pr_plain : Try.prog.plainKeys = true := by kernel_rfl
theorem list2 {α : Type} : ∀ {l : List α}, l.length = 2 → ∃ a b, l = [a, b]
  | [a, b], _ => ⟨a, b, rfl⟩
/-- The parts put together. -/
theorem joined_of {f : FuncId} {fn : Func} {s : ChangeSpec} {c : OpenClaim} {P : Program} (l1 : laidOutB P = true) (l2 : mapsRowed P = true) (l3 : (P.stops == []) = true) (l4 : (P.stopKnobs == []) = true) (l5 : P.stopsHeard = true) (l6 : P.plainKeys = true) (l7 : P.mayEnter = true) (l8 : P.liftsFinal = false) (l9 : P.make = some .cut)
    (k1 : c.stops = []) (k2 : c.knobs = []) (k10 : c.plainKeys = true) (k11 : c.shortTexts = none) (k12 : c.lifted = false) (k13 : c.make = .cut)
    (h0 : c.wf (OpenSpec.ofChange s) = true) (h1 : fn.params.all (P.readableRec ·) = true) (h1' : namedTie P c.named s.vars = true)
    (h2 : (c.inPlace == P.inPlace f) = true) (h3 : (c.unfollowed == P.unfollowed f) = true) (h4 : (c.recurses == P.recurses f) = true) (h5 : (c.named == P.varsNamed f) = true)
    (h6 : (c.maps == (fn.params.toList ++ s.plain.varTypes P).any (P.mapsRec ·)) = true) (h7 : (c.ifaces == (fn.params.toList ++ s.plain.varTypes P).any (P.ifacesRec ·)) = true) (h8 : (c.mapsOut == P.mapsAmong fn.resultTypes.toList) = true)
    (h9 : (c.loops == (fn.params.toList ++ s.plain.varTypes P).any (P.loopsFrom ·)) = true) (h10 : (c.wideKeys == (fn.params.toList ++ s.plain.varTypes P ++ fn.resultTypes.toList).any (P.wideKeysFrom ·)) = true)
    (h11 : s.vars.all (P.varReadable ·) = true) (h12 : fn.resultTypes.all (fun t => P.readableRec t && decide (t < P.types.size)) = true) (h13 : (c.ifacesOut == fn.resultTypes.toList.any (P.ifacesRec ·)) = true) (h14 : (c.loopsOut == fn.resultTypes.toList.any (P.loopsFrom ·)) = true)
    (h15 : c.kinds = []) (h15' : c.domain.isEmpty = true) (h16 : (c.pinned == c.pinnedBy) = true)
    (h17 : (c.veiled == (fn.params.toList ++ s.plain.varTypes P ++ fn.resultTypes.toList).any (P.veiledRec ·)) = true) (h18 : c.veiledFits P fn.params.toList (fn.params.toList ++ s.plain.varTypes P ++ fn.resultTypes.toList) = true) :
    joinedFacts P f fn s c = true := by
  unfold joinedFacts
  rw [h0, l1, l2, h1, h1', k1, l3, k2, l4, h2, h3, h4, h5, h6, h7, h8, h9, h10, h11, h12, h13, h14, k10, l6, k11, l5, l7, k12, l8, l9, k13, h15, if_pos h15', h16, h17, h18]
  rfl
end Go.Proofs.Ytnggcldghpmeaaa
