/-
  No cell of these rows narrows 'for every input' (looked for: loops, veiled, ifaces, maps, wideKeys, modest, calm, conditions, laid).
  DERIVED. THE GIVEN ROWS OF THIS SEAT. 21 by the template 'for every input the law returns true; each argument reads behind the call as it read before'; 0 by the template 'total and deterministic' (their statements: YtnggcldghpmeaaaTotals.lean).
  GIVEN WITH THE SEED: the statements are not yours to turn. If you find one false, say at which input.
  Laid BY PROGRAM, IN A SANDBOX (cutbox-rows.mjs): the forced cells as the released guide's own fill.sh prints them over the translation 9c21637c34078d49… (all of the seat's roots in one cut). By AI agents, Wed Nov 11 2026. No macro, syntax, notation, axiom, sorry.
-/
import Derived.Test.YtnggcldghpmeaaaChecked
import GoSem.Claim
import GoSem.ClaimJoined
import GoSem.ClaimMapViews
import Derived.JoinedTies
import Derived.KernelRfl
namespace Go.Proofs.Ytnggcldghpmeaaa
/- THE CELL 'sum', in the pinned program and in every row, IS THE sha256 OF THE DUMP (.gsa) THAT YtnggcldghpmeaaaProg.lean LOADS. Nothing in Lean hashes anything: it is a label: what it is worth is what the hold of that sum in a sandbox is worth. -/
noncomputable def Try.pinned : Pinned := { name := "ytnggcldghpmeaaa", sum := "9c21637c34078d49d48317e7c02605ba9b3e4cae9f99382c9317558aff8fa556", checked := Try.checked }
namespace Rows
def none {H : Type} : Left H := { results := [], args := [] }

/-- 'understudylaw06.TallyApart': WHATEVER THE INPUT: true; the input reads as it did. -/
def tallyApartSpec : ChangeSpec := { name := "tallyApart", fn := fun _ => fun
  | [d1, d2, d3] => { results := [.lit (.bool true)], args := [d1, d2, d3] }
  | _ => none }
def tallyApartRow : OpenClaim := { program := "ytnggcldghpmeaaa", sum := "9c21637c34078d49d48317e7c02605ba9b3e4cae9f99382c9317558aff8fa556", func := "understudy/understudylaw06.TallyApart", spec := "tallyApart", apart := false }
def TallyApartSaid : Prop := tallyApartRow.holds Try.pinned (OpenSpec.ofChange tallyApartSpec)

/-- ITS FALSE NEIGHBOUR: 'it returns false'. Refute it at one input. -/
def tallyApartWrong : ChangeSpec := { name := "tallyApart", fn := fun _ => fun
  | [d1, d2, d3] => { results := [.lit (.bool false)], args := [d1, d2, d3] }
  | _ => none }
def TallyApartWrongFalsely : Prop := tallyApartRow.holds Try.pinned (OpenSpec.ofChange tallyApartWrong)

/-- 'understudylaw06.TallyPages': WHATEVER THE INPUT: true; the input reads as it did. -/
def tallyPagesSpec : ChangeSpec := { name := "tallyPages", fn := fun _ => fun
  | [d1, d2, d3] => { results := [.lit (.bool true)], args := [d1, d2, d3] }
  | _ => none }
def tallyPagesRow : OpenClaim := { program := "ytnggcldghpmeaaa", sum := "9c21637c34078d49d48317e7c02605ba9b3e4cae9f99382c9317558aff8fa556", func := "understudy/understudylaw06.TallyPages", spec := "tallyPages", apart := false }
def TallyPagesSaid : Prop := tallyPagesRow.holds Try.pinned (OpenSpec.ofChange tallyPagesSpec)

/-- ITS FALSE NEIGHBOUR: 'it returns false'. Refute it at one input. -/
def tallyPagesWrong : ChangeSpec := { name := "tallyPages", fn := fun _ => fun
  | [d1, d2, d3] => { results := [.lit (.bool false)], args := [d1, d2, d3] }
  | _ => none }
def TallyPagesWrongFalsely : Prop := tallyPagesRow.holds Try.pinned (OpenSpec.ofChange tallyPagesWrong)

/-- 'understudylaw06.TallyNames': WHATEVER THE INPUT: true; the input reads as it did. -/
def tallyNamesSpec : ChangeSpec := { name := "tallyNames", fn := fun _ => fun
  | [] => { results := [.lit (.bool true)], args := [] }
  | _ => none }
def tallyNamesRow : OpenClaim := { program := "ytnggcldghpmeaaa", sum := "9c21637c34078d49d48317e7c02605ba9b3e4cae9f99382c9317558aff8fa556", func := "understudy/understudylaw06.TallyNames", spec := "tallyNames", apart := false }
def TallyNamesSaid : Prop := tallyNamesRow.holds Try.pinned (OpenSpec.ofChange tallyNamesSpec)

/-- ITS FALSE NEIGHBOUR: 'it returns false'. Refute it at one input. -/
def tallyNamesWrong : ChangeSpec := { name := "tallyNames", fn := fun _ => fun
  | [] => { results := [.lit (.bool false)], args := [] }
  | _ => none }
def TallyNamesWrongFalsely : Prop := tallyNamesRow.holds Try.pinned (OpenSpec.ofChange tallyNamesWrong)

/-- 'understudylaw06.TallyBack': WHATEVER THE INPUT: true; the input reads as it did. -/
def tallyBackSpec : ChangeSpec := { name := "tallyBack", fn := fun _ => fun
  | [d1, d2, d3] => { results := [.lit (.bool true)], args := [d1, d2, d3] }
  | _ => none }
def tallyBackRow : OpenClaim := { program := "ytnggcldghpmeaaa", sum := "9c21637c34078d49d48317e7c02605ba9b3e4cae9f99382c9317558aff8fa556", func := "understudy/understudylaw06.TallyBack", spec := "tallyBack", apart := false }
def TallyBackSaid : Prop := tallyBackRow.holds Try.pinned (OpenSpec.ofChange tallyBackSpec)

/-- ITS FALSE NEIGHBOUR: 'it returns false'. Refute it at one input. -/
def tallyBackWrong : ChangeSpec := { name := "tallyBack", fn := fun _ => fun
  | [d1, d2, d3] => { results := [.lit (.bool false)], args := [d1, d2, d3] }
  | _ => none }
def TallyBackWrongFalsely : Prop := tallyBackRow.holds Try.pinned (OpenSpec.ofChange tallyBackWrong)

/-- 'understudylaw08.LeafNames': WHATEVER THE INPUT: true; the input reads as it did. -/
def leafNamesSpec : ChangeSpec := { name := "leafNames", fn := fun _ => fun
  | [] => { results := [.lit (.bool true)], args := [] }
  | _ => none }
def leafNamesRow : OpenClaim := { program := "ytnggcldghpmeaaa", sum := "9c21637c34078d49d48317e7c02605ba9b3e4cae9f99382c9317558aff8fa556", func := "understudy/understudylaw08.LeafNames", spec := "leafNames", unfollowed := true, recurses := true, apart := false }
def LeafNamesSaid : Prop := leafNamesRow.holds Try.pinned (OpenSpec.ofChange leafNamesSpec)

/-- ITS FALSE NEIGHBOUR: 'it returns false'. Refute it at one input. -/
def leafNamesWrong : ChangeSpec := { name := "leafNames", fn := fun _ => fun
  | [] => { results := [.lit (.bool false)], args := [] }
  | _ => none }
def LeafNamesWrongFalsely : Prop := leafNamesRow.holds Try.pinned (OpenSpec.ofChange leafNamesWrong)

/-- 'understudylaw08.LeafOpens': WHATEVER THE INPUT: true; the input reads as it did. -/
def leafOpensSpec : ChangeSpec := { name := "leafOpens", fn := fun _ => fun
  | [d] => { results := [.lit (.bool true)], args := [d] }
  | _ => none }
def leafOpensRow : OpenClaim := { program := "ytnggcldghpmeaaa", sum := "9c21637c34078d49d48317e7c02605ba9b3e4cae9f99382c9317558aff8fa556", func := "understudy/understudylaw08.LeafOpens", spec := "leafOpens", unfollowed := true, recurses := true, apart := false }
def LeafOpensSaid : Prop := leafOpensRow.holds Try.pinned (OpenSpec.ofChange leafOpensSpec)

/-- ITS FALSE NEIGHBOUR: 'it returns false'. Refute it at one input. -/
def leafOpensWrong : ChangeSpec := { name := "leafOpens", fn := fun _ => fun
  | [d] => { results := [.lit (.bool false)], args := [d] }
  | _ => none }
def LeafOpensWrongFalsely : Prop := leafOpensRow.holds Try.pinned (OpenSpec.ofChange leafOpensWrong)

/-- 'understudylaw08.LeafPlaces': WHATEVER THE INPUT: true; the input reads as it did. -/
def leafPlacesSpec : ChangeSpec := { name := "leafPlaces", fn := fun _ => fun
  | [d1, d2] => { results := [.lit (.bool true)], args := [d1, d2] }
  | _ => none }
def leafPlacesRow : OpenClaim := { program := "ytnggcldghpmeaaa", sum := "9c21637c34078d49d48317e7c02605ba9b3e4cae9f99382c9317558aff8fa556", func := "understudy/understudylaw08.LeafPlaces", spec := "leafPlaces", unfollowed := true, recurses := true, apart := false }
def LeafPlacesSaid : Prop := leafPlacesRow.holds Try.pinned (OpenSpec.ofChange leafPlacesSpec)

/-- ITS FALSE NEIGHBOUR: 'it returns false'. Refute it at one input. -/
def leafPlacesWrong : ChangeSpec := { name := "leafPlaces", fn := fun _ => fun
  | [d1, d2] => { results := [.lit (.bool false)], args := [d1, d2] }
  | _ => none }
def LeafPlacesWrongFalsely : Prop := leafPlacesRow.holds Try.pinned (OpenSpec.ofChange leafPlacesWrong)

/-- 'understudylaw08.LeafBack': WHATEVER THE INPUT: true; the input reads as it did. -/
def leafBackSpec : ChangeSpec := { name := "leafBack", fn := fun _ => fun
  | [d1, d2, d3] => { results := [.lit (.bool true)], args := [d1, d2, d3] }
  | _ => none }
def leafBackRow : OpenClaim := { program := "ytnggcldghpmeaaa", sum := "9c21637c34078d49d48317e7c02605ba9b3e4cae9f99382c9317558aff8fa556", func := "understudy/understudylaw08.LeafBack", spec := "leafBack", unfollowed := true, recurses := true, apart := false }
def LeafBackSaid : Prop := leafBackRow.holds Try.pinned (OpenSpec.ofChange leafBackSpec)

/-- ITS FALSE NEIGHBOUR: 'it returns false'. Refute it at one input. -/
def leafBackWrong : ChangeSpec := { name := "leafBack", fn := fun _ => fun
  | [d1, d2, d3] => { results := [.lit (.bool false)], args := [d1, d2, d3] }
  | _ => none }
def LeafBackWrongFalsely : Prop := leafBackRow.holds Try.pinned (OpenSpec.ofChange leafBackWrong)

/-- 'understudylaw14.RecordReads': WHATEVER THE INPUT: true; the input reads as it did. -/
def recordReadsSpec : ChangeSpec := { name := "recordReads", fn := fun _ => fun
  | [d] => { results := [.lit (.bool true)], args := [d] }
  | _ => none }
def recordReadsRow : OpenClaim := { program := "ytnggcldghpmeaaa", sum := "9c21637c34078d49d48317e7c02605ba9b3e4cae9f99382c9317558aff8fa556", func := "understudy/understudylaw14.RecordReads", spec := "recordReads", unfollowed := true, recurses := true, apart := false }
def RecordReadsSaid : Prop := recordReadsRow.holds Try.pinned (OpenSpec.ofChange recordReadsSpec)

/-- ITS FALSE NEIGHBOUR: 'it returns false'. Refute it at one input. -/
def recordReadsWrong : ChangeSpec := { name := "recordReads", fn := fun _ => fun
  | [d] => { results := [.lit (.bool false)], args := [d] }
  | _ => none }
def RecordReadsWrongFalsely : Prop := recordReadsRow.holds Try.pinned (OpenSpec.ofChange recordReadsWrong)

/-- 'understudylaw14.RecordTells': WHATEVER THE INPUT: true; the input reads as it did. -/
def recordTellsSpec : ChangeSpec := { name := "recordTells", fn := fun _ => fun
  | [d1, d2, d3] => { results := [.lit (.bool true)], args := [d1, d2, d3] }
  | _ => none }
def recordTellsRow : OpenClaim := { program := "ytnggcldghpmeaaa", sum := "9c21637c34078d49d48317e7c02605ba9b3e4cae9f99382c9317558aff8fa556", func := "understudy/understudylaw14.RecordTells", spec := "recordTells", unfollowed := true, recurses := true, apart := false }
def RecordTellsSaid : Prop := recordTellsRow.holds Try.pinned (OpenSpec.ofChange recordTellsSpec)

/-- ITS FALSE NEIGHBOUR: 'it returns false'. Refute it at one input. -/
def recordTellsWrong : ChangeSpec := { name := "recordTells", fn := fun _ => fun
  | [d1, d2, d3] => { results := [.lit (.bool false)], args := [d1, d2, d3] }
  | _ => none }
def RecordTellsWrongFalsely : Prop := recordTellsRow.holds Try.pinned (OpenSpec.ofChange recordTellsWrong)

/-- 'understudylaw18.FrameNames': WHATEVER THE INPUT: true; the input reads as it did. -/
def frameNamesSpec : ChangeSpec := { name := "frameNames", fn := fun _ => fun
  | [] => { results := [.lit (.bool true)], args := [] }
  | _ => none }
def frameNamesRow : OpenClaim := { program := "ytnggcldghpmeaaa", sum := "9c21637c34078d49d48317e7c02605ba9b3e4cae9f99382c9317558aff8fa556", func := "understudy/understudylaw18.FrameNames", spec := "frameNames", unfollowed := true, recurses := true, apart := false }
def FrameNamesSaid : Prop := frameNamesRow.holds Try.pinned (OpenSpec.ofChange frameNamesSpec)

/-- ITS FALSE NEIGHBOUR: 'it returns false'. Refute it at one input. -/
def frameNamesWrong : ChangeSpec := { name := "frameNames", fn := fun _ => fun
  | [] => { results := [.lit (.bool false)], args := [] }
  | _ => none }
def FrameNamesWrongFalsely : Prop := frameNamesRow.holds Try.pinned (OpenSpec.ofChange frameNamesWrong)

/-- 'understudylaw18.FrameBytes': WHATEVER THE INPUT: true; the input reads as it did. -/
def frameBytesSpec : ChangeSpec := { name := "frameBytes", fn := fun _ => fun
  | [d1, d2] => { results := [.lit (.bool true)], args := [d1, d2] }
  | _ => none }
def frameBytesRow : OpenClaim := { program := "ytnggcldghpmeaaa", sum := "9c21637c34078d49d48317e7c02605ba9b3e4cae9f99382c9317558aff8fa556", func := "understudy/understudylaw18.FrameBytes", spec := "frameBytes", unfollowed := true, recurses := true, apart := false }
def FrameBytesSaid : Prop := frameBytesRow.holds Try.pinned (OpenSpec.ofChange frameBytesSpec)

/-- ITS FALSE NEIGHBOUR: 'it returns false'. Refute it at one input. -/
def frameBytesWrong : ChangeSpec := { name := "frameBytes", fn := fun _ => fun
  | [d1, d2] => { results := [.lit (.bool false)], args := [d1, d2] }
  | _ => none }
def FrameBytesWrongFalsely : Prop := frameBytesRow.holds Try.pinned (OpenSpec.ofChange frameBytesWrong)

/-- 'understudylaw18.FrameReads': WHATEVER THE INPUT: true; the input reads as it did. -/
def frameReadsSpec : ChangeSpec := { name := "frameReads", fn := fun _ => fun
  | [d] => { results := [.lit (.bool true)], args := [d] }
  | _ => none }
def frameReadsRow : OpenClaim := { program := "ytnggcldghpmeaaa", sum := "9c21637c34078d49d48317e7c02605ba9b3e4cae9f99382c9317558aff8fa556", func := "understudy/understudylaw18.FrameReads", spec := "frameReads", unfollowed := true, recurses := true, apart := false }
def FrameReadsSaid : Prop := frameReadsRow.holds Try.pinned (OpenSpec.ofChange frameReadsSpec)

/-- ITS FALSE NEIGHBOUR: 'it returns false'. Refute it at one input. -/
def frameReadsWrong : ChangeSpec := { name := "frameReads", fn := fun _ => fun
  | [d] => { results := [.lit (.bool false)], args := [d] }
  | _ => none }
def FrameReadsWrongFalsely : Prop := frameReadsRow.holds Try.pinned (OpenSpec.ofChange frameReadsWrong)

/-- 'understudylaw18.FrameBack': WHATEVER THE INPUT: true; the input reads as it did. -/
def frameBackSpec : ChangeSpec := { name := "frameBack", fn := fun _ => fun
  | [d1, d2, d3] => { results := [.lit (.bool true)], args := [d1, d2, d3] }
  | _ => none }
def frameBackRow : OpenClaim := { program := "ytnggcldghpmeaaa", sum := "9c21637c34078d49d48317e7c02605ba9b3e4cae9f99382c9317558aff8fa556", func := "understudy/understudylaw18.FrameBack", spec := "frameBack", unfollowed := true, recurses := true, apart := false }
def FrameBackSaid : Prop := frameBackRow.holds Try.pinned (OpenSpec.ofChange frameBackSpec)

/-- ITS FALSE NEIGHBOUR: 'it returns false'. Refute it at one input. -/
def frameBackWrong : ChangeSpec := { name := "frameBack", fn := fun _ => fun
  | [d1, d2, d3] => { results := [.lit (.bool false)], args := [d1, d2, d3] }
  | _ => none }
def FrameBackWrongFalsely : Prop := frameBackRow.holds Try.pinned (OpenSpec.ofChange frameBackWrong)

/-- 'understudylaw18.FrameFinds': WHATEVER THE INPUT: true; the input reads as it did. -/
def frameFindsSpec : ChangeSpec := { name := "frameFinds", fn := fun _ => fun
  | [d1, d2, d3] => { results := [.lit (.bool true)], args := [d1, d2, d3] }
  | _ => none }
def frameFindsRow : OpenClaim := { program := "ytnggcldghpmeaaa", sum := "9c21637c34078d49d48317e7c02605ba9b3e4cae9f99382c9317558aff8fa556", func := "understudy/understudylaw18.FrameFinds", spec := "frameFinds", unfollowed := true, recurses := true, apart := false }
def FrameFindsSaid : Prop := frameFindsRow.holds Try.pinned (OpenSpec.ofChange frameFindsSpec)

/-- ITS FALSE NEIGHBOUR: 'it returns false'. Refute it at one input. -/
def frameFindsWrong : ChangeSpec := { name := "frameFinds", fn := fun _ => fun
  | [d1, d2, d3] => { results := [.lit (.bool false)], args := [d1, d2, d3] }
  | _ => none }
def FrameFindsWrongFalsely : Prop := frameFindsRow.holds Try.pinned (OpenSpec.ofChange frameFindsWrong)

/-- 'understudylaw18.FrameSizes': WHATEVER THE INPUT: true; the input reads as it did. -/
def frameSizesSpec : ChangeSpec := { name := "frameSizes", fn := fun _ => fun
  | [d] => { results := [.lit (.bool true)], args := [d] }
  | _ => none }
def frameSizesRow : OpenClaim := { program := "ytnggcldghpmeaaa", sum := "9c21637c34078d49d48317e7c02605ba9b3e4cae9f99382c9317558aff8fa556", func := "understudy/understudylaw18.FrameSizes", spec := "frameSizes", unfollowed := true, recurses := true, apart := false }
def FrameSizesSaid : Prop := frameSizesRow.holds Try.pinned (OpenSpec.ofChange frameSizesSpec)

/-- ITS FALSE NEIGHBOUR: 'it returns false'. Refute it at one input. -/
def frameSizesWrong : ChangeSpec := { name := "frameSizes", fn := fun _ => fun
  | [d] => { results := [.lit (.bool false)], args := [d] }
  | _ => none }
def FrameSizesWrongFalsely : Prop := frameSizesRow.holds Try.pinned (OpenSpec.ofChange frameSizesWrong)

/-- 'understudylaw05.RootNames': WHATEVER THE INPUT: true; the input reads as it did. -/
def rootNamesSpec : ChangeSpec := { name := "rootNames", fn := fun _ => fun
  | [] => { results := [.lit (.bool true)], args := [] }
  | _ => none }
def rootNamesRow : OpenClaim := { program := "ytnggcldghpmeaaa", sum := "9c21637c34078d49d48317e7c02605ba9b3e4cae9f99382c9317558aff8fa556", func := "understudy/understudylaw05.RootNames", spec := "rootNames", unfollowed := true, recurses := true, apart := false }
def RootNamesSaid : Prop := rootNamesRow.holds Try.pinned (OpenSpec.ofChange rootNamesSpec)

/-- ITS FALSE NEIGHBOUR: 'it returns false'. Refute it at one input. -/
def rootNamesWrong : ChangeSpec := { name := "rootNames", fn := fun _ => fun
  | [] => { results := [.lit (.bool false)], args := [] }
  | _ => none }
def RootNamesWrongFalsely : Prop := rootNamesRow.holds Try.pinned (OpenSpec.ofChange rootNamesWrong)

/-- 'understudylaw05.RootTurns': WHATEVER THE INPUT: true; the input reads as it did. -/
def rootTurnsSpec : ChangeSpec := { name := "rootTurns", fn := fun _ => fun
  | [d] => { results := [.lit (.bool true)], args := [d] }
  | _ => none }
def rootTurnsRow : OpenClaim := { program := "ytnggcldghpmeaaa", sum := "9c21637c34078d49d48317e7c02605ba9b3e4cae9f99382c9317558aff8fa556", func := "understudy/understudylaw05.RootTurns", spec := "rootTurns", unfollowed := true, recurses := true, apart := false }
def RootTurnsSaid : Prop := rootTurnsRow.holds Try.pinned (OpenSpec.ofChange rootTurnsSpec)

/-- ITS FALSE NEIGHBOUR: 'it returns false'. Refute it at one input. -/
def rootTurnsWrong : ChangeSpec := { name := "rootTurns", fn := fun _ => fun
  | [d] => { results := [.lit (.bool false)], args := [d] }
  | _ => none }
def RootTurnsWrongFalsely : Prop := rootTurnsRow.holds Try.pinned (OpenSpec.ofChange rootTurnsWrong)

/-- 'understudylaw05.RootSpoilt': WHATEVER THE INPUT: true; the input reads as it did. -/
def rootSpoiltSpec : ChangeSpec := { name := "rootSpoilt", fn := fun _ => fun
  | [d1, d2, d3] => { results := [.lit (.bool true)], args := [d1, d2, d3] }
  | _ => none }
def rootSpoiltRow : OpenClaim := { program := "ytnggcldghpmeaaa", sum := "9c21637c34078d49d48317e7c02605ba9b3e4cae9f99382c9317558aff8fa556", func := "understudy/understudylaw05.RootSpoilt", spec := "rootSpoilt", unfollowed := true, recurses := true, apart := false }
def RootSpoiltSaid : Prop := rootSpoiltRow.holds Try.pinned (OpenSpec.ofChange rootSpoiltSpec)

/-- ITS FALSE NEIGHBOUR: 'it returns false'. Refute it at one input. -/
def rootSpoiltWrong : ChangeSpec := { name := "rootSpoilt", fn := fun _ => fun
  | [d1, d2, d3] => { results := [.lit (.bool false)], args := [d1, d2, d3] }
  | _ => none }
def RootSpoiltWrongFalsely : Prop := rootSpoiltRow.holds Try.pinned (OpenSpec.ofChange rootSpoiltWrong)

/-- 'understudylaw05.RootTorn': WHATEVER THE INPUT: true; the input reads as it did. -/
def rootTornSpec : ChangeSpec := { name := "rootTorn", fn := fun _ => fun
  | [d] => { results := [.lit (.bool true)], args := [d] }
  | _ => none }
def rootTornRow : OpenClaim := { program := "ytnggcldghpmeaaa", sum := "9c21637c34078d49d48317e7c02605ba9b3e4cae9f99382c9317558aff8fa556", func := "understudy/understudylaw05.RootTorn", spec := "rootTorn", unfollowed := true, recurses := true, apart := false }
def RootTornSaid : Prop := rootTornRow.holds Try.pinned (OpenSpec.ofChange rootTornSpec)

/-- ITS FALSE NEIGHBOUR: 'it returns false'. Refute it at one input. -/
def rootTornWrong : ChangeSpec := { name := "rootTorn", fn := fun _ => fun
  | [d] => { results := [.lit (.bool false)], args := [d] }
  | _ => none }
def RootTornWrongFalsely : Prop := rootTornRow.holds Try.pinned (OpenSpec.ofChange rootTornWrong)

/-- 'understudylaw05.RootRuns': WHATEVER THE INPUT: true; the input reads as it did. -/
def rootRunsSpec : ChangeSpec := { name := "rootRuns", fn := fun _ => fun
  | [d1, d2] => { results := [.lit (.bool true)], args := [d1, d2] }
  | _ => none }
def rootRunsRow : OpenClaim := { program := "ytnggcldghpmeaaa", sum := "9c21637c34078d49d48317e7c02605ba9b3e4cae9f99382c9317558aff8fa556", func := "understudy/understudylaw05.RootRuns", spec := "rootRuns", unfollowed := true, recurses := true, apart := false }
def RootRunsSaid : Prop := rootRunsRow.holds Try.pinned (OpenSpec.ofChange rootRunsSpec)

/-- ITS FALSE NEIGHBOUR: 'it returns false'. Refute it at one input. -/
def rootRunsWrong : ChangeSpec := { name := "rootRuns", fn := fun _ => fun
  | [d1, d2] => { results := [.lit (.bool false)], args := [d1, d2] }
  | _ => none }
def RootRunsWrongFalsely : Prop := rootRunsRow.holds Try.pinned (OpenSpec.ofChange rootRunsWrong)

/- THE SECOND FORM. 'bulk': how many values and letters a reading holds, each counted each time it is reached (what is shared counts as often as it is met; a slice's spare places count too). A statement '..UptoSaid' is the law's where the arguments, and the package variables that the reading takes, are together of bulk at most 1048576: NARROWER than '..Said'. Prove '..Said' where nothing that the law and all that it calls make is longer than what came in: it says more and counts as full. Else prove '..UptoSaid'. A law counts once. -/
mutual
def uptoBulk {H : Type} : DataW H → Nat
  | .lit (.string bytes) => bytes.length + 1
  | .lit _ => 1
  | .nil => 1
  | .ptr d => uptoBulk d + 1
  | .slice elems spare => uptoBulkAll elems + uptoBulkAll spare + 1
  | .agg parts => uptoBulkAll parts + 1
  | .iface _ d => uptoBulk d + 1
  | .map entries => uptoBulkEntries entries + 1
  | .held _ => 1
def uptoBulkAll {H : Type} : List (DataW H) → Nat
  | [] => 0
  | d :: r => uptoBulk d + uptoBulkAll r
def uptoBulkEntries {H : Type} : List (Lit × DataW H) → Nat
  | [] => 0
  | x :: r => uptoBulkEntry x + uptoBulkEntries r
def uptoBulkEntry {H : Type} : Lit × DataW H → Nat
  | (.string bytes, d) => bytes.length + uptoBulk d + 1
  | (_, d) => uptoBulk d + 1
 end
def uptoSmall : (H : Type) → List (DataW H) → Bool := fun _ ds => decide (uptoBulkAll ds ≤ 1048576)
def OpenSpec.upto (s : _root_.Go.ChangeSpec) : _root_.Go.OpenSpec := { _root_.Go.OpenSpec.ofChange s with cond := some uptoSmall }

/-- 'understudylaw06.TallyApart', WHERE WHAT IT READS IS OF BULK AT MOST 1048576: true; the input reads as it did. -/
def tallyApartUptoRow : OpenClaim := { program := "ytnggcldghpmeaaa", sum := "9c21637c34078d49d48317e7c02605ba9b3e4cae9f99382c9317558aff8fa556", func := "understudy/understudylaw06.TallyApart", spec := "tallyApart", apart := false, narrowed := true }
def TallyApartUptoSaid : Prop := tallyApartUptoRow.holds Try.pinned (OpenSpec.upto tallyApartSpec)

/-- 'understudylaw06.TallyPages', WHERE WHAT IT READS IS OF BULK AT MOST 1048576: true; the input reads as it did. -/
def tallyPagesUptoRow : OpenClaim := { program := "ytnggcldghpmeaaa", sum := "9c21637c34078d49d48317e7c02605ba9b3e4cae9f99382c9317558aff8fa556", func := "understudy/understudylaw06.TallyPages", spec := "tallyPages", apart := false, narrowed := true }
def TallyPagesUptoSaid : Prop := tallyPagesUptoRow.holds Try.pinned (OpenSpec.upto tallyPagesSpec)

/-- 'understudylaw06.TallyNames', WHERE WHAT IT READS IS OF BULK AT MOST 1048576: true; the input reads as it did. -/
def tallyNamesUptoRow : OpenClaim := { program := "ytnggcldghpmeaaa", sum := "9c21637c34078d49d48317e7c02605ba9b3e4cae9f99382c9317558aff8fa556", func := "understudy/understudylaw06.TallyNames", spec := "tallyNames", apart := false, narrowed := true }
def TallyNamesUptoSaid : Prop := tallyNamesUptoRow.holds Try.pinned (OpenSpec.upto tallyNamesSpec)

/-- 'understudylaw06.TallyBack', WHERE WHAT IT READS IS OF BULK AT MOST 1048576: true; the input reads as it did. -/
def tallyBackUptoRow : OpenClaim := { program := "ytnggcldghpmeaaa", sum := "9c21637c34078d49d48317e7c02605ba9b3e4cae9f99382c9317558aff8fa556", func := "understudy/understudylaw06.TallyBack", spec := "tallyBack", apart := false, narrowed := true }
def TallyBackUptoSaid : Prop := tallyBackUptoRow.holds Try.pinned (OpenSpec.upto tallyBackSpec)

/-- 'understudylaw08.LeafNames', WHERE WHAT IT READS IS OF BULK AT MOST 1048576: true; the input reads as it did. -/
def leafNamesUptoRow : OpenClaim := { program := "ytnggcldghpmeaaa", sum := "9c21637c34078d49d48317e7c02605ba9b3e4cae9f99382c9317558aff8fa556", func := "understudy/understudylaw08.LeafNames", spec := "leafNames", unfollowed := true, recurses := true, apart := false, narrowed := true }
def LeafNamesUptoSaid : Prop := leafNamesUptoRow.holds Try.pinned (OpenSpec.upto leafNamesSpec)

/-- 'understudylaw08.LeafOpens', WHERE WHAT IT READS IS OF BULK AT MOST 1048576: true; the input reads as it did. -/
def leafOpensUptoRow : OpenClaim := { program := "ytnggcldghpmeaaa", sum := "9c21637c34078d49d48317e7c02605ba9b3e4cae9f99382c9317558aff8fa556", func := "understudy/understudylaw08.LeafOpens", spec := "leafOpens", unfollowed := true, recurses := true, apart := false, narrowed := true }
def LeafOpensUptoSaid : Prop := leafOpensUptoRow.holds Try.pinned (OpenSpec.upto leafOpensSpec)

/-- 'understudylaw08.LeafPlaces', WHERE WHAT IT READS IS OF BULK AT MOST 1048576: true; the input reads as it did. -/
def leafPlacesUptoRow : OpenClaim := { program := "ytnggcldghpmeaaa", sum := "9c21637c34078d49d48317e7c02605ba9b3e4cae9f99382c9317558aff8fa556", func := "understudy/understudylaw08.LeafPlaces", spec := "leafPlaces", unfollowed := true, recurses := true, apart := false, narrowed := true }
def LeafPlacesUptoSaid : Prop := leafPlacesUptoRow.holds Try.pinned (OpenSpec.upto leafPlacesSpec)

/-- 'understudylaw08.LeafBack', WHERE WHAT IT READS IS OF BULK AT MOST 1048576: true; the input reads as it did. -/
def leafBackUptoRow : OpenClaim := { program := "ytnggcldghpmeaaa", sum := "9c21637c34078d49d48317e7c02605ba9b3e4cae9f99382c9317558aff8fa556", func := "understudy/understudylaw08.LeafBack", spec := "leafBack", unfollowed := true, recurses := true, apart := false, narrowed := true }
def LeafBackUptoSaid : Prop := leafBackUptoRow.holds Try.pinned (OpenSpec.upto leafBackSpec)

/-- 'understudylaw14.RecordReads', WHERE WHAT IT READS IS OF BULK AT MOST 1048576: true; the input reads as it did. -/
def recordReadsUptoRow : OpenClaim := { program := "ytnggcldghpmeaaa", sum := "9c21637c34078d49d48317e7c02605ba9b3e4cae9f99382c9317558aff8fa556", func := "understudy/understudylaw14.RecordReads", spec := "recordReads", unfollowed := true, recurses := true, apart := false, narrowed := true }
def RecordReadsUptoSaid : Prop := recordReadsUptoRow.holds Try.pinned (OpenSpec.upto recordReadsSpec)

/-- 'understudylaw14.RecordTells', WHERE WHAT IT READS IS OF BULK AT MOST 1048576: true; the input reads as it did. -/
def recordTellsUptoRow : OpenClaim := { program := "ytnggcldghpmeaaa", sum := "9c21637c34078d49d48317e7c02605ba9b3e4cae9f99382c9317558aff8fa556", func := "understudy/understudylaw14.RecordTells", spec := "recordTells", unfollowed := true, recurses := true, apart := false, narrowed := true }
def RecordTellsUptoSaid : Prop := recordTellsUptoRow.holds Try.pinned (OpenSpec.upto recordTellsSpec)

/-- 'understudylaw18.FrameNames', WHERE WHAT IT READS IS OF BULK AT MOST 1048576: true; the input reads as it did. -/
def frameNamesUptoRow : OpenClaim := { program := "ytnggcldghpmeaaa", sum := "9c21637c34078d49d48317e7c02605ba9b3e4cae9f99382c9317558aff8fa556", func := "understudy/understudylaw18.FrameNames", spec := "frameNames", unfollowed := true, recurses := true, apart := false, narrowed := true }
def FrameNamesUptoSaid : Prop := frameNamesUptoRow.holds Try.pinned (OpenSpec.upto frameNamesSpec)

/-- 'understudylaw18.FrameBytes', WHERE WHAT IT READS IS OF BULK AT MOST 1048576: true; the input reads as it did. -/
def frameBytesUptoRow : OpenClaim := { program := "ytnggcldghpmeaaa", sum := "9c21637c34078d49d48317e7c02605ba9b3e4cae9f99382c9317558aff8fa556", func := "understudy/understudylaw18.FrameBytes", spec := "frameBytes", unfollowed := true, recurses := true, apart := false, narrowed := true }
def FrameBytesUptoSaid : Prop := frameBytesUptoRow.holds Try.pinned (OpenSpec.upto frameBytesSpec)

/-- 'understudylaw18.FrameReads', WHERE WHAT IT READS IS OF BULK AT MOST 1048576: true; the input reads as it did. -/
def frameReadsUptoRow : OpenClaim := { program := "ytnggcldghpmeaaa", sum := "9c21637c34078d49d48317e7c02605ba9b3e4cae9f99382c9317558aff8fa556", func := "understudy/understudylaw18.FrameReads", spec := "frameReads", unfollowed := true, recurses := true, apart := false, narrowed := true }
def FrameReadsUptoSaid : Prop := frameReadsUptoRow.holds Try.pinned (OpenSpec.upto frameReadsSpec)

/-- 'understudylaw18.FrameBack', WHERE WHAT IT READS IS OF BULK AT MOST 1048576: true; the input reads as it did. -/
def frameBackUptoRow : OpenClaim := { program := "ytnggcldghpmeaaa", sum := "9c21637c34078d49d48317e7c02605ba9b3e4cae9f99382c9317558aff8fa556", func := "understudy/understudylaw18.FrameBack", spec := "frameBack", unfollowed := true, recurses := true, apart := false, narrowed := true }
def FrameBackUptoSaid : Prop := frameBackUptoRow.holds Try.pinned (OpenSpec.upto frameBackSpec)

/-- 'understudylaw18.FrameFinds', WHERE WHAT IT READS IS OF BULK AT MOST 1048576: true; the input reads as it did. -/
def frameFindsUptoRow : OpenClaim := { program := "ytnggcldghpmeaaa", sum := "9c21637c34078d49d48317e7c02605ba9b3e4cae9f99382c9317558aff8fa556", func := "understudy/understudylaw18.FrameFinds", spec := "frameFinds", unfollowed := true, recurses := true, apart := false, narrowed := true }
def FrameFindsUptoSaid : Prop := frameFindsUptoRow.holds Try.pinned (OpenSpec.upto frameFindsSpec)

/-- 'understudylaw18.FrameSizes', WHERE WHAT IT READS IS OF BULK AT MOST 1048576: true; the input reads as it did. -/
def frameSizesUptoRow : OpenClaim := { program := "ytnggcldghpmeaaa", sum := "9c21637c34078d49d48317e7c02605ba9b3e4cae9f99382c9317558aff8fa556", func := "understudy/understudylaw18.FrameSizes", spec := "frameSizes", unfollowed := true, recurses := true, apart := false, narrowed := true }
def FrameSizesUptoSaid : Prop := frameSizesUptoRow.holds Try.pinned (OpenSpec.upto frameSizesSpec)

/-- 'understudylaw05.RootNames', WHERE WHAT IT READS IS OF BULK AT MOST 1048576: true; the input reads as it did. -/
def rootNamesUptoRow : OpenClaim := { program := "ytnggcldghpmeaaa", sum := "9c21637c34078d49d48317e7c02605ba9b3e4cae9f99382c9317558aff8fa556", func := "understudy/understudylaw05.RootNames", spec := "rootNames", unfollowed := true, recurses := true, apart := false, narrowed := true }
def RootNamesUptoSaid : Prop := rootNamesUptoRow.holds Try.pinned (OpenSpec.upto rootNamesSpec)

/-- 'understudylaw05.RootTurns', WHERE WHAT IT READS IS OF BULK AT MOST 1048576: true; the input reads as it did. -/
def rootTurnsUptoRow : OpenClaim := { program := "ytnggcldghpmeaaa", sum := "9c21637c34078d49d48317e7c02605ba9b3e4cae9f99382c9317558aff8fa556", func := "understudy/understudylaw05.RootTurns", spec := "rootTurns", unfollowed := true, recurses := true, apart := false, narrowed := true }
def RootTurnsUptoSaid : Prop := rootTurnsUptoRow.holds Try.pinned (OpenSpec.upto rootTurnsSpec)

/-- 'understudylaw05.RootSpoilt', WHERE WHAT IT READS IS OF BULK AT MOST 1048576: true; the input reads as it did. -/
def rootSpoiltUptoRow : OpenClaim := { program := "ytnggcldghpmeaaa", sum := "9c21637c34078d49d48317e7c02605ba9b3e4cae9f99382c9317558aff8fa556", func := "understudy/understudylaw05.RootSpoilt", spec := "rootSpoilt", unfollowed := true, recurses := true, apart := false, narrowed := true }
def RootSpoiltUptoSaid : Prop := rootSpoiltUptoRow.holds Try.pinned (OpenSpec.upto rootSpoiltSpec)

/-- 'understudylaw05.RootTorn', WHERE WHAT IT READS IS OF BULK AT MOST 1048576: true; the input reads as it did. -/
def rootTornUptoRow : OpenClaim := { program := "ytnggcldghpmeaaa", sum := "9c21637c34078d49d48317e7c02605ba9b3e4cae9f99382c9317558aff8fa556", func := "understudy/understudylaw05.RootTorn", spec := "rootTorn", unfollowed := true, recurses := true, apart := false, narrowed := true }
def RootTornUptoSaid : Prop := rootTornUptoRow.holds Try.pinned (OpenSpec.upto rootTornSpec)

/-- 'understudylaw05.RootRuns', WHERE WHAT IT READS IS OF BULK AT MOST 1048576: true; the input reads as it did. -/
def rootRunsUptoRow : OpenClaim := { program := "ytnggcldghpmeaaa", sum := "9c21637c34078d49d48317e7c02605ba9b3e4cae9f99382c9317558aff8fa556", func := "understudy/understudylaw05.RootRuns", spec := "rootRuns", unfollowed := true, recurses := true, apart := false, narrowed := true }
def RootRunsUptoSaid : Prop := rootRunsUptoRow.holds Try.pinned (OpenSpec.upto rootRunsSpec)

end Rows
end Go.Proofs.Ytnggcldghpmeaaa
