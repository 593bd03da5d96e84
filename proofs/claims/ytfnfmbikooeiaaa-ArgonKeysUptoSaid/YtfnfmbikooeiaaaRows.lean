/-
  No cell of these rows narrows 'for every input' (looked for: loops, veiled, ifaces, maps, wideKeys, modest, calm, conditions, laid).
  DERIVED. THE GIVEN ROWS OF THIS SEAT. 17 by the template 'for every input the law returns true; each argument reads behind the call as it read before'; 0 by the template 'total and deterministic' (their statements: YtfnfmbikooeiaaaTotals.lean).
  GIVEN WITH THE SEED: the statements are not yours to turn. If you find one false, say at which input.
  Laid BY PROGRAM, IN A SANDBOX (cutbox-rows.mjs): the forced cells as the released guide's own fill.sh prints them over the translation 6b1e23a352c0884b… (all of the seat's roots in one cut). By AI agents, Wed Nov 11 2026. No macro, syntax, notation, axiom, sorry.
-/
import Derived.Test.YtfnfmbikooeiaaaChecked
import GoSem.Claim
import GoSem.ClaimJoined
import GoSem.ClaimMapViews
import Derived.JoinedTies
import Derived.KernelRfl
namespace Go.Proofs.Ytfnfmbikooeiaaa
/- THE CELL 'sum', in the pinned program and in every row, IS THE sha256 OF THE DUMP (.gsa) THAT YtfnfmbikooeiaaaProg.lean LOADS. Nothing in Lean hashes anything: it is a label: what it is worth is what the hold of that sum in a sandbox is worth. -/
noncomputable def Try.pinned : Pinned := { name := "ytfnfmbikooeiaaa", sum := "6b1e23a352c0884bf6265bf5901903b6783dcc3e9bb895d1ffe6700209b88b43", checked := Try.checked }
namespace Rows
def none {H : Type} : Left H := { results := [], args := [] }

/-- 'casketlaw06.BlakeSums': WHATEVER THE INPUT: true; the input reads as it did. -/
def blakeSumsSpec : ChangeSpec := { name := "blakeSums", fn := fun _ => fun
  | [d1, d2, d3, d4] => { results := [.lit (.bool true)], args := [d1, d2, d3, d4] }
  | _ => none }
def blakeSumsRow : OpenClaim := { program := "ytfnfmbikooeiaaa", sum := "6b1e23a352c0884bf6265bf5901903b6783dcc3e9bb895d1ffe6700209b88b43", func := "casket/casketlaw06.BlakeSums", spec := "blakeSums", apart := false }
def BlakeSumsSaid : Prop := blakeSumsRow.holds Try.pinned (OpenSpec.ofChange blakeSumsSpec)

/-- ITS FALSE NEIGHBOUR: 'it returns false'. Refute it at one input. -/
def blakeSumsWrong : ChangeSpec := { name := "blakeSums", fn := fun _ => fun
  | [d1, d2, d3, d4] => { results := [.lit (.bool false)], args := [d1, d2, d3, d4] }
  | _ => none }
def BlakeSumsWrongFalsely : Prop := blakeSumsRow.holds Try.pinned (OpenSpec.ofChange blakeSumsWrong)

/-- 'casketlaw06.BlakePieces': WHATEVER THE INPUT: true; the input reads as it did. -/
def blakePiecesSpec : ChangeSpec := { name := "blakePieces", fn := fun _ => fun
  | [d1, d2, d3, d4] => { results := [.lit (.bool true)], args := [d1, d2, d3, d4] }
  | _ => none }
def blakePiecesRow : OpenClaim := { program := "ytfnfmbikooeiaaa", sum := "6b1e23a352c0884bf6265bf5901903b6783dcc3e9bb895d1ffe6700209b88b43", func := "casket/casketlaw06.BlakePieces", spec := "blakePieces", apart := false }
def BlakePiecesSaid : Prop := blakePiecesRow.holds Try.pinned (OpenSpec.ofChange blakePiecesSpec)

/-- ITS FALSE NEIGHBOUR: 'it returns false'. Refute it at one input. -/
def blakePiecesWrong : ChangeSpec := { name := "blakePieces", fn := fun _ => fun
  | [d1, d2, d3, d4] => { results := [.lit (.bool false)], args := [d1, d2, d3, d4] }
  | _ => none }
def BlakePiecesWrongFalsely : Prop := blakePiecesRow.holds Try.pinned (OpenSpec.ofChange blakePiecesWrong)

/-- 'casketlaw06.BlakeLengths': WHATEVER THE INPUT: true; the input reads as it did. -/
def blakeLengthsSpec : ChangeSpec := { name := "blakeLengths", fn := fun _ => fun
  | [d1, d2] => { results := [.lit (.bool true)], args := [d1, d2] }
  | _ => none }
def blakeLengthsRow : OpenClaim := { program := "ytfnfmbikooeiaaa", sum := "6b1e23a352c0884bf6265bf5901903b6783dcc3e9bb895d1ffe6700209b88b43", func := "casket/casketlaw06.BlakeLengths", spec := "blakeLengths", apart := false }
def BlakeLengthsSaid : Prop := blakeLengthsRow.holds Try.pinned (OpenSpec.ofChange blakeLengthsSpec)

/-- ITS FALSE NEIGHBOUR: 'it returns false'. Refute it at one input. -/
def blakeLengthsWrong : ChangeSpec := { name := "blakeLengths", fn := fun _ => fun
  | [d1, d2] => { results := [.lit (.bool false)], args := [d1, d2] }
  | _ => none }
def BlakeLengthsWrongFalsely : Prop := blakeLengthsRow.holds Try.pinned (OpenSpec.ofChange blakeLengthsWrong)

/-- 'casketlaw06.BlakeStates': WHATEVER THE INPUT: true; the input reads as it did. -/
def blakeStatesSpec : ChangeSpec := { name := "blakeStates", fn := fun _ => fun
  | [d1, d2] => { results := [.lit (.bool true)], args := [d1, d2] }
  | _ => none }
def blakeStatesRow : OpenClaim := { program := "ytfnfmbikooeiaaa", sum := "6b1e23a352c0884bf6265bf5901903b6783dcc3e9bb895d1ffe6700209b88b43", func := "casket/casketlaw06.BlakeStates", spec := "blakeStates", apart := false }
def BlakeStatesSaid : Prop := blakeStatesRow.holds Try.pinned (OpenSpec.ofChange blakeStatesSpec)

/-- ITS FALSE NEIGHBOUR: 'it returns false'. Refute it at one input. -/
def blakeStatesWrong : ChangeSpec := { name := "blakeStates", fn := fun _ => fun
  | [d1, d2] => { results := [.lit (.bool false)], args := [d1, d2] }
  | _ => none }
def BlakeStatesWrongFalsely : Prop := blakeStatesRow.holds Try.pinned (OpenSpec.ofChange blakeStatesWrong)

/-- 'casketlaw06.BlakeWrites': WHATEVER THE INPUT: true; the input reads as it did. -/
def blakeWritesSpec : ChangeSpec := { name := "blakeWrites", fn := fun _ => fun
  | [d1, d2, d3] => { results := [.lit (.bool true)], args := [d1, d2, d3] }
  | _ => none }
def blakeWritesRow : OpenClaim := { program := "ytfnfmbikooeiaaa", sum := "6b1e23a352c0884bf6265bf5901903b6783dcc3e9bb895d1ffe6700209b88b43", func := "casket/casketlaw06.BlakeWrites", spec := "blakeWrites", apart := false }
def BlakeWritesSaid : Prop := blakeWritesRow.holds Try.pinned (OpenSpec.ofChange blakeWritesSpec)

/-- ITS FALSE NEIGHBOUR: 'it returns false'. Refute it at one input. -/
def blakeWritesWrong : ChangeSpec := { name := "blakeWrites", fn := fun _ => fun
  | [d1, d2, d3] => { results := [.lit (.bool false)], args := [d1, d2, d3] }
  | _ => none }
def BlakeWritesWrongFalsely : Prop := blakeWritesRow.holds Try.pinned (OpenSpec.ofChange blakeWritesWrong)

/-- 'casketlaw06.BlakeNobody': WHATEVER THE INPUT: true; the input reads as it did. -/
def blakeNobodySpec : ChangeSpec := { name := "blakeNobody", fn := fun _ => fun
  | [d] => { results := [.lit (.bool true)], args := [d] }
  | _ => none }
def blakeNobodyRow : OpenClaim := { program := "ytfnfmbikooeiaaa", sum := "6b1e23a352c0884bf6265bf5901903b6783dcc3e9bb895d1ffe6700209b88b43", func := "casket/casketlaw06.BlakeNobody", spec := "blakeNobody", apart := false }
def BlakeNobodySaid : Prop := blakeNobodyRow.holds Try.pinned (OpenSpec.ofChange blakeNobodySpec)

/-- ITS FALSE NEIGHBOUR: 'it returns false'. Refute it at one input. -/
def blakeNobodyWrong : ChangeSpec := { name := "blakeNobody", fn := fun _ => fun
  | [d] => { results := [.lit (.bool false)], args := [d] }
  | _ => none }
def BlakeNobodyWrongFalsely : Prop := blakeNobodyRow.holds Try.pinned (OpenSpec.ofChange blakeNobodyWrong)

/-- 'casketlaw07.MixLong': WHATEVER THE INPUT: true; the input reads as it did. -/
def mixLongSpec : ChangeSpec := { name := "mixLong", fn := fun _ => fun
  | [d1, d2, d3] => { results := [.lit (.bool true)], args := [d1, d2, d3] }
  | _ => none }
def mixLongRow : OpenClaim := { program := "ytfnfmbikooeiaaa", sum := "6b1e23a352c0884bf6265bf5901903b6783dcc3e9bb895d1ffe6700209b88b43", func := "casket/casketlaw07.MixLong", spec := "mixLong", unfollowed := true, recurses := true, apart := false }
def MixLongSaid : Prop := mixLongRow.holds Try.pinned (OpenSpec.ofChange mixLongSpec)

/-- ITS FALSE NEIGHBOUR: 'it returns false'. Refute it at one input. -/
def mixLongWrong : ChangeSpec := { name := "mixLong", fn := fun _ => fun
  | [d1, d2, d3] => { results := [.lit (.bool false)], args := [d1, d2, d3] }
  | _ => none }
def MixLongWrongFalsely : Prop := mixLongRow.holds Try.pinned (OpenSpec.ofChange mixLongWrong)

/-- 'casketlaw07.MixWhich': WHATEVER THE INPUT: true; the input reads as it did. -/
def mixWhichSpec : ChangeSpec := { name := "mixWhich", fn := fun _ => fun
  | [d1, d2] => { results := [.lit (.bool true)], args := [d1, d2] }
  | _ => none }
def mixWhichRow : OpenClaim := { program := "ytfnfmbikooeiaaa", sum := "6b1e23a352c0884bf6265bf5901903b6783dcc3e9bb895d1ffe6700209b88b43", func := "casket/casketlaw07.MixWhich", spec := "mixWhich", unfollowed := true, recurses := true, apart := false }
def MixWhichSaid : Prop := mixWhichRow.holds Try.pinned (OpenSpec.ofChange mixWhichSpec)

/-- ITS FALSE NEIGHBOUR: 'it returns false'. Refute it at one input. -/
def mixWhichWrong : ChangeSpec := { name := "mixWhich", fn := fun _ => fun
  | [d1, d2] => { results := [.lit (.bool false)], args := [d1, d2] }
  | _ => none }
def MixWhichWrongFalsely : Prop := mixWhichRow.holds Try.pinned (OpenSpec.ofChange mixWhichWrong)

/-- 'casketlaw07.MixBytes': WHATEVER THE INPUT: true; the input reads as it did. -/
def mixBytesSpec : ChangeSpec := { name := "mixBytes", fn := fun _ => fun
  | [d1, d2] => { results := [.lit (.bool true)], args := [d1, d2] }
  | _ => none }
def mixBytesRow : OpenClaim := { program := "ytfnfmbikooeiaaa", sum := "6b1e23a352c0884bf6265bf5901903b6783dcc3e9bb895d1ffe6700209b88b43", func := "casket/casketlaw07.MixBytes", spec := "mixBytes", unfollowed := true, recurses := true, apart := false }
def MixBytesSaid : Prop := mixBytesRow.holds Try.pinned (OpenSpec.ofChange mixBytesSpec)

/-- ITS FALSE NEIGHBOUR: 'it returns false'. Refute it at one input. -/
def mixBytesWrong : ChangeSpec := { name := "mixBytes", fn := fun _ => fun
  | [d1, d2] => { results := [.lit (.bool false)], args := [d1, d2] }
  | _ => none }
def MixBytesWrongFalsely : Prop := mixBytesRow.holds Try.pinned (OpenSpec.ofChange mixBytesWrong)

/-- 'casketlaw07.MixRising': WHATEVER THE INPUT: true; the input reads as it did. -/
def mixRisingSpec : ChangeSpec := { name := "mixRising", fn := fun _ => fun
  | [d1, d2, d3] => { results := [.lit (.bool true)], args := [d1, d2, d3] }
  | _ => none }
def mixRisingRow : OpenClaim := { program := "ytfnfmbikooeiaaa", sum := "6b1e23a352c0884bf6265bf5901903b6783dcc3e9bb895d1ffe6700209b88b43", func := "casket/casketlaw07.MixRising", spec := "mixRising", unfollowed := true, recurses := true, apart := false }
def MixRisingSaid : Prop := mixRisingRow.holds Try.pinned (OpenSpec.ofChange mixRisingSpec)

/-- ITS FALSE NEIGHBOUR: 'it returns false'. Refute it at one input. -/
def mixRisingWrong : ChangeSpec := { name := "mixRising", fn := fun _ => fun
  | [d1, d2, d3] => { results := [.lit (.bool false)], args := [d1, d2, d3] }
  | _ => none }
def MixRisingWrongFalsely : Prop := mixRisingRow.holds Try.pinned (OpenSpec.ofChange mixRisingWrong)

/-- 'casketlaw07.MixShort': WHATEVER THE INPUT: true; the input reads as it did. -/
def mixShortSpec : ChangeSpec := { name := "mixShort", fn := fun _ => fun
  | [d1, d2] => { results := [.lit (.bool true)], args := [d1, d2] }
  | _ => none }
def mixShortRow : OpenClaim := { program := "ytfnfmbikooeiaaa", sum := "6b1e23a352c0884bf6265bf5901903b6783dcc3e9bb895d1ffe6700209b88b43", func := "casket/casketlaw07.MixShort", spec := "mixShort", unfollowed := true, recurses := true, apart := false }
def MixShortSaid : Prop := mixShortRow.holds Try.pinned (OpenSpec.ofChange mixShortSpec)

/-- ITS FALSE NEIGHBOUR: 'it returns false'. Refute it at one input. -/
def mixShortWrong : ChangeSpec := { name := "mixShort", fn := fun _ => fun
  | [d1, d2] => { results := [.lit (.bool false)], args := [d1, d2] }
  | _ => none }
def MixShortWrongFalsely : Prop := mixShortRow.holds Try.pinned (OpenSpec.ofChange mixShortWrong)

/-- 'casketlaw07.MixPages': WHATEVER THE INPUT: true; the input reads as it did. -/
def mixPagesSpec : ChangeSpec := { name := "mixPages", fn := fun _ => fun
  | [d1, d2, d3] => { results := [.lit (.bool true)], args := [d1, d2, d3] }
  | _ => none }
def mixPagesRow : OpenClaim := { program := "ytfnfmbikooeiaaa", sum := "6b1e23a352c0884bf6265bf5901903b6783dcc3e9bb895d1ffe6700209b88b43", func := "casket/casketlaw07.MixPages", spec := "mixPages", unfollowed := true, recurses := true, apart := false }
def MixPagesSaid : Prop := mixPagesRow.holds Try.pinned (OpenSpec.ofChange mixPagesSpec)

/-- ITS FALSE NEIGHBOUR: 'it returns false'. Refute it at one input. -/
def mixPagesWrong : ChangeSpec := { name := "mixPages", fn := fun _ => fun
  | [d1, d2, d3] => { results := [.lit (.bool false)], args := [d1, d2, d3] }
  | _ => none }
def MixPagesWrongFalsely : Prop := mixPagesRow.holds Try.pinned (OpenSpec.ofChange mixPagesWrong)

/-- 'casketlaw07.MixRows': WHATEVER THE INPUT: true; the input reads as it did. -/
def mixRowsSpec : ChangeSpec := { name := "mixRows", fn := fun _ => fun
  | [d] => { results := [.lit (.bool true)], args := [d] }
  | _ => none }
def mixRowsRow : OpenClaim := { program := "ytfnfmbikooeiaaa", sum := "6b1e23a352c0884bf6265bf5901903b6783dcc3e9bb895d1ffe6700209b88b43", func := "casket/casketlaw07.MixRows", spec := "mixRows", unfollowed := true, recurses := true, apart := false }
def MixRowsSaid : Prop := mixRowsRow.holds Try.pinned (OpenSpec.ofChange mixRowsSpec)

/-- ITS FALSE NEIGHBOUR: 'it returns false'. Refute it at one input. -/
def mixRowsWrong : ChangeSpec := { name := "mixRows", fn := fun _ => fun
  | [d] => { results := [.lit (.bool false)], args := [d] }
  | _ => none }
def MixRowsWrongFalsely : Prop := mixRowsRow.holds Try.pinned (OpenSpec.ofChange mixRowsWrong)

/-- 'casketlaw08.ArgonKeys': WHATEVER THE INPUT: true; the input reads as it did. -/
def argonKeysSpec : ChangeSpec := { name := "argonKeys", fn := fun _ => fun
  | [d1, d2, d3] => { results := [.lit (.bool true)], args := [d1, d2, d3] }
  | _ => none }
def argonKeysRow : OpenClaim := { program := "ytfnfmbikooeiaaa", sum := "6b1e23a352c0884bf6265bf5901903b6783dcc3e9bb895d1ffe6700209b88b43", func := "casket/casketlaw08.ArgonKeys", spec := "argonKeys", unfollowed := true, recurses := true, apart := false }
def ArgonKeysSaid : Prop := argonKeysRow.holds Try.pinned (OpenSpec.ofChange argonKeysSpec)

/-- ITS FALSE NEIGHBOUR: 'it returns false'. Refute it at one input. -/
def argonKeysWrong : ChangeSpec := { name := "argonKeys", fn := fun _ => fun
  | [d1, d2, d3] => { results := [.lit (.bool false)], args := [d1, d2, d3] }
  | _ => none }
def ArgonKeysWrongFalsely : Prop := argonKeysRow.holds Try.pinned (OpenSpec.ofChange argonKeysWrong)

/-- 'casketlaw08.ArgonSeeds': WHATEVER THE INPUT: true; the input reads as it did. -/
def argonSeedsSpec : ChangeSpec := { name := "argonSeeds", fn := fun _ => fun
  | [d1, d2, d3] => { results := [.lit (.bool true)], args := [d1, d2, d3] }
  | _ => none }
def argonSeedsRow : OpenClaim := { program := "ytfnfmbikooeiaaa", sum := "6b1e23a352c0884bf6265bf5901903b6783dcc3e9bb895d1ffe6700209b88b43", func := "casket/casketlaw08.ArgonSeeds", spec := "argonSeeds", unfollowed := true, recurses := true, apart := false }
def ArgonSeedsSaid : Prop := argonSeedsRow.holds Try.pinned (OpenSpec.ofChange argonSeedsSpec)

/-- ITS FALSE NEIGHBOUR: 'it returns false'. Refute it at one input. -/
def argonSeedsWrong : ChangeSpec := { name := "argonSeeds", fn := fun _ => fun
  | [d1, d2, d3] => { results := [.lit (.bool false)], args := [d1, d2, d3] }
  | _ => none }
def ArgonSeedsWrongFalsely : Prop := argonSeedsRow.holds Try.pinned (OpenSpec.ofChange argonSeedsWrong)

/-- 'casketlaw08.ArgonAgain': WHATEVER THE INPUT: true; the input reads as it did. -/
def argonAgainSpec : ChangeSpec := { name := "argonAgain", fn := fun _ => fun
  | [d1, d2] => { results := [.lit (.bool true)], args := [d1, d2] }
  | _ => none }
def argonAgainRow : OpenClaim := { program := "ytfnfmbikooeiaaa", sum := "6b1e23a352c0884bf6265bf5901903b6783dcc3e9bb895d1ffe6700209b88b43", func := "casket/casketlaw08.ArgonAgain", spec := "argonAgain", unfollowed := true, recurses := true, apart := false }
def ArgonAgainSaid : Prop := argonAgainRow.holds Try.pinned (OpenSpec.ofChange argonAgainSpec)

/-- ITS FALSE NEIGHBOUR: 'it returns false'. Refute it at one input. -/
def argonAgainWrong : ChangeSpec := { name := "argonAgain", fn := fun _ => fun
  | [d1, d2] => { results := [.lit (.bool false)], args := [d1, d2] }
  | _ => none }
def ArgonAgainWrongFalsely : Prop := argonAgainRow.holds Try.pinned (OpenSpec.ofChange argonAgainWrong)

/-- 'casketlaw08.ArgonCounts': WHATEVER THE INPUT: true; the input reads as it did. -/
def argonCountsSpec : ChangeSpec := { name := "argonCounts", fn := fun _ => fun
  | [d1, d2, d3] => { results := [.lit (.bool true)], args := [d1, d2, d3] }
  | _ => none }
def argonCountsRow : OpenClaim := { program := "ytfnfmbikooeiaaa", sum := "6b1e23a352c0884bf6265bf5901903b6783dcc3e9bb895d1ffe6700209b88b43", func := "casket/casketlaw08.ArgonCounts", spec := "argonCounts", unfollowed := true, recurses := true, apart := false }
def ArgonCountsSaid : Prop := argonCountsRow.holds Try.pinned (OpenSpec.ofChange argonCountsSpec)

/-- ITS FALSE NEIGHBOUR: 'it returns false'. Refute it at one input. -/
def argonCountsWrong : ChangeSpec := { name := "argonCounts", fn := fun _ => fun
  | [d1, d2, d3] => { results := [.lit (.bool false)], args := [d1, d2, d3] }
  | _ => none }
def ArgonCountsWrongFalsely : Prop := argonCountsRow.holds Try.pinned (OpenSpec.ofChange argonCountsWrong)

/- THE SECOND FORM. 'bulk': how many values and letters a reading holds, each counted each time it is reached (what is shared counts as often as it is met; a slice's spare places count too). A statement '..UptoSaid' is the law's where the arguments, and the package variables that the reading takes, are together of bulk at most 1048576: NARROWER than '..Said'. Prove '..Said' where nothing that the law and all that it calls make is longer than what came in: it says more and counts as full. Else prove '..UptoSaid'. A law counts once. -/
mutual
def uptoBulk {H : Type} : DataW H → Nat
  | .lit (.string bytes) => bytes.length + 1
  | .lit _ => 1
  | .nil => 1
  | .ptr d => uptoBulk d + 1
  | .slice elems spare => uptoBulkAll elems + uptoBulkAll spare + 1
  | .agg parts => uptoBulkAll parts + 1
  | .iface _ d => uptoBulk d + 1
  | .map entries => uptoBulkEntries entries + 1
  | .held _ => 1
def uptoBulkAll {H : Type} : List (DataW H) → Nat
  | [] => 0
  | d :: r => uptoBulk d + uptoBulkAll r
def uptoBulkEntries {H : Type} : List (Lit × DataW H) → Nat
  | [] => 0
  | x :: r => uptoBulkEntry x + uptoBulkEntries r
def uptoBulkEntry {H : Type} : Lit × DataW H → Nat
  | (.string bytes, d) => bytes.length + uptoBulk d + 1
  | (_, d) => uptoBulk d + 1
 end
def uptoSmall : (H : Type) → List (DataW H) → Bool := fun _ ds => decide (uptoBulkAll ds ≤ 1048576)
def OpenSpec.upto (s : _root_.Go.ChangeSpec) : _root_.Go.OpenSpec := { _root_.Go.OpenSpec.ofChange s with cond := some uptoSmall }

/-- 'casketlaw06.BlakeSums', WHERE WHAT IT READS IS OF BULK AT MOST 1048576: true; the input reads as it did. -/
def blakeSumsUptoRow : OpenClaim := { program := "ytfnfmbikooeiaaa", sum := "6b1e23a352c0884bf6265bf5901903b6783dcc3e9bb895d1ffe6700209b88b43", func := "casket/casketlaw06.BlakeSums", spec := "blakeSums", apart := false, narrowed := true }
def BlakeSumsUptoSaid : Prop := blakeSumsUptoRow.holds Try.pinned (OpenSpec.upto blakeSumsSpec)

/-- 'casketlaw06.BlakePieces', WHERE WHAT IT READS IS OF BULK AT MOST 1048576: true; the input reads as it did. -/
def blakePiecesUptoRow : OpenClaim := { program := "ytfnfmbikooeiaaa", sum := "6b1e23a352c0884bf6265bf5901903b6783dcc3e9bb895d1ffe6700209b88b43", func := "casket/casketlaw06.BlakePieces", spec := "blakePieces", apart := false, narrowed := true }
def BlakePiecesUptoSaid : Prop := blakePiecesUptoRow.holds Try.pinned (OpenSpec.upto blakePiecesSpec)

/-- 'casketlaw06.BlakeLengths', WHERE WHAT IT READS IS OF BULK AT MOST 1048576: true; the input reads as it did. -/
def blakeLengthsUptoRow : OpenClaim := { program := "ytfnfmbikooeiaaa", sum := "6b1e23a352c0884bf6265bf5901903b6783dcc3e9bb895d1ffe6700209b88b43", func := "casket/casketlaw06.BlakeLengths", spec := "blakeLengths", apart := false, narrowed := true }
def BlakeLengthsUptoSaid : Prop := blakeLengthsUptoRow.holds Try.pinned (OpenSpec.upto blakeLengthsSpec)

/-- 'casketlaw06.BlakeStates', WHERE WHAT IT READS IS OF BULK AT MOST 1048576: true; the input reads as it did. -/
def blakeStatesUptoRow : OpenClaim := { program := "ytfnfmbikooeiaaa", sum := "6b1e23a352c0884bf6265bf5901903b6783dcc3e9bb895d1ffe6700209b88b43", func := "casket/casketlaw06.BlakeStates", spec := "blakeStates", apart := false, narrowed := true }
def BlakeStatesUptoSaid : Prop := blakeStatesUptoRow.holds Try.pinned (OpenSpec.upto blakeStatesSpec)

/-- 'casketlaw06.BlakeWrites', WHERE WHAT IT READS IS OF BULK AT MOST 1048576: true; the input reads as it did. -/
def blakeWritesUptoRow : OpenClaim := { program := "ytfnfmbikooeiaaa", sum := "6b1e23a352c0884bf6265bf5901903b6783dcc3e9bb895d1ffe6700209b88b43", func := "casket/casketlaw06.BlakeWrites", spec := "blakeWrites", apart := false, narrowed := true }
def BlakeWritesUptoSaid : Prop := blakeWritesUptoRow.holds Try.pinned (OpenSpec.upto blakeWritesSpec)

/-- 'casketlaw06.BlakeNobody', WHERE WHAT IT READS IS OF BULK AT MOST 1048576: true; the input reads as it did. -/
def blakeNobodyUptoRow : OpenClaim := { program := "ytfnfmbikooeiaaa", sum := "6b1e23a352c0884bf6265bf5901903b6783dcc3e9bb895d1ffe6700209b88b43", func := "casket/casketlaw06.BlakeNobody", spec := "blakeNobody", apart := false, narrowed := true }
def BlakeNobodyUptoSaid : Prop := blakeNobodyUptoRow.holds Try.pinned (OpenSpec.upto blakeNobodySpec)

/-- 'casketlaw07.MixLong', WHERE WHAT IT READS IS OF BULK AT MOST 1048576: true; the input reads as it did. -/
def mixLongUptoRow : OpenClaim := { program := "ytfnfmbikooeiaaa", sum := "6b1e23a352c0884bf6265bf5901903b6783dcc3e9bb895d1ffe6700209b88b43", func := "casket/casketlaw07.MixLong", spec := "mixLong", unfollowed := true, recurses := true, apart := false, narrowed := true }
def MixLongUptoSaid : Prop := mixLongUptoRow.holds Try.pinned (OpenSpec.upto mixLongSpec)

/-- 'casketlaw07.MixWhich', WHERE WHAT IT READS IS OF BULK AT MOST 1048576: true; the input reads as it did. -/
def mixWhichUptoRow : OpenClaim := { program := "ytfnfmbikooeiaaa", sum := "6b1e23a352c0884bf6265bf5901903b6783dcc3e9bb895d1ffe6700209b88b43", func := "casket/casketlaw07.MixWhich", spec := "mixWhich", unfollowed := true, recurses := true, apart := false, narrowed := true }
def MixWhichUptoSaid : Prop := mixWhichUptoRow.holds Try.pinned (OpenSpec.upto mixWhichSpec)

/-- 'casketlaw07.MixBytes', WHERE WHAT IT READS IS OF BULK AT MOST 1048576: true; the input reads as it did. -/
def mixBytesUptoRow : OpenClaim := { program := "ytfnfmbikooeiaaa", sum := "6b1e23a352c0884bf6265bf5901903b6783dcc3e9bb895d1ffe6700209b88b43", func := "casket/casketlaw07.MixBytes", spec := "mixBytes", unfollowed := true, recurses := true, apart := false, narrowed := true }
def MixBytesUptoSaid : Prop := mixBytesUptoRow.holds Try.pinned (OpenSpec.upto mixBytesSpec)

/-- 'casketlaw07.MixRising', WHERE WHAT IT READS IS OF BULK AT MOST 1048576: true; the input reads as it did. -/
def mixRisingUptoRow : OpenClaim := { program := "ytfnfmbikooeiaaa", sum := "6b1e23a352c0884bf6265bf5901903b6783dcc3e9bb895d1ffe6700209b88b43", func := "casket/casketlaw07.MixRising", spec := "mixRising", unfollowed := true, recurses := true, apart := false, narrowed := true }
def MixRisingUptoSaid : Prop := mixRisingUptoRow.holds Try.pinned (OpenSpec.upto mixRisingSpec)

/-- 'casketlaw07.MixShort', WHERE WHAT IT READS IS OF BULK AT MOST 1048576: true; the input reads as it did. -/
def mixShortUptoRow : OpenClaim := { program := "ytfnfmbikooeiaaa", sum := "6b1e23a352c0884bf6265bf5901903b6783dcc3e9bb895d1ffe6700209b88b43", func := "casket/casketlaw07.MixShort", spec := "mixShort", unfollowed := true, recurses := true, apart := false, narrowed := true }
def MixShortUptoSaid : Prop := mixShortUptoRow.holds Try.pinned (OpenSpec.upto mixShortSpec)

/-- 'casketlaw07.MixPages', WHERE WHAT IT READS IS OF BULK AT MOST 1048576: true; the input reads as it did. -/
def mixPagesUptoRow : OpenClaim := { program := "ytfnfmbikooeiaaa", sum := "6b1e23a352c0884bf6265bf5901903b6783dcc3e9bb895d1ffe6700209b88b43", func := "casket/casketlaw07.MixPages", spec := "mixPages", unfollowed := true, recurses := true, apart := false, narrowed := true }
def MixPagesUptoSaid : Prop := mixPagesUptoRow.holds Try.pinned (OpenSpec.upto mixPagesSpec)

/-- 'casketlaw07.MixRows', WHERE WHAT IT READS IS OF BULK AT MOST 1048576: true; the input reads as it did. -/
def mixRowsUptoRow : OpenClaim := { program := "ytfnfmbikooeiaaa", sum := "6b1e23a352c0884bf6265bf5901903b6783dcc3e9bb895d1ffe6700209b88b43", func := "casket/casketlaw07.MixRows", spec := "mixRows", unfollowed := true, recurses := true, apart := false, narrowed := true }
def MixRowsUptoSaid : Prop := mixRowsUptoRow.holds Try.pinned (OpenSpec.upto mixRowsSpec)

/-- 'casketlaw08.ArgonKeys', WHERE WHAT IT READS IS OF BULK AT MOST 1048576: true; the input reads as it did. -/
def argonKeysUptoRow : OpenClaim := { program := "ytfnfmbikooeiaaa", sum := "6b1e23a352c0884bf6265bf5901903b6783dcc3e9bb895d1ffe6700209b88b43", func := "casket/casketlaw08.ArgonKeys", spec := "argonKeys", unfollowed := true, recurses := true, apart := false, narrowed := true }
def ArgonKeysUptoSaid : Prop := argonKeysUptoRow.holds Try.pinned (OpenSpec.upto argonKeysSpec)

/-- 'casketlaw08.ArgonSeeds', WHERE WHAT IT READS IS OF BULK AT MOST 1048576: true; the input reads as it did. -/
def argonSeedsUptoRow : OpenClaim := { program := "ytfnfmbikooeiaaa", sum := "6b1e23a352c0884bf6265bf5901903b6783dcc3e9bb895d1ffe6700209b88b43", func := "casket/casketlaw08.ArgonSeeds", spec := "argonSeeds", unfollowed := true, recurses := true, apart := false, narrowed := true }
def ArgonSeedsUptoSaid : Prop := argonSeedsUptoRow.holds Try.pinned (OpenSpec.upto argonSeedsSpec)

/-- 'casketlaw08.ArgonAgain', WHERE WHAT IT READS IS OF BULK AT MOST 1048576: true; the input reads as it did. -/
def argonAgainUptoRow : OpenClaim := { program := "ytfnfmbikooeiaaa", sum := "6b1e23a352c0884bf6265bf5901903b6783dcc3e9bb895d1ffe6700209b88b43", func := "casket/casketlaw08.ArgonAgain", spec := "argonAgain", unfollowed := true, recurses := true, apart := false, narrowed := true }
def ArgonAgainUptoSaid : Prop := argonAgainUptoRow.holds Try.pinned (OpenSpec.upto argonAgainSpec)

/-- 'casketlaw08.ArgonCounts', WHERE WHAT IT READS IS OF BULK AT MOST 1048576: true; the input reads as it did. -/
def argonCountsUptoRow : OpenClaim := { program := "ytfnfmbikooeiaaa", sum := "6b1e23a352c0884bf6265bf5901903b6783dcc3e9bb895d1ffe6700209b88b43", func := "casket/casketlaw08.ArgonCounts", spec := "argonCounts", unfollowed := true, recurses := true, apart := false, narrowed := true }
def ArgonCountsUptoSaid : Prop := argonCountsUptoRow.holds Try.pinned (OpenSpec.upto argonCountsSpec)

end Rows
end Go.Proofs.Ytfnfmbikooeiaaa
