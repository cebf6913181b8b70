/-
  No cell of these rows narrows 'for every input' (looked for: loops, veiled, ifaces, maps, wideKeys, modest, calm, conditions, laid).
  DERIVED. THE GIVEN ROWS OF THIS SEAT. 16 by the template 'for every input the law returns true; each argument reads behind the call as it read before'; 0 by the template 'total and deterministic' (their statements: YtcbceacjhmblnaaGreatTotals.lean).
  GIVEN WITH THE SEED: the statements are not yours to turn. If you find one false, say at which input.
  Laid BY PROGRAM, IN A SANDBOX (cutbox-rows.mjs): the forced cells as the released guide's own fill.sh prints them over the translation 0796815c787f37b6… (all of the seat's roots in one cut). By AI agents, Wed Nov 11 2026. No macro, syntax, notation, axiom, sorry.
-/
import Derived.Test.YtcbceacjhmblnaaGreatChecked
import GoSem.Claim
import GoSem.ClaimJoined
import GoSem.ClaimMapViews
import Derived.JoinedTies
import Derived.KernelRfl
namespace Go.Proofs.YtcbceacjhmblnaaGreat
/- THE CELL 'sum', in the pinned program and in every row, IS THE sha256 OF THE DUMP (.gsa) THAT YtcbceacjhmblnaaGreatProg.lean LOADS. Nothing in Lean hashes anything: it is a label: what it is worth is what the hold of that sum in a sandbox is worth. -/
noncomputable def Tryz.pinned : Pinned := { name := "ytcbceacjhmblnaagreat", sum := "0796815c787f37b650f41e681e75d3a075d9bec0111ea52ff556afbe0e7c48a4", checked := Tryz.checked }
namespace Rows
def none {H : Type} : Left H := { results := [], args := [] }

/-- 'laws.FnWorldHeights': WHATEVER THE INPUT: true; the input reads as it did. -/
def fnWorldHeightsSpec : ChangeSpec := { name := "fnWorldHeights", fn := fun _ => fun
  | [d] => { results := [.lit (.bool true)], args := [d] }
  | _ => none }
def fnWorldHeightsRow : OpenClaim := { program := "ytcbceacjhmblnaagreat", sum := "0796815c787f37b650f41e681e75d3a075d9bec0111ea52ff556afbe0e7c48a4", func := "loop.example/hawser/laws.FnWorldHeights", spec := "fnWorldHeights", inPlace := ["slices.overlaps[int]"], unfollowed := true, recurses := true, apart := false }
def FnWorldHeightsSaid : Prop := fnWorldHeightsRow.holds Tryz.pinned (OpenSpec.ofChange fnWorldHeightsSpec)

/-- ITS FALSE NEIGHBOUR: 'it returns false'. Refute it at one input. -/
def fnWorldHeightsWrong : ChangeSpec := { name := "fnWorldHeights", fn := fun _ => fun
  | [d] => { results := [.lit (.bool false)], args := [d] }
  | _ => none }
def FnWorldHeightsWrongFalsely : Prop := fnWorldHeightsRow.holds Tryz.pinned (OpenSpec.ofChange fnWorldHeightsWrong)

/-- 'laws.FnWorldKnow': WHATEVER THE INPUT: true; the input reads as it did. -/
def fnWorldKnowSpec : ChangeSpec := { name := "fnWorldKnow", fn := fun _ => fun
  | [d] => { results := [.lit (.bool true)], args := [d] }
  | _ => none }
def fnWorldKnowRow : OpenClaim := { program := "ytcbceacjhmblnaagreat", sum := "0796815c787f37b650f41e681e75d3a075d9bec0111ea52ff556afbe0e7c48a4", func := "loop.example/hawser/laws.FnWorldKnow", spec := "fnWorldKnow", inPlace := ["slices.overlaps[int]"], unfollowed := true, recurses := true, apart := false }
def FnWorldKnowSaid : Prop := fnWorldKnowRow.holds Tryz.pinned (OpenSpec.ofChange fnWorldKnowSpec)

/-- ITS FALSE NEIGHBOUR: 'it returns false'. Refute it at one input. -/
def fnWorldKnowWrong : ChangeSpec := { name := "fnWorldKnow", fn := fun _ => fun
  | [d] => { results := [.lit (.bool false)], args := [d] }
  | _ => none }
def FnWorldKnowWrongFalsely : Prop := fnWorldKnowRow.holds Tryz.pinned (OpenSpec.ofChange fnWorldKnowWrong)

/-- 'laws.FnWorldOpen': WHATEVER THE INPUT: true; the input reads as it did. -/
def fnWorldOpenSpec : ChangeSpec := { name := "fnWorldOpen", fn := fun _ => fun
  | [d] => { results := [.lit (.bool true)], args := [d] }
  | _ => none }
def fnWorldOpenRow : OpenClaim := { program := "ytcbceacjhmblnaagreat", sum := "0796815c787f37b650f41e681e75d3a075d9bec0111ea52ff556afbe0e7c48a4", func := "loop.example/hawser/laws.FnWorldOpen", spec := "fnWorldOpen", inPlace := ["slices.overlaps[int]"], unfollowed := true, recurses := true, apart := false }
def FnWorldOpenSaid : Prop := fnWorldOpenRow.holds Tryz.pinned (OpenSpec.ofChange fnWorldOpenSpec)

/-- ITS FALSE NEIGHBOUR: 'it returns false'. Refute it at one input. -/
def fnWorldOpenWrong : ChangeSpec := { name := "fnWorldOpen", fn := fun _ => fun
  | [d] => { results := [.lit (.bool false)], args := [d] }
  | _ => none }
def FnWorldOpenWrongFalsely : Prop := fnWorldOpenRow.holds Tryz.pinned (OpenSpec.ofChange fnWorldOpenWrong)

/-- 'laws.FnWorldSent': WHATEVER THE INPUT: true; the input reads as it did. -/
def fnWorldSentSpec : ChangeSpec := { name := "fnWorldSent", fn := fun _ => fun
  | [d] => { results := [.lit (.bool true)], args := [d] }
  | _ => none }
def fnWorldSentRow : OpenClaim := { program := "ytcbceacjhmblnaagreat", sum := "0796815c787f37b650f41e681e75d3a075d9bec0111ea52ff556afbe0e7c48a4", func := "loop.example/hawser/laws.FnWorldSent", spec := "fnWorldSent", inPlace := ["slices.overlaps[int]"], unfollowed := true, recurses := true, apart := false }
def FnWorldSentSaid : Prop := fnWorldSentRow.holds Tryz.pinned (OpenSpec.ofChange fnWorldSentSpec)

/-- ITS FALSE NEIGHBOUR: 'it returns false'. Refute it at one input. -/
def fnWorldSentWrong : ChangeSpec := { name := "fnWorldSent", fn := fun _ => fun
  | [d] => { results := [.lit (.bool false)], args := [d] }
  | _ => none }
def FnWorldSentWrongFalsely : Prop := fnWorldSentRow.holds Tryz.pinned (OpenSpec.ofChange fnWorldSentWrong)

/-- 'laws.FnWorldTime': WHATEVER THE INPUT: true; the input reads as it did. -/
def fnWorldTimeSpec : ChangeSpec := { name := "fnWorldTime", fn := fun _ => fun
  | [d] => { results := [.lit (.bool true)], args := [d] }
  | _ => none }
def fnWorldTimeRow : OpenClaim := { program := "ytcbceacjhmblnaagreat", sum := "0796815c787f37b650f41e681e75d3a075d9bec0111ea52ff556afbe0e7c48a4", func := "loop.example/hawser/laws.FnWorldTime", spec := "fnWorldTime", inPlace := ["slices.overlaps[int]"], unfollowed := true, recurses := true, apart := false }
def FnWorldTimeSaid : Prop := fnWorldTimeRow.holds Tryz.pinned (OpenSpec.ofChange fnWorldTimeSpec)

/-- ITS FALSE NEIGHBOUR: 'it returns false'. Refute it at one input. -/
def fnWorldTimeWrong : ChangeSpec := { name := "fnWorldTime", fn := fun _ => fun
  | [d] => { results := [.lit (.bool false)], args := [d] }
  | _ => none }
def FnWorldTimeWrongFalsely : Prop := fnWorldTimeRow.holds Tryz.pinned (OpenSpec.ofChange fnWorldTimeWrong)

/-- 'laws.FnWorldTold': WHATEVER THE INPUT: true; the input reads as it did. -/
def fnWorldToldSpec : ChangeSpec := { name := "fnWorldTold", fn := fun _ => fun
  | [d] => { results := [.lit (.bool true)], args := [d] }
  | _ => none }
def fnWorldToldRow : OpenClaim := { program := "ytcbceacjhmblnaagreat", sum := "0796815c787f37b650f41e681e75d3a075d9bec0111ea52ff556afbe0e7c48a4", func := "loop.example/hawser/laws.FnWorldTold", spec := "fnWorldTold", inPlace := ["slices.overlaps[int]"], unfollowed := true, recurses := true, apart := false }
def FnWorldToldSaid : Prop := fnWorldToldRow.holds Tryz.pinned (OpenSpec.ofChange fnWorldToldSpec)

/-- ITS FALSE NEIGHBOUR: 'it returns false'. Refute it at one input. -/
def fnWorldToldWrong : ChangeSpec := { name := "fnWorldTold", fn := fun _ => fun
  | [d] => { results := [.lit (.bool false)], args := [d] }
  | _ => none }
def FnWorldToldWrongFalsely : Prop := fnWorldToldRow.holds Tryz.pinned (OpenSpec.ofChange fnWorldToldWrong)

/-- 'laws.FnWorldVer': WHATEVER THE INPUT: true; the input reads as it did. -/
def fnWorldVerSpec : ChangeSpec := { name := "fnWorldVer", fn := fun _ => fun
  | [d] => { results := [.lit (.bool true)], args := [d] }
  | _ => none }
def fnWorldVerRow : OpenClaim := { program := "ytcbceacjhmblnaagreat", sum := "0796815c787f37b650f41e681e75d3a075d9bec0111ea52ff556afbe0e7c48a4", func := "loop.example/hawser/laws.FnWorldVer", spec := "fnWorldVer", inPlace := ["slices.overlaps[int]"], unfollowed := true, recurses := true, apart := false }
def FnWorldVerSaid : Prop := fnWorldVerRow.holds Tryz.pinned (OpenSpec.ofChange fnWorldVerSpec)

/-- ITS FALSE NEIGHBOUR: 'it returns false'. Refute it at one input. -/
def fnWorldVerWrong : ChangeSpec := { name := "fnWorldVer", fn := fun _ => fun
  | [d] => { results := [.lit (.bool false)], args := [d] }
  | _ => none }
def FnWorldVerWrongFalsely : Prop := fnWorldVerRow.holds Tryz.pinned (OpenSpec.ofChange fnWorldVerWrong)

/-- 'laws.FnWorldWays': WHATEVER THE INPUT: true; the input reads as it did. -/
def fnWorldWaysSpec : ChangeSpec := { name := "fnWorldWays", fn := fun _ => fun
  | [d] => { results := [.lit (.bool true)], args := [d] }
  | _ => none }
def fnWorldWaysRow : OpenClaim := { program := "ytcbceacjhmblnaagreat", sum := "0796815c787f37b650f41e681e75d3a075d9bec0111ea52ff556afbe0e7c48a4", func := "loop.example/hawser/laws.FnWorldWays", spec := "fnWorldWays", inPlace := ["slices.overlaps[int]"], unfollowed := true, recurses := true, apart := false }
def FnWorldWaysSaid : Prop := fnWorldWaysRow.holds Tryz.pinned (OpenSpec.ofChange fnWorldWaysSpec)

/-- ITS FALSE NEIGHBOUR: 'it returns false'. Refute it at one input. -/
def fnWorldWaysWrong : ChangeSpec := { name := "fnWorldWays", fn := fun _ => fun
  | [d] => { results := [.lit (.bool false)], args := [d] }
  | _ => none }
def FnWorldWaysWrongFalsely : Prop := fnWorldWaysRow.holds Tryz.pinned (OpenSpec.ofChange fnWorldWaysWrong)

/-- 'laws.FnWorldOnce': WHATEVER THE INPUT: true; the input reads as it did. -/
def fnWorldOnceSpec : ChangeSpec := { name := "fnWorldOnce", fn := fun _ => fun
  | [d] => { results := [.lit (.bool true)], args := [d] }
  | _ => none }
def fnWorldOnceRow : OpenClaim := { program := "ytcbceacjhmblnaagreat", sum := "0796815c787f37b650f41e681e75d3a075d9bec0111ea52ff556afbe0e7c48a4", func := "loop.example/hawser/laws.FnWorldOnce", spec := "fnWorldOnce", inPlace := ["slices.overlaps[int]"], unfollowed := true, recurses := true, apart := false }
def FnWorldOnceSaid : Prop := fnWorldOnceRow.holds Tryz.pinned (OpenSpec.ofChange fnWorldOnceSpec)

/-- ITS FALSE NEIGHBOUR: 'it returns false'. Refute it at one input. -/
def fnWorldOnceWrong : ChangeSpec := { name := "fnWorldOnce", fn := fun _ => fun
  | [d] => { results := [.lit (.bool false)], args := [d] }
  | _ => none }
def FnWorldOnceWrongFalsely : Prop := fnWorldOnceRow.holds Tryz.pinned (OpenSpec.ofChange fnWorldOnceWrong)

/-- 'laws.FnWorldUnknown': WHATEVER THE INPUT: true; the input reads as it did. -/
def fnWorldUnknownSpec : ChangeSpec := { name := "fnWorldUnknown", fn := fun _ => fun
  | [d] => { results := [.lit (.bool true)], args := [d] }
  | _ => none }
def fnWorldUnknownRow : OpenClaim := { program := "ytcbceacjhmblnaagreat", sum := "0796815c787f37b650f41e681e75d3a075d9bec0111ea52ff556afbe0e7c48a4", func := "loop.example/hawser/laws.FnWorldUnknown", spec := "fnWorldUnknown", inPlace := ["slices.overlaps[int]"], unfollowed := true, recurses := true, apart := false }
def FnWorldUnknownSaid : Prop := fnWorldUnknownRow.holds Tryz.pinned (OpenSpec.ofChange fnWorldUnknownSpec)

/-- ITS FALSE NEIGHBOUR: 'it returns false'. Refute it at one input. -/
def fnWorldUnknownWrong : ChangeSpec := { name := "fnWorldUnknown", fn := fun _ => fun
  | [d] => { results := [.lit (.bool false)], args := [d] }
  | _ => none }
def FnWorldUnknownWrongFalsely : Prop := fnWorldUnknownRow.holds Tryz.pinned (OpenSpec.ofChange fnWorldUnknownWrong)

/-- 'laws.FnPlayCrowd': WHATEVER THE INPUT: true; the input reads as it did. -/
def fnPlayCrowdSpec : ChangeSpec := { name := "fnPlayCrowd", fn := fun _ => fun
  | [d] => { results := [.lit (.bool true)], args := [d] }
  | _ => none }
def fnPlayCrowdRow : OpenClaim := { program := "ytcbceacjhmblnaagreat", sum := "0796815c787f37b650f41e681e75d3a075d9bec0111ea52ff556afbe0e7c48a4", func := "loop.example/hawser/laws.FnPlayCrowd", spec := "fnPlayCrowd", inPlace := ["slices.overlaps[int]"], unfollowed := true, recurses := true, apart := false }
def FnPlayCrowdSaid : Prop := fnPlayCrowdRow.holds Tryz.pinned (OpenSpec.ofChange fnPlayCrowdSpec)

/-- ITS FALSE NEIGHBOUR: 'it returns false'. Refute it at one input. -/
def fnPlayCrowdWrong : ChangeSpec := { name := "fnPlayCrowd", fn := fun _ => fun
  | [d] => { results := [.lit (.bool false)], args := [d] }
  | _ => none }
def FnPlayCrowdWrongFalsely : Prop := fnPlayCrowdRow.holds Tryz.pinned (OpenSpec.ofChange fnPlayCrowdWrong)

/-- 'laws.FnWorldLive': WHATEVER THE INPUT: true; the input reads as it did. -/
def fnWorldLiveSpec : ChangeSpec := { name := "fnWorldLive", fn := fun _ => fun
  | [d] => { results := [.lit (.bool true)], args := [d] }
  | _ => none }
def fnWorldLiveRow : OpenClaim := { program := "ytcbceacjhmblnaagreat", sum := "0796815c787f37b650f41e681e75d3a075d9bec0111ea52ff556afbe0e7c48a4", func := "loop.example/hawser/laws.FnWorldLive", spec := "fnWorldLive", inPlace := ["slices.overlaps[int]"], unfollowed := true, recurses := true, apart := false }
def FnWorldLiveSaid : Prop := fnWorldLiveRow.holds Tryz.pinned (OpenSpec.ofChange fnWorldLiveSpec)

/-- ITS FALSE NEIGHBOUR: 'it returns false'. Refute it at one input. -/
def fnWorldLiveWrong : ChangeSpec := { name := "fnWorldLive", fn := fun _ => fun
  | [d] => { results := [.lit (.bool false)], args := [d] }
  | _ => none }
def FnWorldLiveWrongFalsely : Prop := fnWorldLiveRow.holds Tryz.pinned (OpenSpec.ofChange fnWorldLiveWrong)

/-- 'laws.FnWorldSums': WHATEVER THE INPUT: true; the input reads as it did. -/
def fnWorldSumsSpec : ChangeSpec := { name := "fnWorldSums", fn := fun _ => fun
  | [d] => { results := [.lit (.bool true)], args := [d] }
  | _ => none }
def fnWorldSumsRow : OpenClaim := { program := "ytcbceacjhmblnaagreat", sum := "0796815c787f37b650f41e681e75d3a075d9bec0111ea52ff556afbe0e7c48a4", func := "loop.example/hawser/laws.FnWorldSums", spec := "fnWorldSums", inPlace := ["slices.overlaps[int]"], unfollowed := true, recurses := true, apart := false }
def FnWorldSumsSaid : Prop := fnWorldSumsRow.holds Tryz.pinned (OpenSpec.ofChange fnWorldSumsSpec)

/-- ITS FALSE NEIGHBOUR: 'it returns false'. Refute it at one input. -/
def fnWorldSumsWrong : ChangeSpec := { name := "fnWorldSums", fn := fun _ => fun
  | [d] => { results := [.lit (.bool false)], args := [d] }
  | _ => none }
def FnWorldSumsWrongFalsely : Prop := fnWorldSumsRow.holds Tryz.pinned (OpenSpec.ofChange fnWorldSumsWrong)

/-- 'laws.FnPlayNotes': WHATEVER THE INPUT: true; the input reads as it did. -/
def fnPlayNotesSpec : ChangeSpec := { name := "fnPlayNotes", fn := fun _ => fun
  | [d] => { results := [.lit (.bool true)], args := [d] }
  | _ => none }
def fnPlayNotesRow : OpenClaim := { program := "ytcbceacjhmblnaagreat", sum := "0796815c787f37b650f41e681e75d3a075d9bec0111ea52ff556afbe0e7c48a4", func := "loop.example/hawser/laws.FnPlayNotes", spec := "fnPlayNotes", inPlace := ["slices.overlaps[int]"], unfollowed := true, recurses := true, apart := false }
def FnPlayNotesSaid : Prop := fnPlayNotesRow.holds Tryz.pinned (OpenSpec.ofChange fnPlayNotesSpec)

/-- ITS FALSE NEIGHBOUR: 'it returns false'. Refute it at one input. -/
def fnPlayNotesWrong : ChangeSpec := { name := "fnPlayNotes", fn := fun _ => fun
  | [d] => { results := [.lit (.bool false)], args := [d] }
  | _ => none }
def FnPlayNotesWrongFalsely : Prop := fnPlayNotesRow.holds Tryz.pinned (OpenSpec.ofChange fnPlayNotesWrong)

/-- 'laws.FnWorldAlways': WHATEVER THE INPUT: true; the input reads as it did. -/
def fnWorldAlwaysSpec : ChangeSpec := { name := "fnWorldAlways", fn := fun _ => fun
  | [d1, d2] => { results := [.lit (.bool true)], args := [d1, d2] }
  | _ => none }
def fnWorldAlwaysRow : OpenClaim := { program := "ytcbceacjhmblnaagreat", sum := "0796815c787f37b650f41e681e75d3a075d9bec0111ea52ff556afbe0e7c48a4", func := "loop.example/hawser/laws.FnWorldAlways", spec := "fnWorldAlways", inPlace := ["slices.overlaps[int]"], unfollowed := true, recurses := true, apart := false }
def FnWorldAlwaysSaid : Prop := fnWorldAlwaysRow.holds Tryz.pinned (OpenSpec.ofChange fnWorldAlwaysSpec)

/-- ITS FALSE NEIGHBOUR: 'it returns false'. Refute it at one input. -/
def fnWorldAlwaysWrong : ChangeSpec := { name := "fnWorldAlways", fn := fun _ => fun
  | [d1, d2] => { results := [.lit (.bool false)], args := [d1, d2] }
  | _ => none }
def FnWorldAlwaysWrongFalsely : Prop := fnWorldAlwaysRow.holds Tryz.pinned (OpenSpec.ofChange fnWorldAlwaysWrong)

/-- 'laws.FnWorldMove': WHATEVER THE INPUT: true; the input reads as it did. -/
def fnWorldMoveSpec : ChangeSpec := { name := "fnWorldMove", fn := fun _ => fun
  | [d] => { results := [.lit (.bool true)], args := [d] }
  | _ => none }
def fnWorldMoveRow : OpenClaim := { program := "ytcbceacjhmblnaagreat", sum := "0796815c787f37b650f41e681e75d3a075d9bec0111ea52ff556afbe0e7c48a4", func := "loop.example/hawser/laws.FnWorldMove", spec := "fnWorldMove", inPlace := ["slices.overlaps[int]"], unfollowed := true, recurses := true, apart := false }
def FnWorldMoveSaid : Prop := fnWorldMoveRow.holds Tryz.pinned (OpenSpec.ofChange fnWorldMoveSpec)

/-- ITS FALSE NEIGHBOUR: 'it returns false'. Refute it at one input. -/
def fnWorldMoveWrong : ChangeSpec := { name := "fnWorldMove", fn := fun _ => fun
  | [d] => { results := [.lit (.bool false)], args := [d] }
  | _ => none }
def FnWorldMoveWrongFalsely : Prop := fnWorldMoveRow.holds Tryz.pinned (OpenSpec.ofChange fnWorldMoveWrong)

/- THE SECOND FORM. 'bulk': how many values and letters a reading holds, each counted each time it is reached (what is shared counts as often as it is met; a slice's spare places count too). A statement '..UptoSaid' is the law's where the arguments, and the package variables that the reading takes, are together of bulk at most 1048576: NARROWER than '..Said'. Prove '..Said' where nothing that the law and all that it calls make is longer than what came in: it says more and counts as full. Else prove '..UptoSaid'. A law counts once. -/
mutual
def uptoBulk {H : Type} : DataW H → Nat
  | .lit (.string bytes) => bytes.length + 1
  | .lit _ => 1
  | .nil => 1
  | .ptr d => uptoBulk d + 1
  | .slice elems spare => uptoBulkAll elems + uptoBulkAll spare + 1
  | .agg parts => uptoBulkAll parts + 1
  | .iface _ d => uptoBulk d + 1
  | .map entries => uptoBulkEntries entries + 1
  | .held _ => 1
def uptoBulkAll {H : Type} : List (DataW H) → Nat
  | [] => 0
  | d :: r => uptoBulk d + uptoBulkAll r
def uptoBulkEntries {H : Type} : List (Lit × DataW H) → Nat
  | [] => 0
  | x :: r => uptoBulkEntry x + uptoBulkEntries r
def uptoBulkEntry {H : Type} : Lit × DataW H → Nat
  | (.string bytes, d) => bytes.length + uptoBulk d + 1
  | (_, d) => uptoBulk d + 1
 end
def uptoSmall : (H : Type) → List (DataW H) → Bool := fun _ ds => decide (uptoBulkAll ds ≤ 1048576)
def OpenSpec.upto (s : _root_.Go.ChangeSpec) : _root_.Go.OpenSpec := { _root_.Go.OpenSpec.ofChange s with cond := some uptoSmall }

/-- 'laws.FnWorldHeights', WHERE WHAT IT READS IS OF BULK AT MOST 1048576: true; the input reads as it did. -/
def fnWorldHeightsUptoRow : OpenClaim := { program := "ytcbceacjhmblnaagreat", sum := "0796815c787f37b650f41e681e75d3a075d9bec0111ea52ff556afbe0e7c48a4", func := "loop.example/hawser/laws.FnWorldHeights", spec := "fnWorldHeights", inPlace := ["slices.overlaps[int]"], unfollowed := true, recurses := true, apart := false, narrowed := true }
def FnWorldHeightsUptoSaid : Prop := fnWorldHeightsUptoRow.holds Tryz.pinned (OpenSpec.upto fnWorldHeightsSpec)

/-- 'laws.FnWorldKnow', WHERE WHAT IT READS IS OF BULK AT MOST 1048576: true; the input reads as it did. -/
def fnWorldKnowUptoRow : OpenClaim := { program := "ytcbceacjhmblnaagreat", sum := "0796815c787f37b650f41e681e75d3a075d9bec0111ea52ff556afbe0e7c48a4", func := "loop.example/hawser/laws.FnWorldKnow", spec := "fnWorldKnow", inPlace := ["slices.overlaps[int]"], unfollowed := true, recurses := true, apart := false, narrowed := true }
def FnWorldKnowUptoSaid : Prop := fnWorldKnowUptoRow.holds Tryz.pinned (OpenSpec.upto fnWorldKnowSpec)

/-- 'laws.FnWorldOpen', WHERE WHAT IT READS IS OF BULK AT MOST 1048576: true; the input reads as it did. -/
def fnWorldOpenUptoRow : OpenClaim := { program := "ytcbceacjhmblnaagreat", sum := "0796815c787f37b650f41e681e75d3a075d9bec0111ea52ff556afbe0e7c48a4", func := "loop.example/hawser/laws.FnWorldOpen", spec := "fnWorldOpen", inPlace := ["slices.overlaps[int]"], unfollowed := true, recurses := true, apart := false, narrowed := true }
def FnWorldOpenUptoSaid : Prop := fnWorldOpenUptoRow.holds Tryz.pinned (OpenSpec.upto fnWorldOpenSpec)

/-- 'laws.FnWorldSent', WHERE WHAT IT READS IS OF BULK AT MOST 1048576: true; the input reads as it did. -/
def fnWorldSentUptoRow : OpenClaim := { program := "ytcbceacjhmblnaagreat", sum := "0796815c787f37b650f41e681e75d3a075d9bec0111ea52ff556afbe0e7c48a4", func := "loop.example/hawser/laws.FnWorldSent", spec := "fnWorldSent", inPlace := ["slices.overlaps[int]"], unfollowed := true, recurses := true, apart := false, narrowed := true }
def FnWorldSentUptoSaid : Prop := fnWorldSentUptoRow.holds Tryz.pinned (OpenSpec.upto fnWorldSentSpec)

/-- 'laws.FnWorldTime', WHERE WHAT IT READS IS OF BULK AT MOST 1048576: true; the input reads as it did. -/
def fnWorldTimeUptoRow : OpenClaim := { program := "ytcbceacjhmblnaagreat", sum := "0796815c787f37b650f41e681e75d3a075d9bec0111ea52ff556afbe0e7c48a4", func := "loop.example/hawser/laws.FnWorldTime", spec := "fnWorldTime", inPlace := ["slices.overlaps[int]"], unfollowed := true, recurses := true, apart := false, narrowed := true }
def FnWorldTimeUptoSaid : Prop := fnWorldTimeUptoRow.holds Tryz.pinned (OpenSpec.upto fnWorldTimeSpec)

/-- 'laws.FnWorldTold', WHERE WHAT IT READS IS OF BULK AT MOST 1048576: true; the input reads as it did. -/
def fnWorldToldUptoRow : OpenClaim := { program := "ytcbceacjhmblnaagreat", sum := "0796815c787f37b650f41e681e75d3a075d9bec0111ea52ff556afbe0e7c48a4", func := "loop.example/hawser/laws.FnWorldTold", spec := "fnWorldTold", inPlace := ["slices.overlaps[int]"], unfollowed := true, recurses := true, apart := false, narrowed := true }
def FnWorldToldUptoSaid : Prop := fnWorldToldUptoRow.holds Tryz.pinned (OpenSpec.upto fnWorldToldSpec)

/-- 'laws.FnWorldVer', WHERE WHAT IT READS IS OF BULK AT MOST 1048576: true; the input reads as it did. -/
def fnWorldVerUptoRow : OpenClaim := { program := "ytcbceacjhmblnaagreat", sum := "0796815c787f37b650f41e681e75d3a075d9bec0111ea52ff556afbe0e7c48a4", func := "loop.example/hawser/laws.FnWorldVer", spec := "fnWorldVer", inPlace := ["slices.overlaps[int]"], unfollowed := true, recurses := true, apart := false, narrowed := true }
def FnWorldVerUptoSaid : Prop := fnWorldVerUptoRow.holds Tryz.pinned (OpenSpec.upto fnWorldVerSpec)

/-- 'laws.FnWorldWays', WHERE WHAT IT READS IS OF BULK AT MOST 1048576: true; the input reads as it did. -/
def fnWorldWaysUptoRow : OpenClaim := { program := "ytcbceacjhmblnaagreat", sum := "0796815c787f37b650f41e681e75d3a075d9bec0111ea52ff556afbe0e7c48a4", func := "loop.example/hawser/laws.FnWorldWays", spec := "fnWorldWays", inPlace := ["slices.overlaps[int]"], unfollowed := true, recurses := true, apart := false, narrowed := true }
def FnWorldWaysUptoSaid : Prop := fnWorldWaysUptoRow.holds Tryz.pinned (OpenSpec.upto fnWorldWaysSpec)

/-- 'laws.FnWorldOnce', WHERE WHAT IT READS IS OF BULK AT MOST 1048576: true; the input reads as it did. -/
def fnWorldOnceUptoRow : OpenClaim := { program := "ytcbceacjhmblnaagreat", sum := "0796815c787f37b650f41e681e75d3a075d9bec0111ea52ff556afbe0e7c48a4", func := "loop.example/hawser/laws.FnWorldOnce", spec := "fnWorldOnce", inPlace := ["slices.overlaps[int]"], unfollowed := true, recurses := true, apart := false, narrowed := true }
def FnWorldOnceUptoSaid : Prop := fnWorldOnceUptoRow.holds Tryz.pinned (OpenSpec.upto fnWorldOnceSpec)

/-- 'laws.FnWorldUnknown', WHERE WHAT IT READS IS OF BULK AT MOST 1048576: true; the input reads as it did. -/
def fnWorldUnknownUptoRow : OpenClaim := { program := "ytcbceacjhmblnaagreat", sum := "0796815c787f37b650f41e681e75d3a075d9bec0111ea52ff556afbe0e7c48a4", func := "loop.example/hawser/laws.FnWorldUnknown", spec := "fnWorldUnknown", inPlace := ["slices.overlaps[int]"], unfollowed := true, recurses := true, apart := false, narrowed := true }
def FnWorldUnknownUptoSaid : Prop := fnWorldUnknownUptoRow.holds Tryz.pinned (OpenSpec.upto fnWorldUnknownSpec)

/-- 'laws.FnPlayCrowd', WHERE WHAT IT READS IS OF BULK AT MOST 1048576: true; the input reads as it did. -/
def fnPlayCrowdUptoRow : OpenClaim := { program := "ytcbceacjhmblnaagreat", sum := "0796815c787f37b650f41e681e75d3a075d9bec0111ea52ff556afbe0e7c48a4", func := "loop.example/hawser/laws.FnPlayCrowd", spec := "fnPlayCrowd", inPlace := ["slices.overlaps[int]"], unfollowed := true, recurses := true, apart := false, narrowed := true }
def FnPlayCrowdUptoSaid : Prop := fnPlayCrowdUptoRow.holds Tryz.pinned (OpenSpec.upto fnPlayCrowdSpec)

/-- 'laws.FnWorldLive', WHERE WHAT IT READS IS OF BULK AT MOST 1048576: true; the input reads as it did. -/
def fnWorldLiveUptoRow : OpenClaim := { program := "ytcbceacjhmblnaagreat", sum := "0796815c787f37b650f41e681e75d3a075d9bec0111ea52ff556afbe0e7c48a4", func := "loop.example/hawser/laws.FnWorldLive", spec := "fnWorldLive", inPlace := ["slices.overlaps[int]"], unfollowed := true, recurses := true, apart := false, narrowed := true }
def FnWorldLiveUptoSaid : Prop := fnWorldLiveUptoRow.holds Tryz.pinned (OpenSpec.upto fnWorldLiveSpec)

/-- 'laws.FnWorldSums', WHERE WHAT IT READS IS OF BULK AT MOST 1048576: true; the input reads as it did. -/
def fnWorldSumsUptoRow : OpenClaim := { program := "ytcbceacjhmblnaagreat", sum := "0796815c787f37b650f41e681e75d3a075d9bec0111ea52ff556afbe0e7c48a4", func := "loop.example/hawser/laws.FnWorldSums", spec := "fnWorldSums", inPlace := ["slices.overlaps[int]"], unfollowed := true, recurses := true, apart := false, narrowed := true }
def FnWorldSumsUptoSaid : Prop := fnWorldSumsUptoRow.holds Tryz.pinned (OpenSpec.upto fnWorldSumsSpec)

/-- 'laws.FnPlayNotes', WHERE WHAT IT READS IS OF BULK AT MOST 1048576: true; the input reads as it did. -/
def fnPlayNotesUptoRow : OpenClaim := { program := "ytcbceacjhmblnaagreat", sum := "0796815c787f37b650f41e681e75d3a075d9bec0111ea52ff556afbe0e7c48a4", func := "loop.example/hawser/laws.FnPlayNotes", spec := "fnPlayNotes", inPlace := ["slices.overlaps[int]"], unfollowed := true, recurses := true, apart := false, narrowed := true }
def FnPlayNotesUptoSaid : Prop := fnPlayNotesUptoRow.holds Tryz.pinned (OpenSpec.upto fnPlayNotesSpec)

/-- 'laws.FnWorldAlways', WHERE WHAT IT READS IS OF BULK AT MOST 1048576: true; the input reads as it did. -/
def fnWorldAlwaysUptoRow : OpenClaim := { program := "ytcbceacjhmblnaagreat", sum := "0796815c787f37b650f41e681e75d3a075d9bec0111ea52ff556afbe0e7c48a4", func := "loop.example/hawser/laws.FnWorldAlways", spec := "fnWorldAlways", inPlace := ["slices.overlaps[int]"], unfollowed := true, recurses := true, apart := false, narrowed := true }
def FnWorldAlwaysUptoSaid : Prop := fnWorldAlwaysUptoRow.holds Tryz.pinned (OpenSpec.upto fnWorldAlwaysSpec)

/-- 'laws.FnWorldMove', WHERE WHAT IT READS IS OF BULK AT MOST 1048576: true; the input reads as it did. -/
def fnWorldMoveUptoRow : OpenClaim := { program := "ytcbceacjhmblnaagreat", sum := "0796815c787f37b650f41e681e75d3a075d9bec0111ea52ff556afbe0e7c48a4", func := "loop.example/hawser/laws.FnWorldMove", spec := "fnWorldMove", inPlace := ["slices.overlaps[int]"], unfollowed := true, recurses := true, apart := false, narrowed := true }
def FnWorldMoveUptoSaid : Prop := fnWorldMoveUptoRow.holds Tryz.pinned (OpenSpec.upto fnWorldMoveSpec)

end Rows
end Go.Proofs.YtcbceacjhmblnaaGreat
