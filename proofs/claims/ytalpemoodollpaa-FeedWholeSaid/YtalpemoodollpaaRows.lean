/-
  No cell of these rows narrows 'for every input' (looked for: loops, veiled, ifaces, maps, wideKeys, modest, calm, conditions, laid).
  DERIVED. THE GIVEN ROWS OF THIS SEAT. 22 by the template 'for every input the law returns true; each argument reads behind the call as it read before'; 0 by the template 'total and deterministic' (their statements: YtalpemoodollpaaTotals.lean).
  GIVEN WITH THE SEED: the statements are not yours to turn. If you find one false, say at which input.
  Laid BY PROGRAM, IN A SANDBOX (cutbox-rows.mjs): the forced cells as the released guide's own fill.sh prints them over the translation 5cacdf117e32d446… (all of the seat's roots in one cut). By AI agents, Wed Nov 11 2026. No macro, syntax, notation, axiom, sorry.
-/
import Derived.Test.YtalpemoodollpaaChecked
import GoSem.Claim
import GoSem.ClaimJoined
import GoSem.ClaimMapViews
import Derived.JoinedTies
import Derived.KernelRfl
namespace Go.Proofs.Ytalpemoodollpaa
/- THE CELL 'sum', in the pinned program and in every row, IS THE sha256 OF THE DUMP (.gsa) THAT YtalpemoodollpaaProg.lean LOADS. Nothing in Lean hashes anything: it is a label: what it is worth is what the hold of that sum in a sandbox is worth. -/
noncomputable def Try.pinned : Pinned := { name := "ytalpemoodollpaa", sum := "5cacdf117e32d4466505a76bf7120dd1039cdbe61b46f3cc66708047003a41a1", checked := Try.checked }
namespace Rows
def none {H : Type} : Left H := { results := [], args := [] }

/-- 'damperlaw26.FeedGaps': WHATEVER THE INPUT: true; the input reads as it did. -/
def feedGapsSpec : ChangeSpec := { name := "feedGaps", fn := fun _ => fun
  | [d] => { results := [.lit (.bool true)], args := [d] }
  | _ => none }
def feedGapsRow : OpenClaim := { program := "ytalpemoodollpaa", sum := "5cacdf117e32d4466505a76bf7120dd1039cdbe61b46f3cc66708047003a41a1", func := "damper/damperlaw26.FeedGaps", spec := "feedGaps", apart := false }
def FeedGapsSaid : Prop := feedGapsRow.holds Try.pinned (OpenSpec.ofChange feedGapsSpec)

/-- ITS FALSE NEIGHBOUR: 'it returns false'. Refute it at one input. -/
def feedGapsWrong : ChangeSpec := { name := "feedGaps", fn := fun _ => fun
  | [d] => { results := [.lit (.bool false)], args := [d] }
  | _ => none }
def FeedGapsWrongFalsely : Prop := feedGapsRow.holds Try.pinned (OpenSpec.ofChange feedGapsWrong)

/-- 'damperlaw06.MessageEncodes': WHATEVER THE INPUT: true; the input reads as it did. -/
def messageEncodesSpec : ChangeSpec := { name := "messageEncodes", fn := fun _ => fun
  | [d1, d2, d3] => { results := [.lit (.bool true)], args := [d1, d2, d3] }
  | _ => none }
def messageEncodesRow : OpenClaim := { program := "ytalpemoodollpaa", sum := "5cacdf117e32d4466505a76bf7120dd1039cdbe61b46f3cc66708047003a41a1", func := "damper/damperlaw06.MessageEncodes", spec := "messageEncodes", unfollowed := true, recurses := true, apart := false }
def MessageEncodesSaid : Prop := messageEncodesRow.holds Try.pinned (OpenSpec.ofChange messageEncodesSpec)

/-- ITS FALSE NEIGHBOUR: 'it returns false'. Refute it at one input. -/
def messageEncodesWrong : ChangeSpec := { name := "messageEncodes", fn := fun _ => fun
  | [d1, d2, d3] => { results := [.lit (.bool false)], args := [d1, d2, d3] }
  | _ => none }
def MessageEncodesWrongFalsely : Prop := messageEncodesRow.holds Try.pinned (OpenSpec.ofChange messageEncodesWrong)

/-- 'damperlaw03.OctetsApart': WHATEVER THE INPUT: true; the input reads as it did. -/
def octetsApartSpec : ChangeSpec := { name := "octetsApart", fn := fun _ => fun
  | [d1, d2, d3, d4] => { results := [.lit (.bool true)], args := [d1, d2, d3, d4] }
  | _ => none }
def octetsApartRow : OpenClaim := { program := "ytalpemoodollpaa", sum := "5cacdf117e32d4466505a76bf7120dd1039cdbe61b46f3cc66708047003a41a1", func := "damper/damperlaw03.OctetsApart", spec := "octetsApart", unfollowed := true, recurses := true, apart := false }
def OctetsApartSaid : Prop := octetsApartRow.holds Try.pinned (OpenSpec.ofChange octetsApartSpec)

/-- ITS FALSE NEIGHBOUR: 'it returns false'. Refute it at one input. -/
def octetsApartWrong : ChangeSpec := { name := "octetsApart", fn := fun _ => fun
  | [d1, d2, d3, d4] => { results := [.lit (.bool false)], args := [d1, d2, d3, d4] }
  | _ => none }
def OctetsApartWrongFalsely : Prop := octetsApartRow.holds Try.pinned (OpenSpec.ofChange octetsApartWrong)

/-- 'damperlaw03.OctetsPuts': WHATEVER THE INPUT: true; the input reads as it did. -/
def octetsPutsSpec : ChangeSpec := { name := "octetsPuts", fn := fun _ => fun
  | [d] => { results := [.lit (.bool true)], args := [d] }
  | _ => none }
def octetsPutsRow : OpenClaim := { program := "ytalpemoodollpaa", sum := "5cacdf117e32d4466505a76bf7120dd1039cdbe61b46f3cc66708047003a41a1", func := "damper/damperlaw03.OctetsPuts", spec := "octetsPuts", unfollowed := true, recurses := true, apart := false }
def OctetsPutsSaid : Prop := octetsPutsRow.holds Try.pinned (OpenSpec.ofChange octetsPutsSpec)

/-- ITS FALSE NEIGHBOUR: 'it returns false'. Refute it at one input. -/
def octetsPutsWrong : ChangeSpec := { name := "octetsPuts", fn := fun _ => fun
  | [d] => { results := [.lit (.bool false)], args := [d] }
  | _ => none }
def OctetsPutsWrongFalsely : Prop := octetsPutsRow.holds Try.pinned (OpenSpec.ofChange octetsPutsWrong)

/-- 'damperlaw04.FrameTakes': WHATEVER THE INPUT: true; the input reads as it did. -/
def frameTakesSpec : ChangeSpec := { name := "frameTakes", fn := fun _ => fun
  | [d1, d2] => { results := [.lit (.bool true)], args := [d1, d2] }
  | _ => none }
def frameTakesRow : OpenClaim := { program := "ytalpemoodollpaa", sum := "5cacdf117e32d4466505a76bf7120dd1039cdbe61b46f3cc66708047003a41a1", func := "damper/damperlaw04.FrameTakes", spec := "frameTakes", apart := false }
def FrameTakesSaid : Prop := frameTakesRow.holds Try.pinned (OpenSpec.ofChange frameTakesSpec)

/-- ITS FALSE NEIGHBOUR: 'it returns false'. Refute it at one input. -/
def frameTakesWrong : ChangeSpec := { name := "frameTakes", fn := fun _ => fun
  | [d1, d2] => { results := [.lit (.bool false)], args := [d1, d2] }
  | _ => none }
def FrameTakesWrongFalsely : Prop := frameTakesRow.holds Try.pinned (OpenSpec.ofChange frameTakesWrong)

/-- 'damperlaw29.ScriptBack': WHATEVER THE INPUT: true; the input reads as it did. -/
def scriptBackSpec : ChangeSpec := { name := "scriptBack", fn := fun _ => fun
  | [d1, d2] => { results := [.lit (.bool true)], args := [d1, d2] }
  | _ => none }
def scriptBackRow : OpenClaim := { program := "ytalpemoodollpaa", sum := "5cacdf117e32d4466505a76bf7120dd1039cdbe61b46f3cc66708047003a41a1", func := "damper/damperlaw29.ScriptBack", spec := "scriptBack", unfollowed := true, recurses := true, apart := false }
def ScriptBackSaid : Prop := scriptBackRow.holds Try.pinned (OpenSpec.ofChange scriptBackSpec)

/-- ITS FALSE NEIGHBOUR: 'it returns false'. Refute it at one input. -/
def scriptBackWrong : ChangeSpec := { name := "scriptBack", fn := fun _ => fun
  | [d1, d2] => { results := [.lit (.bool false)], args := [d1, d2] }
  | _ => none }
def ScriptBackWrongFalsely : Prop := scriptBackRow.holds Try.pinned (OpenSpec.ofChange scriptBackWrong)

/-- 'damperlaw04.FrameEach': WHATEVER THE INPUT: true; the input reads as it did. -/
def frameEachSpec : ChangeSpec := { name := "frameEach", fn := fun _ => fun
  | [d1, d2] => { results := [.lit (.bool true)], args := [d1, d2] }
  | _ => none }
def frameEachRow : OpenClaim := { program := "ytalpemoodollpaa", sum := "5cacdf117e32d4466505a76bf7120dd1039cdbe61b46f3cc66708047003a41a1", func := "damper/damperlaw04.FrameEach", spec := "frameEach", unfollowed := true, recurses := true, apart := false }
def FrameEachSaid : Prop := frameEachRow.holds Try.pinned (OpenSpec.ofChange frameEachSpec)

/-- ITS FALSE NEIGHBOUR: 'it returns false'. Refute it at one input. -/
def frameEachWrong : ChangeSpec := { name := "frameEach", fn := fun _ => fun
  | [d1, d2] => { results := [.lit (.bool false)], args := [d1, d2] }
  | _ => none }
def FrameEachWrongFalsely : Prop := frameEachRow.holds Try.pinned (OpenSpec.ofChange frameEachWrong)

/-- 'damperlaw26.FeedWhole': WHATEVER THE INPUT: true; the input reads as it did. -/
def feedWholeSpec : ChangeSpec := { name := "feedWhole", fn := fun _ => fun
  | [d1, d2] => { results := [.lit (.bool true)], args := [d1, d2] }
  | _ => none }
def feedWholeRow : OpenClaim := { program := "ytalpemoodollpaa", sum := "5cacdf117e32d4466505a76bf7120dd1039cdbe61b46f3cc66708047003a41a1", func := "damper/damperlaw26.FeedWhole", spec := "feedWhole", unfollowed := true, recurses := true, apart := false }
def FeedWholeSaid : Prop := feedWholeRow.holds Try.pinned (OpenSpec.ofChange feedWholeSpec)

/-- ITS FALSE NEIGHBOUR: 'it returns false'. Refute it at one input. -/
def feedWholeWrong : ChangeSpec := { name := "feedWhole", fn := fun _ => fun
  | [d1, d2] => { results := [.lit (.bool false)], args := [d1, d2] }
  | _ => none }
def FeedWholeWrongFalsely : Prop := feedWholeRow.holds Try.pinned (OpenSpec.ofChange feedWholeWrong)

/-- 'damperlaw03.OctetsReads': WHATEVER THE INPUT: true; the input reads as it did. -/
def octetsReadsSpec : ChangeSpec := { name := "octetsReads", fn := fun _ => fun
  | [d1, d2] => { results := [.lit (.bool true)], args := [d1, d2] }
  | _ => none }
def octetsReadsRow : OpenClaim := { program := "ytalpemoodollpaa", sum := "5cacdf117e32d4466505a76bf7120dd1039cdbe61b46f3cc66708047003a41a1", func := "damper/damperlaw03.OctetsReads", spec := "octetsReads", unfollowed := true, recurses := true, apart := false }
def OctetsReadsSaid : Prop := octetsReadsRow.holds Try.pinned (OpenSpec.ofChange octetsReadsSpec)

/-- ITS FALSE NEIGHBOUR: 'it returns false'. Refute it at one input. -/
def octetsReadsWrong : ChangeSpec := { name := "octetsReads", fn := fun _ => fun
  | [d1, d2] => { results := [.lit (.bool false)], args := [d1, d2] }
  | _ => none }
def OctetsReadsWrongFalsely : Prop := octetsReadsRow.holds Try.pinned (OpenSpec.ofChange octetsReadsWrong)

/-- 'damperlaw03.OctetsBack': WHATEVER THE INPUT: true; the input reads as it did. -/
def octetsBackSpec : ChangeSpec := { name := "octetsBack", fn := fun _ => fun
  | [d1, d2] => { results := [.lit (.bool true)], args := [d1, d2] }
  | _ => none }
def octetsBackRow : OpenClaim := { program := "ytalpemoodollpaa", sum := "5cacdf117e32d4466505a76bf7120dd1039cdbe61b46f3cc66708047003a41a1", func := "damper/damperlaw03.OctetsBack", spec := "octetsBack", unfollowed := true, recurses := true, apart := false }
def OctetsBackSaid : Prop := octetsBackRow.holds Try.pinned (OpenSpec.ofChange octetsBackSpec)

/-- ITS FALSE NEIGHBOUR: 'it returns false'. Refute it at one input. -/
def octetsBackWrong : ChangeSpec := { name := "octetsBack", fn := fun _ => fun
  | [d1, d2] => { results := [.lit (.bool false)], args := [d1, d2] }
  | _ => none }
def OctetsBackWrongFalsely : Prop := octetsBackRow.holds Try.pinned (OpenSpec.ofChange octetsBackWrong)

/-- 'damperlaw29.ScriptEncodes': WHATEVER THE INPUT: true; the input reads as it did. -/
def scriptEncodesSpec : ChangeSpec := { name := "scriptEncodes", fn := fun _ => fun
  | [d1, d2] => { results := [.lit (.bool true)], args := [d1, d2] }
  | _ => none }
def scriptEncodesRow : OpenClaim := { program := "ytalpemoodollpaa", sum := "5cacdf117e32d4466505a76bf7120dd1039cdbe61b46f3cc66708047003a41a1", func := "damper/damperlaw29.ScriptEncodes", spec := "scriptEncodes", unfollowed := true, recurses := true, apart := false }
def ScriptEncodesSaid : Prop := scriptEncodesRow.holds Try.pinned (OpenSpec.ofChange scriptEncodesSpec)

/-- ITS FALSE NEIGHBOUR: 'it returns false'. Refute it at one input. -/
def scriptEncodesWrong : ChangeSpec := { name := "scriptEncodes", fn := fun _ => fun
  | [d1, d2] => { results := [.lit (.bool false)], args := [d1, d2] }
  | _ => none }
def ScriptEncodesWrongFalsely : Prop := scriptEncodesRow.holds Try.pinned (OpenSpec.ofChange scriptEncodesWrong)

/-- 'damperlaw05.CommandDecodes': WHATEVER THE INPUT: true; the input reads as it did. -/
def commandDecodesSpec : ChangeSpec := { name := "commandDecodes", fn := fun _ => fun
  | [d] => { results := [.lit (.bool true)], args := [d] }
  | _ => none }
def commandDecodesRow : OpenClaim := { program := "ytalpemoodollpaa", sum := "5cacdf117e32d4466505a76bf7120dd1039cdbe61b46f3cc66708047003a41a1", func := "damper/damperlaw05.CommandDecodes", spec := "commandDecodes", unfollowed := true, recurses := true, apart := false }
def CommandDecodesSaid : Prop := commandDecodesRow.holds Try.pinned (OpenSpec.ofChange commandDecodesSpec)

/-- ITS FALSE NEIGHBOUR: 'it returns false'. Refute it at one input. -/
def commandDecodesWrong : ChangeSpec := { name := "commandDecodes", fn := fun _ => fun
  | [d] => { results := [.lit (.bool false)], args := [d] }
  | _ => none }
def CommandDecodesWrongFalsely : Prop := commandDecodesRow.holds Try.pinned (OpenSpec.ofChange commandDecodesWrong)

/-- 'damperlaw04.FrameJoins': WHATEVER THE INPUT: true; the input reads as it did. -/
def frameJoinsSpec : ChangeSpec := { name := "frameJoins", fn := fun _ => fun
  | [d] => { results := [.lit (.bool true)], args := [d] }
  | _ => none }
def frameJoinsRow : OpenClaim := { program := "ytalpemoodollpaa", sum := "5cacdf117e32d4466505a76bf7120dd1039cdbe61b46f3cc66708047003a41a1", func := "damper/damperlaw04.FrameJoins", spec := "frameJoins", apart := false }
def FrameJoinsSaid : Prop := frameJoinsRow.holds Try.pinned (OpenSpec.ofChange frameJoinsSpec)

/-- ITS FALSE NEIGHBOUR: 'it returns false'. Refute it at one input. -/
def frameJoinsWrong : ChangeSpec := { name := "frameJoins", fn := fun _ => fun
  | [d] => { results := [.lit (.bool false)], args := [d] }
  | _ => none }
def FrameJoinsWrongFalsely : Prop := frameJoinsRow.holds Try.pinned (OpenSpec.ofChange frameJoinsWrong)

/-- 'damperlaw04.FrameCuts': WHATEVER THE INPUT: true; the input reads as it did. -/
def frameCutsSpec : ChangeSpec := { name := "frameCuts", fn := fun _ => fun
  | [d1, d2] => { results := [.lit (.bool true)], args := [d1, d2] }
  | _ => none }
def frameCutsRow : OpenClaim := { program := "ytalpemoodollpaa", sum := "5cacdf117e32d4466505a76bf7120dd1039cdbe61b46f3cc66708047003a41a1", func := "damper/damperlaw04.FrameCuts", spec := "frameCuts", apart := false }
def FrameCutsSaid : Prop := frameCutsRow.holds Try.pinned (OpenSpec.ofChange frameCutsSpec)

/-- ITS FALSE NEIGHBOUR: 'it returns false'. Refute it at one input. -/
def frameCutsWrong : ChangeSpec := { name := "frameCuts", fn := fun _ => fun
  | [d1, d2] => { results := [.lit (.bool false)], args := [d1, d2] }
  | _ => none }
def FrameCutsWrongFalsely : Prop := frameCutsRow.holds Try.pinned (OpenSpec.ofChange frameCutsWrong)

/-- 'damperlaw29.ScriptCommands': WHATEVER THE INPUT: true; the input reads as it did. -/
def scriptCommandsSpec : ChangeSpec := { name := "scriptCommands", fn := fun _ => fun
  | [d] => { results := [.lit (.bool true)], args := [d] }
  | _ => none }
def scriptCommandsRow : OpenClaim := { program := "ytalpemoodollpaa", sum := "5cacdf117e32d4466505a76bf7120dd1039cdbe61b46f3cc66708047003a41a1", func := "damper/damperlaw29.ScriptCommands", spec := "scriptCommands", unfollowed := true, recurses := true, apart := false }
def ScriptCommandsSaid : Prop := scriptCommandsRow.holds Try.pinned (OpenSpec.ofChange scriptCommandsSpec)

/-- ITS FALSE NEIGHBOUR: 'it returns false'. Refute it at one input. -/
def scriptCommandsWrong : ChangeSpec := { name := "scriptCommands", fn := fun _ => fun
  | [d] => { results := [.lit (.bool false)], args := [d] }
  | _ => none }
def ScriptCommandsWrongFalsely : Prop := scriptCommandsRow.holds Try.pinned (OpenSpec.ofChange scriptCommandsWrong)

/-- 'damperlaw06.MessageDecodes': WHATEVER THE INPUT: true; the input reads as it did. -/
def messageDecodesSpec : ChangeSpec := { name := "messageDecodes", fn := fun _ => fun
  | [d] => { results := [.lit (.bool true)], args := [d] }
  | _ => none }
def messageDecodesRow : OpenClaim := { program := "ytalpemoodollpaa", sum := "5cacdf117e32d4466505a76bf7120dd1039cdbe61b46f3cc66708047003a41a1", func := "damper/damperlaw06.MessageDecodes", spec := "messageDecodes", unfollowed := true, recurses := true, apart := false }
def MessageDecodesSaid : Prop := messageDecodesRow.holds Try.pinned (OpenSpec.ofChange messageDecodesSpec)

/-- ITS FALSE NEIGHBOUR: 'it returns false'. Refute it at one input. -/
def messageDecodesWrong : ChangeSpec := { name := "messageDecodes", fn := fun _ => fun
  | [d] => { results := [.lit (.bool false)], args := [d] }
  | _ => none }
def MessageDecodesWrongFalsely : Prop := messageDecodesRow.holds Try.pinned (OpenSpec.ofChange messageDecodesWrong)

/-- 'damperlaw26.FeedSince': WHATEVER THE INPUT: true; the input reads as it did. -/
def feedSinceSpec : ChangeSpec := { name := "feedSince", fn := fun _ => fun
  | [d1, d2, d3] => { results := [.lit (.bool true)], args := [d1, d2, d3] }
  | _ => none }
def feedSinceRow : OpenClaim := { program := "ytalpemoodollpaa", sum := "5cacdf117e32d4466505a76bf7120dd1039cdbe61b46f3cc66708047003a41a1", func := "damper/damperlaw26.FeedSince", spec := "feedSince", unfollowed := true, recurses := true, apart := false }
def FeedSinceSaid : Prop := feedSinceRow.holds Try.pinned (OpenSpec.ofChange feedSinceSpec)

/-- ITS FALSE NEIGHBOUR: 'it returns false'. Refute it at one input. -/
def feedSinceWrong : ChangeSpec := { name := "feedSince", fn := fun _ => fun
  | [d1, d2, d3] => { results := [.lit (.bool false)], args := [d1, d2, d3] }
  | _ => none }
def FeedSinceWrongFalsely : Prop := feedSinceRow.holds Try.pinned (OpenSpec.ofChange feedSinceWrong)

/-- 'damperlaw05.CommandBack': WHATEVER THE INPUT: true; the input reads as it did. -/
def commandBackSpec : ChangeSpec := { name := "commandBack", fn := fun _ => fun
  | [d1, d2, d3] => { results := [.lit (.bool true)], args := [d1, d2, d3] }
  | _ => none }
def commandBackRow : OpenClaim := { program := "ytalpemoodollpaa", sum := "5cacdf117e32d4466505a76bf7120dd1039cdbe61b46f3cc66708047003a41a1", func := "damper/damperlaw05.CommandBack", spec := "commandBack", unfollowed := true, recurses := true, apart := false }
def CommandBackSaid : Prop := commandBackRow.holds Try.pinned (OpenSpec.ofChange commandBackSpec)

/-- ITS FALSE NEIGHBOUR: 'it returns false'. Refute it at one input. -/
def commandBackWrong : ChangeSpec := { name := "commandBack", fn := fun _ => fun
  | [d1, d2, d3] => { results := [.lit (.bool false)], args := [d1, d2, d3] }
  | _ => none }
def CommandBackWrongFalsely : Prop := commandBackRow.holds Try.pinned (OpenSpec.ofChange commandBackWrong)

/-- 'damperlaw05.CommandEncodes': WHATEVER THE INPUT: true; the input reads as it did. -/
def commandEncodesSpec : ChangeSpec := { name := "commandEncodes", fn := fun _ => fun
  | [d1, d2] => { results := [.lit (.bool true)], args := [d1, d2] }
  | _ => none }
def commandEncodesRow : OpenClaim := { program := "ytalpemoodollpaa", sum := "5cacdf117e32d4466505a76bf7120dd1039cdbe61b46f3cc66708047003a41a1", func := "damper/damperlaw05.CommandEncodes", spec := "commandEncodes", unfollowed := true, recurses := true, apart := false }
def CommandEncodesSaid : Prop := commandEncodesRow.holds Try.pinned (OpenSpec.ofChange commandEncodesSpec)

/-- ITS FALSE NEIGHBOUR: 'it returns false'. Refute it at one input. -/
def commandEncodesWrong : ChangeSpec := { name := "commandEncodes", fn := fun _ => fun
  | [d1, d2] => { results := [.lit (.bool false)], args := [d1, d2] }
  | _ => none }
def CommandEncodesWrongFalsely : Prop := commandEncodesRow.holds Try.pinned (OpenSpec.ofChange commandEncodesWrong)

/-- 'damperlaw29.ScriptReads': WHATEVER THE INPUT: true; the input reads as it did. -/
def scriptReadsSpec : ChangeSpec := { name := "scriptReads", fn := fun _ => fun
  | [d] => { results := [.lit (.bool true)], args := [d] }
  | _ => none }
def scriptReadsRow : OpenClaim := { program := "ytalpemoodollpaa", sum := "5cacdf117e32d4466505a76bf7120dd1039cdbe61b46f3cc66708047003a41a1", func := "damper/damperlaw29.ScriptReads", spec := "scriptReads", unfollowed := true, recurses := true, apart := false }
def ScriptReadsSaid : Prop := scriptReadsRow.holds Try.pinned (OpenSpec.ofChange scriptReadsSpec)

/-- ITS FALSE NEIGHBOUR: 'it returns false'. Refute it at one input. -/
def scriptReadsWrong : ChangeSpec := { name := "scriptReads", fn := fun _ => fun
  | [d] => { results := [.lit (.bool false)], args := [d] }
  | _ => none }
def ScriptReadsWrongFalsely : Prop := scriptReadsRow.holds Try.pinned (OpenSpec.ofChange scriptReadsWrong)

/-- 'damperlaw06.MessageStreams': WHATEVER THE INPUT: true; the input reads as it did. -/
def messageStreamsSpec : ChangeSpec := { name := "messageStreams", fn := fun _ => fun
  | [d1, d2] => { results := [.lit (.bool true)], args := [d1, d2] }
  | _ => none }
def messageStreamsRow : OpenClaim := { program := "ytalpemoodollpaa", sum := "5cacdf117e32d4466505a76bf7120dd1039cdbe61b46f3cc66708047003a41a1", func := "damper/damperlaw06.MessageStreams", spec := "messageStreams", unfollowed := true, recurses := true, apart := false }
def MessageStreamsSaid : Prop := messageStreamsRow.holds Try.pinned (OpenSpec.ofChange messageStreamsSpec)

/-- ITS FALSE NEIGHBOUR: 'it returns false'. Refute it at one input. -/
def messageStreamsWrong : ChangeSpec := { name := "messageStreams", fn := fun _ => fun
  | [d1, d2] => { results := [.lit (.bool false)], args := [d1, d2] }
  | _ => none }
def MessageStreamsWrongFalsely : Prop := messageStreamsRow.holds Try.pinned (OpenSpec.ofChange messageStreamsWrong)

/-- 'damperlaw06.MessageBack': WHATEVER THE INPUT: true; the input reads as it did. -/
def messageBackSpec : ChangeSpec := { name := "messageBack", fn := fun _ => fun
  | [d1, d2] => { results := [.lit (.bool true)], args := [d1, d2] }
  | _ => none }
def messageBackRow : OpenClaim := { program := "ytalpemoodollpaa", sum := "5cacdf117e32d4466505a76bf7120dd1039cdbe61b46f3cc66708047003a41a1", func := "damper/damperlaw06.MessageBack", spec := "messageBack", unfollowed := true, recurses := true, apart := false }
def MessageBackSaid : Prop := messageBackRow.holds Try.pinned (OpenSpec.ofChange messageBackSpec)

/-- ITS FALSE NEIGHBOUR: 'it returns false'. Refute it at one input. -/
def messageBackWrong : ChangeSpec := { name := "messageBack", fn := fun _ => fun
  | [d1, d2] => { results := [.lit (.bool false)], args := [d1, d2] }
  | _ => none }
def MessageBackWrongFalsely : Prop := messageBackRow.holds Try.pinned (OpenSpec.ofChange messageBackWrong)

/- THE SECOND FORM. 'bulk': how many values and letters a reading holds, each counted each time it is reached (what is shared counts as often as it is met; a slice's spare places count too). A statement '..UptoSaid' is the law's where the arguments, and the package variables that the reading takes, are together of bulk at most 1048576: NARROWER than '..Said'. Prove '..Said' where nothing that the law and all that it calls make is longer than what came in: it says more and counts as full. Else prove '..UptoSaid'. A law counts once. -/
mutual
def uptoBulk {H : Type} : DataW H → Nat
  | .lit (.string bytes) => bytes.length + 1
  | .lit _ => 1
  | .nil => 1
  | .ptr d => uptoBulk d + 1
  | .slice elems spare => uptoBulkAll elems + uptoBulkAll spare + 1
  | .agg parts => uptoBulkAll parts + 1
  | .iface _ d => uptoBulk d + 1
  | .map entries => uptoBulkEntries entries + 1
  | .held _ => 1
def uptoBulkAll {H : Type} : List (DataW H) → Nat
  | [] => 0
  | d :: r => uptoBulk d + uptoBulkAll r
def uptoBulkEntries {H : Type} : List (Lit × DataW H) → Nat
  | [] => 0
  | x :: r => uptoBulkEntry x + uptoBulkEntries r
def uptoBulkEntry {H : Type} : Lit × DataW H → Nat
  | (.string bytes, d) => bytes.length + uptoBulk d + 1
  | (_, d) => uptoBulk d + 1
 end
def uptoSmall : (H : Type) → List (DataW H) → Bool := fun _ ds => decide (uptoBulkAll ds ≤ 1048576)
def OpenSpec.upto (s : _root_.Go.ChangeSpec) : _root_.Go.OpenSpec := { _root_.Go.OpenSpec.ofChange s with cond := some uptoSmall }

/-- 'damperlaw26.FeedGaps', WHERE WHAT IT READS IS OF BULK AT MOST 1048576: true; the input reads as it did. -/
def feedGapsUptoRow : OpenClaim := { program := "ytalpemoodollpaa", sum := "5cacdf117e32d4466505a76bf7120dd1039cdbe61b46f3cc66708047003a41a1", func := "damper/damperlaw26.FeedGaps", spec := "feedGaps", apart := false, narrowed := true }
def FeedGapsUptoSaid : Prop := feedGapsUptoRow.holds Try.pinned (OpenSpec.upto feedGapsSpec)

/-- 'damperlaw06.MessageEncodes', WHERE WHAT IT READS IS OF BULK AT MOST 1048576: true; the input reads as it did. -/
def messageEncodesUptoRow : OpenClaim := { program := "ytalpemoodollpaa", sum := "5cacdf117e32d4466505a76bf7120dd1039cdbe61b46f3cc66708047003a41a1", func := "damper/damperlaw06.MessageEncodes", spec := "messageEncodes", unfollowed := true, recurses := true, apart := false, narrowed := true }
def MessageEncodesUptoSaid : Prop := messageEncodesUptoRow.holds Try.pinned (OpenSpec.upto messageEncodesSpec)

/-- 'damperlaw03.OctetsApart', WHERE WHAT IT READS IS OF BULK AT MOST 1048576: true; the input reads as it did. -/
def octetsApartUptoRow : OpenClaim := { program := "ytalpemoodollpaa", sum := "5cacdf117e32d4466505a76bf7120dd1039cdbe61b46f3cc66708047003a41a1", func := "damper/damperlaw03.OctetsApart", spec := "octetsApart", unfollowed := true, recurses := true, apart := false, narrowed := true }
def OctetsApartUptoSaid : Prop := octetsApartUptoRow.holds Try.pinned (OpenSpec.upto octetsApartSpec)

/-- 'damperlaw03.OctetsPuts', WHERE WHAT IT READS IS OF BULK AT MOST 1048576: true; the input reads as it did. -/
def octetsPutsUptoRow : OpenClaim := { program := "ytalpemoodollpaa", sum := "5cacdf117e32d4466505a76bf7120dd1039cdbe61b46f3cc66708047003a41a1", func := "damper/damperlaw03.OctetsPuts", spec := "octetsPuts", unfollowed := true, recurses := true, apart := false, narrowed := true }
def OctetsPutsUptoSaid : Prop := octetsPutsUptoRow.holds Try.pinned (OpenSpec.upto octetsPutsSpec)

/-- 'damperlaw04.FrameTakes', WHERE WHAT IT READS IS OF BULK AT MOST 1048576: true; the input reads as it did. -/
def frameTakesUptoRow : OpenClaim := { program := "ytalpemoodollpaa", sum := "5cacdf117e32d4466505a76bf7120dd1039cdbe61b46f3cc66708047003a41a1", func := "damper/damperlaw04.FrameTakes", spec := "frameTakes", apart := false, narrowed := true }
def FrameTakesUptoSaid : Prop := frameTakesUptoRow.holds Try.pinned (OpenSpec.upto frameTakesSpec)

/-- 'damperlaw29.ScriptBack', WHERE WHAT IT READS IS OF BULK AT MOST 1048576: true; the input reads as it did. -/
def scriptBackUptoRow : OpenClaim := { program := "ytalpemoodollpaa", sum := "5cacdf117e32d4466505a76bf7120dd1039cdbe61b46f3cc66708047003a41a1", func := "damper/damperlaw29.ScriptBack", spec := "scriptBack", unfollowed := true, recurses := true, apart := false, narrowed := true }
def ScriptBackUptoSaid : Prop := scriptBackUptoRow.holds Try.pinned (OpenSpec.upto scriptBackSpec)

/-- 'damperlaw04.FrameEach', WHERE WHAT IT READS IS OF BULK AT MOST 1048576: true; the input reads as it did. -/
def frameEachUptoRow : OpenClaim := { program := "ytalpemoodollpaa", sum := "5cacdf117e32d4466505a76bf7120dd1039cdbe61b46f3cc66708047003a41a1", func := "damper/damperlaw04.FrameEach", spec := "frameEach", unfollowed := true, recurses := true, apart := false, narrowed := true }
def FrameEachUptoSaid : Prop := frameEachUptoRow.holds Try.pinned (OpenSpec.upto frameEachSpec)

/-- 'damperlaw26.FeedWhole', WHERE WHAT IT READS IS OF BULK AT MOST 1048576: true; the input reads as it did. -/
def feedWholeUptoRow : OpenClaim := { program := "ytalpemoodollpaa", sum := "5cacdf117e32d4466505a76bf7120dd1039cdbe61b46f3cc66708047003a41a1", func := "damper/damperlaw26.FeedWhole", spec := "feedWhole", unfollowed := true, recurses := true, apart := false, narrowed := true }
def FeedWholeUptoSaid : Prop := feedWholeUptoRow.holds Try.pinned (OpenSpec.upto feedWholeSpec)

/-- 'damperlaw03.OctetsReads', WHERE WHAT IT READS IS OF BULK AT MOST 1048576: true; the input reads as it did. -/
def octetsReadsUptoRow : OpenClaim := { program := "ytalpemoodollpaa", sum := "5cacdf117e32d4466505a76bf7120dd1039cdbe61b46f3cc66708047003a41a1", func := "damper/damperlaw03.OctetsReads", spec := "octetsReads", unfollowed := true, recurses := true, apart := false, narrowed := true }
def OctetsReadsUptoSaid : Prop := octetsReadsUptoRow.holds Try.pinned (OpenSpec.upto octetsReadsSpec)

/-- 'damperlaw03.OctetsBack', WHERE WHAT IT READS IS OF BULK AT MOST 1048576: true; the input reads as it did. -/
def octetsBackUptoRow : OpenClaim := { program := "ytalpemoodollpaa", sum := "5cacdf117e32d4466505a76bf7120dd1039cdbe61b46f3cc66708047003a41a1", func := "damper/damperlaw03.OctetsBack", spec := "octetsBack", unfollowed := true, recurses := true, apart := false, narrowed := true }
def OctetsBackUptoSaid : Prop := octetsBackUptoRow.holds Try.pinned (OpenSpec.upto octetsBackSpec)

/-- 'damperlaw29.ScriptEncodes', WHERE WHAT IT READS IS OF BULK AT MOST 1048576: true; the input reads as it did. -/
def scriptEncodesUptoRow : OpenClaim := { program := "ytalpemoodollpaa", sum := "5cacdf117e32d4466505a76bf7120dd1039cdbe61b46f3cc66708047003a41a1", func := "damper/damperlaw29.ScriptEncodes", spec := "scriptEncodes", unfollowed := true, recurses := true, apart := false, narrowed := true }
def ScriptEncodesUptoSaid : Prop := scriptEncodesUptoRow.holds Try.pinned (OpenSpec.upto scriptEncodesSpec)

/-- 'damperlaw05.CommandDecodes', WHERE WHAT IT READS IS OF BULK AT MOST 1048576: true; the input reads as it did. -/
def commandDecodesUptoRow : OpenClaim := { program := "ytalpemoodollpaa", sum := "5cacdf117e32d4466505a76bf7120dd1039cdbe61b46f3cc66708047003a41a1", func := "damper/damperlaw05.CommandDecodes", spec := "commandDecodes", unfollowed := true, recurses := true, apart := false, narrowed := true }
def CommandDecodesUptoSaid : Prop := commandDecodesUptoRow.holds Try.pinned (OpenSpec.upto commandDecodesSpec)

/-- 'damperlaw04.FrameJoins', WHERE WHAT IT READS IS OF BULK AT MOST 1048576: true; the input reads as it did. -/
def frameJoinsUptoRow : OpenClaim := { program := "ytalpemoodollpaa", sum := "5cacdf117e32d4466505a76bf7120dd1039cdbe61b46f3cc66708047003a41a1", func := "damper/damperlaw04.FrameJoins", spec := "frameJoins", apart := false, narrowed := true }
def FrameJoinsUptoSaid : Prop := frameJoinsUptoRow.holds Try.pinned (OpenSpec.upto frameJoinsSpec)

/-- 'damperlaw04.FrameCuts', WHERE WHAT IT READS IS OF BULK AT MOST 1048576: true; the input reads as it did. -/
def frameCutsUptoRow : OpenClaim := { program := "ytalpemoodollpaa", sum := "5cacdf117e32d4466505a76bf7120dd1039cdbe61b46f3cc66708047003a41a1", func := "damper/damperlaw04.FrameCuts", spec := "frameCuts", apart := false, narrowed := true }
def FrameCutsUptoSaid : Prop := frameCutsUptoRow.holds Try.pinned (OpenSpec.upto frameCutsSpec)

/-- 'damperlaw29.ScriptCommands', WHERE WHAT IT READS IS OF BULK AT MOST 1048576: true; the input reads as it did. -/
def scriptCommandsUptoRow : OpenClaim := { program := "ytalpemoodollpaa", sum := "5cacdf117e32d4466505a76bf7120dd1039cdbe61b46f3cc66708047003a41a1", func := "damper/damperlaw29.ScriptCommands", spec := "scriptCommands", unfollowed := true, recurses := true, apart := false, narrowed := true }
def ScriptCommandsUptoSaid : Prop := scriptCommandsUptoRow.holds Try.pinned (OpenSpec.upto scriptCommandsSpec)

/-- 'damperlaw06.MessageDecodes', WHERE WHAT IT READS IS OF BULK AT MOST 1048576: true; the input reads as it did. -/
def messageDecodesUptoRow : OpenClaim := { program := "ytalpemoodollpaa", sum := "5cacdf117e32d4466505a76bf7120dd1039cdbe61b46f3cc66708047003a41a1", func := "damper/damperlaw06.MessageDecodes", spec := "messageDecodes", unfollowed := true, recurses := true, apart := false, narrowed := true }
def MessageDecodesUptoSaid : Prop := messageDecodesUptoRow.holds Try.pinned (OpenSpec.upto messageDecodesSpec)

/-- 'damperlaw26.FeedSince', WHERE WHAT IT READS IS OF BULK AT MOST 1048576: true; the input reads as it did. -/
def feedSinceUptoRow : OpenClaim := { program := "ytalpemoodollpaa", sum := "5cacdf117e32d4466505a76bf7120dd1039cdbe61b46f3cc66708047003a41a1", func := "damper/damperlaw26.FeedSince", spec := "feedSince", unfollowed := true, recurses := true, apart := false, narrowed := true }
def FeedSinceUptoSaid : Prop := feedSinceUptoRow.holds Try.pinned (OpenSpec.upto feedSinceSpec)

/-- 'damperlaw05.CommandBack', WHERE WHAT IT READS IS OF BULK AT MOST 1048576: true; the input reads as it did. -/
def commandBackUptoRow : OpenClaim := { program := "ytalpemoodollpaa", sum := "5cacdf117e32d4466505a76bf7120dd1039cdbe61b46f3cc66708047003a41a1", func := "damper/damperlaw05.CommandBack", spec := "commandBack", unfollowed := true, recurses := true, apart := false, narrowed := true }
def CommandBackUptoSaid : Prop := commandBackUptoRow.holds Try.pinned (OpenSpec.upto commandBackSpec)

/-- 'damperlaw05.CommandEncodes', WHERE WHAT IT READS IS OF BULK AT MOST 1048576: true; the input reads as it did. -/
def commandEncodesUptoRow : OpenClaim := { program := "ytalpemoodollpaa", sum := "5cacdf117e32d4466505a76bf7120dd1039cdbe61b46f3cc66708047003a41a1", func := "damper/damperlaw05.CommandEncodes", spec := "commandEncodes", unfollowed := true, recurses := true, apart := false, narrowed := true }
def CommandEncodesUptoSaid : Prop := commandEncodesUptoRow.holds Try.pinned (OpenSpec.upto commandEncodesSpec)

/-- 'damperlaw29.ScriptReads', WHERE WHAT IT READS IS OF BULK AT MOST 1048576: true; the input reads as it did. -/
def scriptReadsUptoRow : OpenClaim := { program := "ytalpemoodollpaa", sum := "5cacdf117e32d4466505a76bf7120dd1039cdbe61b46f3cc66708047003a41a1", func := "damper/damperlaw29.ScriptReads", spec := "scriptReads", unfollowed := true, recurses := true, apart := false, narrowed := true }
def ScriptReadsUptoSaid : Prop := scriptReadsUptoRow.holds Try.pinned (OpenSpec.upto scriptReadsSpec)

/-- 'damperlaw06.MessageStreams', WHERE WHAT IT READS IS OF BULK AT MOST 1048576: true; the input reads as it did. -/
def messageStreamsUptoRow : OpenClaim := { program := "ytalpemoodollpaa", sum := "5cacdf117e32d4466505a76bf7120dd1039cdbe61b46f3cc66708047003a41a1", func := "damper/damperlaw06.MessageStreams", spec := "messageStreams", unfollowed := true, recurses := true, apart := false, narrowed := true }
def MessageStreamsUptoSaid : Prop := messageStreamsUptoRow.holds Try.pinned (OpenSpec.upto messageStreamsSpec)

/-- 'damperlaw06.MessageBack', WHERE WHAT IT READS IS OF BULK AT MOST 1048576: true; the input reads as it did. -/
def messageBackUptoRow : OpenClaim := { program := "ytalpemoodollpaa", sum := "5cacdf117e32d4466505a76bf7120dd1039cdbe61b46f3cc66708047003a41a1", func := "damper/damperlaw06.MessageBack", spec := "messageBack", unfollowed := true, recurses := true, apart := false, narrowed := true }
def MessageBackUptoSaid : Prop := messageBackUptoRow.holds Try.pinned (OpenSpec.upto messageBackSpec)

end Rows
end Go.Proofs.Ytalpemoodollpaa
