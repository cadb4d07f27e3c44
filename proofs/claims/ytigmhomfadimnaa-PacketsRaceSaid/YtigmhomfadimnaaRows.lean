/-
  No cell of these rows narrows 'for every input' (looked for: loops, veiled, ifaces, maps, wideKeys, modest, calm, conditions, laid).
  DERIVED. THE GIVEN ROWS OF THIS SEAT. 15 by the template 'for every input the law returns true; each argument reads behind the call as it read before'; 0 by the template 'total and deterministic' (their statements: YtigmhomfadimnaaTotals.lean).
  GIVEN WITH THE SEED: the statements are not yours to turn. If you find one false, say at which input.
  Laid BY PROGRAM, IN A SANDBOX (cutbox-rows.mjs): the forced cells as the released guide's own fill.sh prints them over the translation 78f55b2e96f18b08… (all of the seat's roots in one cut). By AI agents, Wed Nov 11 2026. No macro, syntax, notation, axiom, sorry.
-/
import Derived.Test.YtigmhomfadimnaaChecked
import GoSem.Claim
import GoSem.ClaimJoined
import GoSem.ClaimMapViews
import Derived.JoinedTies
import Derived.KernelRfl
namespace Go.Proofs.Ytigmhomfadimnaa
/- THE CELL 'sum', in the pinned program and in every row, IS THE sha256 OF THE DUMP (.gsa) THAT YtigmhomfadimnaaProg.lean LOADS. Nothing in Lean hashes anything: it is a label: what it is worth is what the hold of that sum in a sandbox is worth. -/
noncomputable def Try.pinned : Pinned := { name := "ytigmhomfadimnaa", sum := "78f55b2e96f18b0826db316277b074ec213fe337d22bb3c664f316e01ac01148", checked := Try.checked }
namespace Rows
def none {H : Type} : Left H := { results := [], args := [] }

/-- 'comfitlaw04.PacketsEqual': WHATEVER THE INPUT: true; the input reads as it did. -/
def packetsEqualSpec : ChangeSpec := { name := "packetsEqual", fn := fun _ => fun
  | [d1, d2] => { results := [.lit (.bool true)], args := [d1, d2] }
  | _ => none }
def packetsEqualRow : OpenClaim := { program := "ytigmhomfadimnaa", sum := "78f55b2e96f18b0826db316277b074ec213fe337d22bb3c664f316e01ac01148", func := "comfit/comfitlaw04.PacketsEqual", spec := "packetsEqual", unfollowed := true, recurses := true, plainKeys := false, apart := false }
def PacketsEqualSaid : Prop := packetsEqualRow.holds Try.pinned (OpenSpec.ofChange packetsEqualSpec)

/-- ITS FALSE NEIGHBOUR: 'it returns false'. Refute it at one input. -/
def packetsEqualWrong : ChangeSpec := { name := "packetsEqual", fn := fun _ => fun
  | [d1, d2] => { results := [.lit (.bool false)], args := [d1, d2] }
  | _ => none }
def PacketsEqualWrongFalsely : Prop := packetsEqualRow.holds Try.pinned (OpenSpec.ofChange packetsEqualWrong)

/-- 'comfitlaw04.PacketsOne': WHATEVER THE INPUT: true; the input reads as it did. -/
def packetsOneSpec : ChangeSpec := { name := "packetsOne", fn := fun _ => fun
  | [d1, d2, d3] => { results := [.lit (.bool true)], args := [d1, d2, d3] }
  | _ => none }
def packetsOneRow : OpenClaim := { program := "ytigmhomfadimnaa", sum := "78f55b2e96f18b0826db316277b074ec213fe337d22bb3c664f316e01ac01148", func := "comfit/comfitlaw04.PacketsOne", spec := "packetsOne", unfollowed := true, recurses := true, plainKeys := false, apart := false }
def PacketsOneSaid : Prop := packetsOneRow.holds Try.pinned (OpenSpec.ofChange packetsOneSpec)

/-- ITS FALSE NEIGHBOUR: 'it returns false'. Refute it at one input. -/
def packetsOneWrong : ChangeSpec := { name := "packetsOne", fn := fun _ => fun
  | [d1, d2, d3] => { results := [.lit (.bool false)], args := [d1, d2, d3] }
  | _ => none }
def PacketsOneWrongFalsely : Prop := packetsOneRow.holds Try.pinned (OpenSpec.ofChange packetsOneWrong)

/-- 'comfitlaw04.PacketsMeans': WHATEVER THE INPUT: true; the input reads as it did. -/
def packetsMeansSpec : ChangeSpec := { name := "packetsMeans", fn := fun _ => fun
  | [d1, d2, d3] => { results := [.lit (.bool true)], args := [d1, d2, d3] }
  | _ => none }
def packetsMeansRow : OpenClaim := { program := "ytigmhomfadimnaa", sum := "78f55b2e96f18b0826db316277b074ec213fe337d22bb3c664f316e01ac01148", func := "comfit/comfitlaw04.PacketsMeans", spec := "packetsMeans", unfollowed := true, recurses := true, plainKeys := false, apart := false }
def PacketsMeansSaid : Prop := packetsMeansRow.holds Try.pinned (OpenSpec.ofChange packetsMeansSpec)

/-- ITS FALSE NEIGHBOUR: 'it returns false'. Refute it at one input. -/
def packetsMeansWrong : ChangeSpec := { name := "packetsMeans", fn := fun _ => fun
  | [d1, d2, d3] => { results := [.lit (.bool false)], args := [d1, d2, d3] }
  | _ => none }
def PacketsMeansWrongFalsely : Prop := packetsMeansRow.holds Try.pinned (OpenSpec.ofChange packetsMeansWrong)

/-- 'comfitlaw04.PacketsMerged': WHATEVER THE INPUT: true; the input reads as it did. -/
def packetsMergedSpec : ChangeSpec := { name := "packetsMerged", fn := fun _ => fun
  | [d1, d2, d3, d4] => { results := [.lit (.bool true)], args := [d1, d2, d3, d4] }
  | _ => none }
def packetsMergedRow : OpenClaim := { program := "ytigmhomfadimnaa", sum := "78f55b2e96f18b0826db316277b074ec213fe337d22bb3c664f316e01ac01148", func := "comfit/comfitlaw04.PacketsMerged", spec := "packetsMerged", unfollowed := true, recurses := true, plainKeys := false, apart := false }
def PacketsMergedSaid : Prop := packetsMergedRow.holds Try.pinned (OpenSpec.ofChange packetsMergedSpec)

/-- ITS FALSE NEIGHBOUR: 'it returns false'. Refute it at one input. -/
def packetsMergedWrong : ChangeSpec := { name := "packetsMerged", fn := fun _ => fun
  | [d1, d2, d3, d4] => { results := [.lit (.bool false)], args := [d1, d2, d3, d4] }
  | _ => none }
def PacketsMergedWrongFalsely : Prop := packetsMergedRow.holds Try.pinned (OpenSpec.ofChange packetsMergedWrong)

/-- 'comfitlaw04.PacketsKinds': WHATEVER THE INPUT: true; the input reads as it did. -/
def packetsKindsSpec : ChangeSpec := { name := "packetsKinds", fn := fun _ => fun
  | [d1, d2] => { results := [.lit (.bool true)], args := [d1, d2] }
  | _ => none }
def packetsKindsRow : OpenClaim := { program := "ytigmhomfadimnaa", sum := "78f55b2e96f18b0826db316277b074ec213fe337d22bb3c664f316e01ac01148", func := "comfit/comfitlaw04.PacketsKinds", spec := "packetsKinds", unfollowed := true, recurses := true, plainKeys := false, apart := false }
def PacketsKindsSaid : Prop := packetsKindsRow.holds Try.pinned (OpenSpec.ofChange packetsKindsSpec)

/-- ITS FALSE NEIGHBOUR: 'it returns false'. Refute it at one input. -/
def packetsKindsWrong : ChangeSpec := { name := "packetsKinds", fn := fun _ => fun
  | [d1, d2] => { results := [.lit (.bool false)], args := [d1, d2] }
  | _ => none }
def PacketsKindsWrongFalsely : Prop := packetsKindsRow.holds Try.pinned (OpenSpec.ofChange packetsKindsWrong)

/-- 'comfitlaw04.PacketsMerge': WHATEVER THE INPUT: true; the input reads as it did. -/
def packetsMergeSpec : ChangeSpec := { name := "packetsMerge", fn := fun _ => fun
  | [d1, d2, d3] => { results := [.lit (.bool true)], args := [d1, d2, d3] }
  | _ => none }
def packetsMergeRow : OpenClaim := { program := "ytigmhomfadimnaa", sum := "78f55b2e96f18b0826db316277b074ec213fe337d22bb3c664f316e01ac01148", func := "comfit/comfitlaw04.PacketsMerge", spec := "packetsMerge", unfollowed := true, recurses := true, plainKeys := false, apart := false }
def PacketsMergeSaid : Prop := packetsMergeRow.holds Try.pinned (OpenSpec.ofChange packetsMergeSpec)

/-- ITS FALSE NEIGHBOUR: 'it returns false'. Refute it at one input. -/
def packetsMergeWrong : ChangeSpec := { name := "packetsMerge", fn := fun _ => fun
  | [d1, d2, d3] => { results := [.lit (.bool false)], args := [d1, d2, d3] }
  | _ => none }
def PacketsMergeWrongFalsely : Prop := packetsMergeRow.holds Try.pinned (OpenSpec.ofChange packetsMergeWrong)

/-- 'comfitlaw04.PacketsDone': WHATEVER THE INPUT: true; the input reads as it did. -/
def packetsDoneSpec : ChangeSpec := { name := "packetsDone", fn := fun _ => fun
  | [d1, d2, d3] => { results := [.lit (.bool true)], args := [d1, d2, d3] }
  | _ => none }
def packetsDoneRow : OpenClaim := { program := "ytigmhomfadimnaa", sum := "78f55b2e96f18b0826db316277b074ec213fe337d22bb3c664f316e01ac01148", func := "comfit/comfitlaw04.PacketsDone", spec := "packetsDone", unfollowed := true, recurses := true, plainKeys := false, apart := false }
def PacketsDoneSaid : Prop := packetsDoneRow.holds Try.pinned (OpenSpec.ofChange packetsDoneSpec)

/-- ITS FALSE NEIGHBOUR: 'it returns false'. Refute it at one input. -/
def packetsDoneWrong : ChangeSpec := { name := "packetsDone", fn := fun _ => fun
  | [d1, d2, d3] => { results := [.lit (.bool false)], args := [d1, d2, d3] }
  | _ => none }
def PacketsDoneWrongFalsely : Prop := packetsDoneRow.holds Try.pinned (OpenSpec.ofChange packetsDoneWrong)

/-- 'comfitlaw04.PacketsFirst': WHATEVER THE INPUT: true; the input reads as it did. -/
def packetsFirstSpec : ChangeSpec := { name := "packetsFirst", fn := fun _ => fun
  | [d1, d2, d3] => { results := [.lit (.bool true)], args := [d1, d2, d3] }
  | _ => none }
def packetsFirstRow : OpenClaim := { program := "ytigmhomfadimnaa", sum := "78f55b2e96f18b0826db316277b074ec213fe337d22bb3c664f316e01ac01148", func := "comfit/comfitlaw04.PacketsFirst", spec := "packetsFirst", unfollowed := true, recurses := true, plainKeys := false, apart := false }
def PacketsFirstSaid : Prop := packetsFirstRow.holds Try.pinned (OpenSpec.ofChange packetsFirstSpec)

/-- ITS FALSE NEIGHBOUR: 'it returns false'. Refute it at one input. -/
def packetsFirstWrong : ChangeSpec := { name := "packetsFirst", fn := fun _ => fun
  | [d1, d2, d3] => { results := [.lit (.bool false)], args := [d1, d2, d3] }
  | _ => none }
def PacketsFirstWrongFalsely : Prop := packetsFirstRow.holds Try.pinned (OpenSpec.ofChange packetsFirstWrong)

/-- 'comfitlaw04.PacketsGrow': WHATEVER THE INPUT: true; the input reads as it did. -/
def packetsGrowSpec : ChangeSpec := { name := "packetsGrow", fn := fun _ => fun
  | [d1, d2, d3, d4] => { results := [.lit (.bool true)], args := [d1, d2, d3, d4] }
  | _ => none }
def packetsGrowRow : OpenClaim := { program := "ytigmhomfadimnaa", sum := "78f55b2e96f18b0826db316277b074ec213fe337d22bb3c664f316e01ac01148", func := "comfit/comfitlaw04.PacketsGrow", spec := "packetsGrow", unfollowed := true, recurses := true, plainKeys := false, apart := false }
def PacketsGrowSaid : Prop := packetsGrowRow.holds Try.pinned (OpenSpec.ofChange packetsGrowSpec)

/-- ITS FALSE NEIGHBOUR: 'it returns false'. Refute it at one input. -/
def packetsGrowWrong : ChangeSpec := { name := "packetsGrow", fn := fun _ => fun
  | [d1, d2, d3, d4] => { results := [.lit (.bool false)], args := [d1, d2, d3, d4] }
  | _ => none }
def PacketsGrowWrongFalsely : Prop := packetsGrowRow.holds Try.pinned (OpenSpec.ofChange packetsGrowWrong)

/-- 'comfitlaw04.PacketsCount': WHATEVER THE INPUT: true; the input reads as it did. -/
def packetsCountSpec : ChangeSpec := { name := "packetsCount", fn := fun _ => fun
  | [d1, d2] => { results := [.lit (.bool true)], args := [d1, d2] }
  | _ => none }
def packetsCountRow : OpenClaim := { program := "ytigmhomfadimnaa", sum := "78f55b2e96f18b0826db316277b074ec213fe337d22bb3c664f316e01ac01148", func := "comfit/comfitlaw04.PacketsCount", spec := "packetsCount", unfollowed := true, recurses := true, plainKeys := false, apart := false }
def PacketsCountSaid : Prop := packetsCountRow.holds Try.pinned (OpenSpec.ofChange packetsCountSpec)

/-- ITS FALSE NEIGHBOUR: 'it returns false'. Refute it at one input. -/
def packetsCountWrong : ChangeSpec := { name := "packetsCount", fn := fun _ => fun
  | [d1, d2] => { results := [.lit (.bool false)], args := [d1, d2] }
  | _ => none }
def PacketsCountWrongFalsely : Prop := packetsCountRow.holds Try.pinned (OpenSpec.ofChange packetsCountWrong)

/-- 'comfitlaw04.PacketsEnough': WHATEVER THE INPUT: true; the input reads as it did. -/
def packetsEnoughSpec : ChangeSpec := { name := "packetsEnough", fn := fun _ => fun
  | [d1, d2, d3] => { results := [.lit (.bool true)], args := [d1, d2, d3] }
  | _ => none }
def packetsEnoughRow : OpenClaim := { program := "ytigmhomfadimnaa", sum := "78f55b2e96f18b0826db316277b074ec213fe337d22bb3c664f316e01ac01148", func := "comfit/comfitlaw04.PacketsEnough", spec := "packetsEnough", unfollowed := true, recurses := true, plainKeys := false, apart := false }
def PacketsEnoughSaid : Prop := packetsEnoughRow.holds Try.pinned (OpenSpec.ofChange packetsEnoughSpec)

/-- ITS FALSE NEIGHBOUR: 'it returns false'. Refute it at one input. -/
def packetsEnoughWrong : ChangeSpec := { name := "packetsEnough", fn := fun _ => fun
  | [d1, d2, d3] => { results := [.lit (.bool false)], args := [d1, d2, d3] }
  | _ => none }
def PacketsEnoughWrongFalsely : Prop := packetsEnoughRow.holds Try.pinned (OpenSpec.ofChange packetsEnoughWrong)

/-- 'comfitlaw04.PacketsPairs': WHATEVER THE INPUT: true; the input reads as it did. -/
def packetsPairsSpec : ChangeSpec := { name := "packetsPairs", fn := fun _ => fun
  | [d1, d2] => { results := [.lit (.bool true)], args := [d1, d2] }
  | _ => none }
def packetsPairsRow : OpenClaim := { program := "ytigmhomfadimnaa", sum := "78f55b2e96f18b0826db316277b074ec213fe337d22bb3c664f316e01ac01148", func := "comfit/comfitlaw04.PacketsPairs", spec := "packetsPairs", unfollowed := true, recurses := true, plainKeys := false, apart := false }
def PacketsPairsSaid : Prop := packetsPairsRow.holds Try.pinned (OpenSpec.ofChange packetsPairsSpec)

/-- ITS FALSE NEIGHBOUR: 'it returns false'. Refute it at one input. -/
def packetsPairsWrong : ChangeSpec := { name := "packetsPairs", fn := fun _ => fun
  | [d1, d2] => { results := [.lit (.bool false)], args := [d1, d2] }
  | _ => none }
def PacketsPairsWrongFalsely : Prop := packetsPairsRow.holds Try.pinned (OpenSpec.ofChange packetsPairsWrong)

/-- 'comfitlaw04.PacketsTwice': WHATEVER THE INPUT: true; the input reads as it did. -/
def packetsTwiceSpec : ChangeSpec := { name := "packetsTwice", fn := fun _ => fun
  | [d1, d2, d3] => { results := [.lit (.bool true)], args := [d1, d2, d3] }
  | _ => none }
def packetsTwiceRow : OpenClaim := { program := "ytigmhomfadimnaa", sum := "78f55b2e96f18b0826db316277b074ec213fe337d22bb3c664f316e01ac01148", func := "comfit/comfitlaw04.PacketsTwice", spec := "packetsTwice", unfollowed := true, recurses := true, plainKeys := false, apart := false }
def PacketsTwiceSaid : Prop := packetsTwiceRow.holds Try.pinned (OpenSpec.ofChange packetsTwiceSpec)

/-- ITS FALSE NEIGHBOUR: 'it returns false'. Refute it at one input. -/
def packetsTwiceWrong : ChangeSpec := { name := "packetsTwice", fn := fun _ => fun
  | [d1, d2, d3] => { results := [.lit (.bool false)], args := [d1, d2, d3] }
  | _ => none }
def PacketsTwiceWrongFalsely : Prop := packetsTwiceRow.holds Try.pinned (OpenSpec.ofChange packetsTwiceWrong)

/-- 'comfitlaw04.PacketsSum': WHATEVER THE INPUT: true; the input reads as it did. -/
def packetsSumSpec : ChangeSpec := { name := "packetsSum", fn := fun _ => fun
  | [d1, d2, d3] => { results := [.lit (.bool true)], args := [d1, d2, d3] }
  | _ => none }
def packetsSumRow : OpenClaim := { program := "ytigmhomfadimnaa", sum := "78f55b2e96f18b0826db316277b074ec213fe337d22bb3c664f316e01ac01148", func := "comfit/comfitlaw04.PacketsSum", spec := "packetsSum", unfollowed := true, recurses := true, plainKeys := false, apart := false }
def PacketsSumSaid : Prop := packetsSumRow.holds Try.pinned (OpenSpec.ofChange packetsSumSpec)

/-- ITS FALSE NEIGHBOUR: 'it returns false'. Refute it at one input. -/
def packetsSumWrong : ChangeSpec := { name := "packetsSum", fn := fun _ => fun
  | [d1, d2, d3] => { results := [.lit (.bool false)], args := [d1, d2, d3] }
  | _ => none }
def PacketsSumWrongFalsely : Prop := packetsSumRow.holds Try.pinned (OpenSpec.ofChange packetsSumWrong)

/-- 'comfitlaw04.PacketsRace': WHATEVER THE INPUT: true; the input reads as it did. -/
def packetsRaceSpec : ChangeSpec := { name := "packetsRace", fn := fun _ => fun
  | [d1, d2, d3] => { results := [.lit (.bool true)], args := [d1, d2, d3] }
  | _ => none }
def packetsRaceRow : OpenClaim := { program := "ytigmhomfadimnaa", sum := "78f55b2e96f18b0826db316277b074ec213fe337d22bb3c664f316e01ac01148", func := "comfit/comfitlaw04.PacketsRace", spec := "packetsRace", unfollowed := true, recurses := true, plainKeys := false, apart := false }
def PacketsRaceSaid : Prop := packetsRaceRow.holds Try.pinned (OpenSpec.ofChange packetsRaceSpec)

/-- ITS FALSE NEIGHBOUR: 'it returns false'. Refute it at one input. -/
def packetsRaceWrong : ChangeSpec := { name := "packetsRace", fn := fun _ => fun
  | [d1, d2, d3] => { results := [.lit (.bool false)], args := [d1, d2, d3] }
  | _ => none }
def PacketsRaceWrongFalsely : Prop := packetsRaceRow.holds Try.pinned (OpenSpec.ofChange packetsRaceWrong)

/- THE SECOND FORM. 'bulk': how many values and letters a reading holds, each counted each time it is reached (what is shared counts as often as it is met; a slice's spare places count too). A statement '..UptoSaid' is the law's where the arguments, and the package variables that the reading takes, are together of bulk at most 1048576: NARROWER than '..Said'. Prove '..Said' where nothing that the law and all that it calls make is longer than what came in: it says more and counts as full. Else prove '..UptoSaid'. A law counts once. -/
mutual
def uptoBulk {H : Type} : DataW H → Nat
  | .lit (.string bytes) => bytes.length + 1
  | .lit _ => 1
  | .nil => 1
  | .ptr d => uptoBulk d + 1
  | .slice elems spare => uptoBulkAll elems + uptoBulkAll spare + 1
  | .agg parts => uptoBulkAll parts + 1
  | .iface _ d => uptoBulk d + 1
  | .map entries => uptoBulkEntries entries + 1
  | .held _ => 1
def uptoBulkAll {H : Type} : List (DataW H) → Nat
  | [] => 0
  | d :: r => uptoBulk d + uptoBulkAll r
def uptoBulkEntries {H : Type} : List (Lit × DataW H) → Nat
  | [] => 0
  | x :: r => uptoBulkEntry x + uptoBulkEntries r
def uptoBulkEntry {H : Type} : Lit × DataW H → Nat
  | (.string bytes, d) => bytes.length + uptoBulk d + 1
  | (_, d) => uptoBulk d + 1
 end
def uptoSmall : (H : Type) → List (DataW H) → Bool := fun _ ds => decide (uptoBulkAll ds ≤ 1048576)
def OpenSpec.upto (s : _root_.Go.ChangeSpec) : _root_.Go.OpenSpec := { _root_.Go.OpenSpec.ofChange s with cond := some uptoSmall }

/-- 'comfitlaw04.PacketsEqual', WHERE WHAT IT READS IS OF BULK AT MOST 1048576: true; the input reads as it did. -/
def packetsEqualUptoRow : OpenClaim := { program := "ytigmhomfadimnaa", sum := "78f55b2e96f18b0826db316277b074ec213fe337d22bb3c664f316e01ac01148", func := "comfit/comfitlaw04.PacketsEqual", spec := "packetsEqual", unfollowed := true, recurses := true, plainKeys := false, apart := false, narrowed := true }
def PacketsEqualUptoSaid : Prop := packetsEqualUptoRow.holds Try.pinned (OpenSpec.upto packetsEqualSpec)

/-- 'comfitlaw04.PacketsOne', WHERE WHAT IT READS IS OF BULK AT MOST 1048576: true; the input reads as it did. -/
def packetsOneUptoRow : OpenClaim := { program := "ytigmhomfadimnaa", sum := "78f55b2e96f18b0826db316277b074ec213fe337d22bb3c664f316e01ac01148", func := "comfit/comfitlaw04.PacketsOne", spec := "packetsOne", unfollowed := true, recurses := true, plainKeys := false, apart := false, narrowed := true }
def PacketsOneUptoSaid : Prop := packetsOneUptoRow.holds Try.pinned (OpenSpec.upto packetsOneSpec)

/-- 'comfitlaw04.PacketsMeans', WHERE WHAT IT READS IS OF BULK AT MOST 1048576: true; the input reads as it did. -/
def packetsMeansUptoRow : OpenClaim := { program := "ytigmhomfadimnaa", sum := "78f55b2e96f18b0826db316277b074ec213fe337d22bb3c664f316e01ac01148", func := "comfit/comfitlaw04.PacketsMeans", spec := "packetsMeans", unfollowed := true, recurses := true, plainKeys := false, apart := false, narrowed := true }
def PacketsMeansUptoSaid : Prop := packetsMeansUptoRow.holds Try.pinned (OpenSpec.upto packetsMeansSpec)

/-- 'comfitlaw04.PacketsMerged', WHERE WHAT IT READS IS OF BULK AT MOST 1048576: true; the input reads as it did. -/
def packetsMergedUptoRow : OpenClaim := { program := "ytigmhomfadimnaa", sum := "78f55b2e96f18b0826db316277b074ec213fe337d22bb3c664f316e01ac01148", func := "comfit/comfitlaw04.PacketsMerged", spec := "packetsMerged", unfollowed := true, recurses := true, plainKeys := false, apart := false, narrowed := true }
def PacketsMergedUptoSaid : Prop := packetsMergedUptoRow.holds Try.pinned (OpenSpec.upto packetsMergedSpec)

/-- 'comfitlaw04.PacketsKinds', WHERE WHAT IT READS IS OF BULK AT MOST 1048576: true; the input reads as it did. -/
def packetsKindsUptoRow : OpenClaim := { program := "ytigmhomfadimnaa", sum := "78f55b2e96f18b0826db316277b074ec213fe337d22bb3c664f316e01ac01148", func := "comfit/comfitlaw04.PacketsKinds", spec := "packetsKinds", unfollowed := true, recurses := true, plainKeys := false, apart := false, narrowed := true }
def PacketsKindsUptoSaid : Prop := packetsKindsUptoRow.holds Try.pinned (OpenSpec.upto packetsKindsSpec)

/-- 'comfitlaw04.PacketsMerge', WHERE WHAT IT READS IS OF BULK AT MOST 1048576: true; the input reads as it did. -/
def packetsMergeUptoRow : OpenClaim := { program := "ytigmhomfadimnaa", sum := "78f55b2e96f18b0826db316277b074ec213fe337d22bb3c664f316e01ac01148", func := "comfit/comfitlaw04.PacketsMerge", spec := "packetsMerge", unfollowed := true, recurses := true, plainKeys := false, apart := false, narrowed := true }
def PacketsMergeUptoSaid : Prop := packetsMergeUptoRow.holds Try.pinned (OpenSpec.upto packetsMergeSpec)

/-- 'comfitlaw04.PacketsDone', WHERE WHAT IT READS IS OF BULK AT MOST 1048576: true; the input reads as it did. -/
def packetsDoneUptoRow : OpenClaim := { program := "ytigmhomfadimnaa", sum := "78f55b2e96f18b0826db316277b074ec213fe337d22bb3c664f316e01ac01148", func := "comfit/comfitlaw04.PacketsDone", spec := "packetsDone", unfollowed := true, recurses := true, plainKeys := false, apart := false, narrowed := true }
def PacketsDoneUptoSaid : Prop := packetsDoneUptoRow.holds Try.pinned (OpenSpec.upto packetsDoneSpec)

/-- 'comfitlaw04.PacketsFirst', WHERE WHAT IT READS IS OF BULK AT MOST 1048576: true; the input reads as it did. -/
def packetsFirstUptoRow : OpenClaim := { program := "ytigmhomfadimnaa", sum := "78f55b2e96f18b0826db316277b074ec213fe337d22bb3c664f316e01ac01148", func := "comfit/comfitlaw04.PacketsFirst", spec := "packetsFirst", unfollowed := true, recurses := true, plainKeys := false, apart := false, narrowed := true }
def PacketsFirstUptoSaid : Prop := packetsFirstUptoRow.holds Try.pinned (OpenSpec.upto packetsFirstSpec)

/-- 'comfitlaw04.PacketsGrow', WHERE WHAT IT READS IS OF BULK AT MOST 1048576: true; the input reads as it did. -/
def packetsGrowUptoRow : OpenClaim := { program := "ytigmhomfadimnaa", sum := "78f55b2e96f18b0826db316277b074ec213fe337d22bb3c664f316e01ac01148", func := "comfit/comfitlaw04.PacketsGrow", spec := "packetsGrow", unfollowed := true, recurses := true, plainKeys := false, apart := false, narrowed := true }
def PacketsGrowUptoSaid : Prop := packetsGrowUptoRow.holds Try.pinned (OpenSpec.upto packetsGrowSpec)

/-- 'comfitlaw04.PacketsCount', WHERE WHAT IT READS IS OF BULK AT MOST 1048576: true; the input reads as it did. -/
def packetsCountUptoRow : OpenClaim := { program := "ytigmhomfadimnaa", sum := "78f55b2e96f18b0826db316277b074ec213fe337d22bb3c664f316e01ac01148", func := "comfit/comfitlaw04.PacketsCount", spec := "packetsCount", unfollowed := true, recurses := true, plainKeys := false, apart := false, narrowed := true }
def PacketsCountUptoSaid : Prop := packetsCountUptoRow.holds Try.pinned (OpenSpec.upto packetsCountSpec)

/-- 'comfitlaw04.PacketsEnough', WHERE WHAT IT READS IS OF BULK AT MOST 1048576: true; the input reads as it did. -/
def packetsEnoughUptoRow : OpenClaim := { program := "ytigmhomfadimnaa", sum := "78f55b2e96f18b0826db316277b074ec213fe337d22bb3c664f316e01ac01148", func := "comfit/comfitlaw04.PacketsEnough", spec := "packetsEnough", unfollowed := true, recurses := true, plainKeys := false, apart := false, narrowed := true }
def PacketsEnoughUptoSaid : Prop := packetsEnoughUptoRow.holds Try.pinned (OpenSpec.upto packetsEnoughSpec)

/-- 'comfitlaw04.PacketsPairs', WHERE WHAT IT READS IS OF BULK AT MOST 1048576: true; the input reads as it did. -/
def packetsPairsUptoRow : OpenClaim := { program := "ytigmhomfadimnaa", sum := "78f55b2e96f18b0826db316277b074ec213fe337d22bb3c664f316e01ac01148", func := "comfit/comfitlaw04.PacketsPairs", spec := "packetsPairs", unfollowed := true, recurses := true, plainKeys := false, apart := false, narrowed := true }
def PacketsPairsUptoSaid : Prop := packetsPairsUptoRow.holds Try.pinned (OpenSpec.upto packetsPairsSpec)

/-- 'comfitlaw04.PacketsTwice', WHERE WHAT IT READS IS OF BULK AT MOST 1048576: true; the input reads as it did. -/
def packetsTwiceUptoRow : OpenClaim := { program := "ytigmhomfadimnaa", sum := "78f55b2e96f18b0826db316277b074ec213fe337d22bb3c664f316e01ac01148", func := "comfit/comfitlaw04.PacketsTwice", spec := "packetsTwice", unfollowed := true, recurses := true, plainKeys := false, apart := false, narrowed := true }
def PacketsTwiceUptoSaid : Prop := packetsTwiceUptoRow.holds Try.pinned (OpenSpec.upto packetsTwiceSpec)

/-- 'comfitlaw04.PacketsSum', WHERE WHAT IT READS IS OF BULK AT MOST 1048576: true; the input reads as it did. -/
def packetsSumUptoRow : OpenClaim := { program := "ytigmhomfadimnaa", sum := "78f55b2e96f18b0826db316277b074ec213fe337d22bb3c664f316e01ac01148", func := "comfit/comfitlaw04.PacketsSum", spec := "packetsSum", unfollowed := true, recurses := true, plainKeys := false, apart := false, narrowed := true }
def PacketsSumUptoSaid : Prop := packetsSumUptoRow.holds Try.pinned (OpenSpec.upto packetsSumSpec)

/-- 'comfitlaw04.PacketsRace', WHERE WHAT IT READS IS OF BULK AT MOST 1048576: true; the input reads as it did. -/
def packetsRaceUptoRow : OpenClaim := { program := "ytigmhomfadimnaa", sum := "78f55b2e96f18b0826db316277b074ec213fe337d22bb3c664f316e01ac01148", func := "comfit/comfitlaw04.PacketsRace", spec := "packetsRace", unfollowed := true, recurses := true, plainKeys := false, apart := false, narrowed := true }
def PacketsRaceUptoSaid : Prop := packetsRaceUptoRow.holds Try.pinned (OpenSpec.upto packetsRaceSpec)

end Rows
end Go.Proofs.Ytigmhomfadimnaa
