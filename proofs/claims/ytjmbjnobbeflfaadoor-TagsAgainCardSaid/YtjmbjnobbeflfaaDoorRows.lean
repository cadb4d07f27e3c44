/-
  NARROWER THAN 'FOR EVERY INPUT', by the rows' own cells (each row's printed sentence says how): TagsAgain: laid · TagsCuts: laid · TagsParts: laid · TagsRound: laid.
  DERIVED. THE GIVEN ROWS OF THIS SEAT. 4 by the template 'for every input the law returns true; each argument reads behind the call as it read before'; 0 by the template 'total and deterministic' (their statements: YtjmbjnobbeflfaaDoorTotals.lean).
  GIVEN WITH THE SEED: the statements are not yours to turn. If you find one false, say at which input.
  Laid BY PROGRAM, IN A SANDBOX (cutbox-rows.mjs): the forced cells as the released guide's own fill.sh prints them over the translation 732c963a00bee251… (all of the seat's roots in one cut). By AI agents, Wed Nov 11 2026. No macro, syntax, notation, axiom, sorry.
-/
import Derived.Test.YtjmbjnobbeflfaaDoorChecked
import GoSem.PinnedTables
import GoSem.Claim
import GoSem.ClaimJoined
import GoSem.ClaimMapViews
import Derived.JoinedTies
import Derived.KernelRfl
namespace Go.Proofs.YtjmbjnobbeflfaaDoor
/- THE CELL 'sum', in the pinned program and in every row, IS THE sha256 OF THE DUMP (.gsa) THAT YtjmbjnobbeflfaaDoorProg.lean LOADS. Nothing in Lean hashes anything: it is a label: what it is worth is what the hold of that sum in a sandbox is worth. -/
noncomputable def Tryd.pinned : Pinned := { name := "ytjmbjnobbeflfaadoor", sum := "732c963a00bee251d58c9f03d84c9df36bbdde917b813643db0bff3ddcd58575", checked := Tryd.checked }
namespace Rows
def none {H : Type} : Left H := { results := [], args := [] }

/- WHAT THE LISTED PACKAGE-LEVEL VARIABLES READ AS WHEN THE CALL BEGINS. Each datum BY PROGRAM (the guide's laid-datum.mjs) off the statement by which the dump's own 'gosem.cut.vars' lays the variable. In a bare row this is a premise. The card (YtjmbjnobbeflfaaDoorCards.lean) ties it to the program's text. -/
def laid_unicode_utf8_acceptRanges {H : Type} : DataW H := .agg [.agg [.lit (.int .u8 128), .lit (.int .u8 191)], .agg [.lit (.int .u8 160), .lit (.int .u8 191)], .agg [.lit (.int .u8 128), .lit (.int .u8 159)], .agg [.lit (.int .u8 144), .lit (.int .u8 191)], .agg [.lit (.int .u8 128), .lit (.int .u8 143)], .agg [.lit (.int .u8 0), .lit (.int .u8 0)], .agg [.lit (.int .u8 0), .lit (.int .u8 0)], .agg [.lit (.int .u8 0), .lit (.int .u8 0)], .agg [.lit (.int .u8 0), .lit (.int .u8 0)], .agg [.lit (.int .u8 0), .lit (.int .u8 0)], .agg [.lit (.int .u8 0), .lit (.int .u8 0)], .agg [.lit (.int .u8 0), .lit (.int .u8 0)], .agg [.lit (.int .u8 0), .lit (.int .u8 0)], .agg [.lit (.int .u8 0), .lit (.int .u8 0)], .agg [.lit (.int .u8 0), .lit (.int .u8 0)], .agg [.lit (.int .u8 0), .lit (.int .u8 0)]]
/-- One of Go's own tables, pinned by name: the form's constant. -/
def laid_unicode_utf8_first : DataW Unit := Go.Pinned.utf8First

/-- 'comfitlaw06.TagsAgain': WHATEVER THE INPUT: true; the input reads as it did. -/
def tagsAgainSpec : ChangeSpec := { name := "tagsAgain", fn := fun _ => fun
  | [d1, d2, d3] => { results := [.lit (.bool true)], args := [d1, d2, d3] }
  | _ => none }
def tagsAgainRow : OpenClaim := { program := "ytjmbjnobbeflfaadoor", sum := "732c963a00bee251d58c9f03d84c9df36bbdde917b813643db0bff3ddcd58575", func := "comfit/comfitlaw06.TagsAgain", spec := "tagsAgain", inPlace := ["internal/bytealg.IndexByteString", "internal/bytealg.IndexString"], unfollowed := true, recurses := true, named := ["unicode/utf8.first", "unicode/utf8.acceptRanges", "internal/bytealg.MaxLen"], apart := false, laid := [("unicode/utf8.acceptRanges", laid_unicode_utf8_acceptRanges), ("unicode/utf8.first", laid_unicode_utf8_first)] }
def TagsAgainSaid : Prop := tagsAgainRow.holds Tryd.pinned (OpenSpec.ofChange tagsAgainSpec)

/-- ITS FALSE NEIGHBOUR: 'it returns false'. Refute it at one input. -/
def tagsAgainWrong : ChangeSpec := { name := "tagsAgain", fn := fun _ => fun
  | [d1, d2, d3] => { results := [.lit (.bool false)], args := [d1, d2, d3] }
  | _ => none }
def TagsAgainWrongFalsely : Prop := tagsAgainRow.holds Tryd.pinned (OpenSpec.ofChange tagsAgainWrong)

/-- 'comfitlaw06.TagsCuts': WHATEVER THE INPUT: true; the input reads as it did. -/
def tagsCutsSpec : ChangeSpec := { name := "tagsCuts", fn := fun _ => fun
  | [d1, d2, d3, d4] => { results := [.lit (.bool true)], args := [d1, d2, d3, d4] }
  | _ => none }
def tagsCutsRow : OpenClaim := { program := "ytjmbjnobbeflfaadoor", sum := "732c963a00bee251d58c9f03d84c9df36bbdde917b813643db0bff3ddcd58575", func := "comfit/comfitlaw06.TagsCuts", spec := "tagsCuts", inPlace := ["internal/bytealg.IndexByteString", "internal/bytealg.IndexString"], unfollowed := true, recurses := true, named := ["unicode/utf8.first", "unicode/utf8.acceptRanges", "internal/bytealg.MaxLen"], apart := false, laid := [("unicode/utf8.acceptRanges", laid_unicode_utf8_acceptRanges), ("unicode/utf8.first", laid_unicode_utf8_first)] }
def TagsCutsSaid : Prop := tagsCutsRow.holds Tryd.pinned (OpenSpec.ofChange tagsCutsSpec)

/-- ITS FALSE NEIGHBOUR: 'it returns false'. Refute it at one input. -/
def tagsCutsWrong : ChangeSpec := { name := "tagsCuts", fn := fun _ => fun
  | [d1, d2, d3, d4] => { results := [.lit (.bool false)], args := [d1, d2, d3, d4] }
  | _ => none }
def TagsCutsWrongFalsely : Prop := tagsCutsRow.holds Tryd.pinned (OpenSpec.ofChange tagsCutsWrong)

/-- 'comfitlaw06.TagsParts': WHATEVER THE INPUT: true; the input reads as it did. -/
def tagsPartsSpec : ChangeSpec := { name := "tagsParts", fn := fun _ => fun
  | [d1, d2, d3, d4, d5] => { results := [.lit (.bool true)], args := [d1, d2, d3, d4, d5] }
  | _ => none }
def tagsPartsRow : OpenClaim := { program := "ytjmbjnobbeflfaadoor", sum := "732c963a00bee251d58c9f03d84c9df36bbdde917b813643db0bff3ddcd58575", func := "comfit/comfitlaw06.TagsParts", spec := "tagsParts", inPlace := ["internal/bytealg.IndexByteString", "internal/bytealg.IndexString"], unfollowed := true, recurses := true, named := ["unicode/utf8.first", "unicode/utf8.acceptRanges", "internal/bytealg.MaxLen"], apart := false, laid := [("unicode/utf8.acceptRanges", laid_unicode_utf8_acceptRanges), ("unicode/utf8.first", laid_unicode_utf8_first)] }
def TagsPartsSaid : Prop := tagsPartsRow.holds Tryd.pinned (OpenSpec.ofChange tagsPartsSpec)

/-- ITS FALSE NEIGHBOUR: 'it returns false'. Refute it at one input. -/
def tagsPartsWrong : ChangeSpec := { name := "tagsParts", fn := fun _ => fun
  | [d1, d2, d3, d4, d5] => { results := [.lit (.bool false)], args := [d1, d2, d3, d4, d5] }
  | _ => none }
def TagsPartsWrongFalsely : Prop := tagsPartsRow.holds Tryd.pinned (OpenSpec.ofChange tagsPartsWrong)

/-- 'comfitlaw06.TagsRound': WHATEVER THE INPUT: true; the input reads as it did. -/
def tagsRoundSpec : ChangeSpec := { name := "tagsRound", fn := fun _ => fun
  | [d1, d2, d3, d4, d5] => { results := [.lit (.bool true)], args := [d1, d2, d3, d4, d5] }
  | _ => none }
def tagsRoundRow : OpenClaim := { program := "ytjmbjnobbeflfaadoor", sum := "732c963a00bee251d58c9f03d84c9df36bbdde917b813643db0bff3ddcd58575", func := "comfit/comfitlaw06.TagsRound", spec := "tagsRound", inPlace := ["internal/bytealg.IndexByteString", "internal/bytealg.IndexString"], unfollowed := true, recurses := true, named := ["unicode/utf8.first", "unicode/utf8.acceptRanges", "internal/bytealg.MaxLen"], apart := false, laid := [("unicode/utf8.acceptRanges", laid_unicode_utf8_acceptRanges), ("unicode/utf8.first", laid_unicode_utf8_first)] }
def TagsRoundSaid : Prop := tagsRoundRow.holds Tryd.pinned (OpenSpec.ofChange tagsRoundSpec)

/-- ITS FALSE NEIGHBOUR: 'it returns false'. Refute it at one input. -/
def tagsRoundWrong : ChangeSpec := { name := "tagsRound", fn := fun _ => fun
  | [d1, d2, d3, d4, d5] => { results := [.lit (.bool false)], args := [d1, d2, d3, d4, d5] }
  | _ => none }
def TagsRoundWrongFalsely : Prop := tagsRoundRow.holds Tryd.pinned (OpenSpec.ofChange tagsRoundWrong)

/- THE SECOND FORM. 'bulk': how many values and letters a reading holds, each counted each time it is reached (what is shared counts as often as it is met; a slice's spare places count too). A statement '..UptoSaid' is the law's where the arguments, and the package variables that the reading takes, are together of bulk at most 1048576: NARROWER than '..Said'. Prove '..Said' where nothing that the law and all that it calls make is longer than what came in: it says more and counts as full. Else prove '..UptoSaid'. A law counts once. -/
mutual
def uptoBulk {H : Type} : DataW H → Nat
  | .lit (.string bytes) => bytes.length + 1
  | .lit _ => 1
  | .nil => 1
  | .ptr d => uptoBulk d + 1
  | .slice elems spare => uptoBulkAll elems + uptoBulkAll spare + 1
  | .agg parts => uptoBulkAll parts + 1
  | .iface _ d => uptoBulk d + 1
  | .map entries => uptoBulkEntries entries + 1
  | .held _ => 1
def uptoBulkAll {H : Type} : List (DataW H) → Nat
  | [] => 0
  | d :: r => uptoBulk d + uptoBulkAll r
def uptoBulkEntries {H : Type} : List (Lit × DataW H) → Nat
  | [] => 0
  | x :: r => uptoBulkEntry x + uptoBulkEntries r
def uptoBulkEntry {H : Type} : Lit × DataW H → Nat
  | (.string bytes, d) => bytes.length + uptoBulk d + 1
  | (_, d) => uptoBulk d + 1
 end
def uptoSmall : (H : Type) → List (DataW H) → Bool := fun _ ds => decide (uptoBulkAll ds ≤ 1048576)
def OpenSpec.upto (s : _root_.Go.ChangeSpec) : _root_.Go.OpenSpec := { _root_.Go.OpenSpec.ofChange s with cond := some uptoSmall }

/-- 'comfitlaw06.TagsAgain', WHERE WHAT IT READS IS OF BULK AT MOST 1048576: true; the input reads as it did. -/
def tagsAgainUptoRow : OpenClaim := { program := "ytjmbjnobbeflfaadoor", sum := "732c963a00bee251d58c9f03d84c9df36bbdde917b813643db0bff3ddcd58575", func := "comfit/comfitlaw06.TagsAgain", spec := "tagsAgain", inPlace := ["internal/bytealg.IndexByteString", "internal/bytealg.IndexString"], unfollowed := true, recurses := true, named := ["unicode/utf8.first", "unicode/utf8.acceptRanges", "internal/bytealg.MaxLen"], apart := false, laid := [("unicode/utf8.acceptRanges", laid_unicode_utf8_acceptRanges), ("unicode/utf8.first", laid_unicode_utf8_first)], narrowed := true }
def TagsAgainUptoSaid : Prop := tagsAgainUptoRow.holds Tryd.pinned (OpenSpec.upto tagsAgainSpec)

/-- 'comfitlaw06.TagsCuts', WHERE WHAT IT READS IS OF BULK AT MOST 1048576: true; the input reads as it did. -/
def tagsCutsUptoRow : OpenClaim := { program := "ytjmbjnobbeflfaadoor", sum := "732c963a00bee251d58c9f03d84c9df36bbdde917b813643db0bff3ddcd58575", func := "comfit/comfitlaw06.TagsCuts", spec := "tagsCuts", inPlace := ["internal/bytealg.IndexByteString", "internal/bytealg.IndexString"], unfollowed := true, recurses := true, named := ["unicode/utf8.first", "unicode/utf8.acceptRanges", "internal/bytealg.MaxLen"], apart := false, laid := [("unicode/utf8.acceptRanges", laid_unicode_utf8_acceptRanges), ("unicode/utf8.first", laid_unicode_utf8_first)], narrowed := true }
def TagsCutsUptoSaid : Prop := tagsCutsUptoRow.holds Tryd.pinned (OpenSpec.upto tagsCutsSpec)

/-- 'comfitlaw06.TagsParts', WHERE WHAT IT READS IS OF BULK AT MOST 1048576: true; the input reads as it did. -/
def tagsPartsUptoRow : OpenClaim := { program := "ytjmbjnobbeflfaadoor", sum := "732c963a00bee251d58c9f03d84c9df36bbdde917b813643db0bff3ddcd58575", func := "comfit/comfitlaw06.TagsParts", spec := "tagsParts", inPlace := ["internal/bytealg.IndexByteString", "internal/bytealg.IndexString"], unfollowed := true, recurses := true, named := ["unicode/utf8.first", "unicode/utf8.acceptRanges", "internal/bytealg.MaxLen"], apart := false, laid := [("unicode/utf8.acceptRanges", laid_unicode_utf8_acceptRanges), ("unicode/utf8.first", laid_unicode_utf8_first)], narrowed := true }
def TagsPartsUptoSaid : Prop := tagsPartsUptoRow.holds Tryd.pinned (OpenSpec.upto tagsPartsSpec)

/-- 'comfitlaw06.TagsRound', WHERE WHAT IT READS IS OF BULK AT MOST 1048576: true; the input reads as it did. -/
def tagsRoundUptoRow : OpenClaim := { program := "ytjmbjnobbeflfaadoor", sum := "732c963a00bee251d58c9f03d84c9df36bbdde917b813643db0bff3ddcd58575", func := "comfit/comfitlaw06.TagsRound", spec := "tagsRound", inPlace := ["internal/bytealg.IndexByteString", "internal/bytealg.IndexString"], unfollowed := true, recurses := true, named := ["unicode/utf8.first", "unicode/utf8.acceptRanges", "internal/bytealg.MaxLen"], apart := false, laid := [("unicode/utf8.acceptRanges", laid_unicode_utf8_acceptRanges), ("unicode/utf8.first", laid_unicode_utf8_first)], narrowed := true }
def TagsRoundUptoSaid : Prop := tagsRoundUptoRow.holds Tryd.pinned (OpenSpec.upto tagsRoundSpec)

end Rows
end Go.Proofs.YtjmbjnobbeflfaaDoor
