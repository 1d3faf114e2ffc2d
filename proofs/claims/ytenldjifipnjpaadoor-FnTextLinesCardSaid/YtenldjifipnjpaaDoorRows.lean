/-
  NARROWER THAN 'FOR EVERY INPUT', by the rows' own cells (each row's printed sentence says how): FnExactWordsOfLines: laid · FnExactGridLines: laid · FnGridOf: laid · FnGridLines: laid · FnExactPageGrid: laid · FnJustifyText: laid · FnTextLines: laid · FnPageGrid: laid.
  DERIVED. THE GIVEN ROWS OF THIS SEAT. 8 by the template 'for every input the law returns true; each argument reads behind the call as it read before'; 0 by the template 'total and deterministic' (their statements: YtenldjifipnjpaaDoorTotals.lean).
  GIVEN WITH THE SEED: the statements are not yours to turn. If you find one false, say at which input.
  Laid BY PROGRAM, IN A SANDBOX (cutbox-rows.mjs): the forced cells as the released guide's own fill.sh prints them over the translation cbf8f54309c4a67b… (all of the seat's roots in one cut). By AI agents, Wed Nov 11 2026. No macro, syntax, notation, axiom, sorry.
-/
import Derived.Test.YtenldjifipnjpaaDoorChecked
import GoSem.PinnedTables
import GoSem.Claim
import GoSem.ClaimJoined
import GoSem.ClaimMapViews
import Derived.JoinedTies
import Derived.KernelRfl
namespace Go.Proofs.YtenldjifipnjpaaDoor
/- THE CELL 'sum', in the pinned program and in every row, IS THE sha256 OF THE DUMP (.gsa) THAT YtenldjifipnjpaaDoorProg.lean LOADS. Nothing in Lean hashes anything: it is a label: what it is worth is what the hold of that sum in a sandbox is worth. -/
noncomputable def Tryd.pinned : Pinned := { name := "ytenldjifipnjpaadoor", sum := "cbf8f54309c4a67b1008752ddae6653c8ca0d21b370628c699ff18bb94e69de3", checked := Tryd.checked }
namespace Rows
def none {H : Type} : Left H := { results := [], args := [] }

/- WHAT THE LISTED PACKAGE-LEVEL VARIABLES READ AS WHEN THE CALL BEGINS. Each datum BY PROGRAM (the guide's laid-datum.mjs) off the statement by which the dump's own 'gosem.cut.vars' lays the variable. In a bare row this is a premise. The card (YtenldjifipnjpaaDoorCards.lean) ties it to the program's text. -/
def laid_unicode_utf8_acceptRanges {H : Type} : DataW H := .agg [.agg [.lit (.int .u8 128), .lit (.int .u8 191)], .agg [.lit (.int .u8 160), .lit (.int .u8 191)], .agg [.lit (.int .u8 128), .lit (.int .u8 159)], .agg [.lit (.int .u8 144), .lit (.int .u8 191)], .agg [.lit (.int .u8 128), .lit (.int .u8 143)], .agg [.lit (.int .u8 0), .lit (.int .u8 0)], .agg [.lit (.int .u8 0), .lit (.int .u8 0)], .agg [.lit (.int .u8 0), .lit (.int .u8 0)], .agg [.lit (.int .u8 0), .lit (.int .u8 0)], .agg [.lit (.int .u8 0), .lit (.int .u8 0)], .agg [.lit (.int .u8 0), .lit (.int .u8 0)], .agg [.lit (.int .u8 0), .lit (.int .u8 0)], .agg [.lit (.int .u8 0), .lit (.int .u8 0)], .agg [.lit (.int .u8 0), .lit (.int .u8 0)], .agg [.lit (.int .u8 0), .lit (.int .u8 0)], .agg [.lit (.int .u8 0), .lit (.int .u8 0)]]
/-- One of Go's own tables, pinned by name: the form's constant. -/
def laid_unicode_utf8_first : DataW Unit := Go.Pinned.utf8First
def laid_math_bits_deBruijn32tab {H : Type} : DataW H := .agg [.lit (.int .u8 0), .lit (.int .u8 1), .lit (.int .u8 28), .lit (.int .u8 2), .lit (.int .u8 29), .lit (.int .u8 14), .lit (.int .u8 24), .lit (.int .u8 3), .lit (.int .u8 30), .lit (.int .u8 22), .lit (.int .u8 20), .lit (.int .u8 15), .lit (.int .u8 25), .lit (.int .u8 17), .lit (.int .u8 4), .lit (.int .u8 8), .lit (.int .u8 31), .lit (.int .u8 27), .lit (.int .u8 13), .lit (.int .u8 23), .lit (.int .u8 21), .lit (.int .u8 19), .lit (.int .u8 16), .lit (.int .u8 7), .lit (.int .u8 26), .lit (.int .u8 12), .lit (.int .u8 18), .lit (.int .u8 6), .lit (.int .u8 11), .lit (.int .u8 5), .lit (.int .u8 10), .lit (.int .u8 9)]
def laid_math_bits_deBruijn64tab {H : Type} : DataW H := .agg [.lit (.int .u8 0), .lit (.int .u8 1), .lit (.int .u8 56), .lit (.int .u8 2), .lit (.int .u8 57), .lit (.int .u8 49), .lit (.int .u8 28), .lit (.int .u8 3), .lit (.int .u8 61), .lit (.int .u8 58), .lit (.int .u8 42), .lit (.int .u8 50), .lit (.int .u8 38), .lit (.int .u8 29), .lit (.int .u8 17), .lit (.int .u8 4), .lit (.int .u8 62), .lit (.int .u8 47), .lit (.int .u8 59), .lit (.int .u8 36), .lit (.int .u8 45), .lit (.int .u8 43), .lit (.int .u8 51), .lit (.int .u8 22), .lit (.int .u8 53), .lit (.int .u8 39), .lit (.int .u8 33), .lit (.int .u8 30), .lit (.int .u8 24), .lit (.int .u8 18), .lit (.int .u8 12), .lit (.int .u8 5), .lit (.int .u8 63), .lit (.int .u8 55), .lit (.int .u8 48), .lit (.int .u8 27), .lit (.int .u8 60), .lit (.int .u8 41), .lit (.int .u8 37), .lit (.int .u8 16), .lit (.int .u8 46), .lit (.int .u8 35), .lit (.int .u8 44), .lit (.int .u8 21), .lit (.int .u8 52), .lit (.int .u8 32), .lit (.int .u8 23), .lit (.int .u8 11), .lit (.int .u8 54), .lit (.int .u8 26), .lit (.int .u8 40), .lit (.int .u8 15), .lit (.int .u8 34), .lit (.int .u8 20), .lit (.int .u8 31), .lit (.int .u8 10), .lit (.int .u8 25), .lit (.int .u8 14), .lit (.int .u8 19), .lit (.int .u8 9), .lit (.int .u8 13), .lit (.int .u8 8), .lit (.int .u8 7), .lit (.int .u8 6)]
def laid_internal_strconv_uint64pow10 {H : Type} : DataW H := .agg [.lit (.int .u64 1), .lit (.int .u64 10), .lit (.int .u64 100), .lit (.int .u64 1000), .lit (.int .u64 10000), .lit (.int .u64 100000), .lit (.int .u64 1000000), .lit (.int .u64 10000000), .lit (.int .u64 100000000), .lit (.int .u64 1000000000), .lit (.int .u64 10000000000), .lit (.int .u64 100000000000), .lit (.int .u64 1000000000000), .lit (.int .u64 10000000000000), .lit (.int .u64 100000000000000), .lit (.int .u64 1000000000000000), .lit (.int .u64 10000000000000000), .lit (.int .u64 100000000000000000), .lit (.int .u64 1000000000000000000), .lit (.int .u64 10000000000000000000)]

/-- 'laws.FnExactWordsOfLines': WHATEVER THE INPUT: true; the input reads as it did. -/
def fnExactWordsOfLinesSpec : ChangeSpec := { name := "fnExactWordsOfLines", fn := fun _ => fun
  | [d] => { results := [.lit (.bool true)], args := [d] }
  | _ => none }
def fnExactWordsOfLinesRow : OpenClaim := { program := "ytenldjifipnjpaadoor", sum := "cbf8f54309c4a67b1008752ddae6653c8ca0d21b370628c699ff18bb94e69de3", func := "loop.example/pagebuilder/laws.FnExactWordsOfLines", spec := "fnExactWordsOfLines", inPlace := ["internal/abi.NoEscape", "internal/bytealg.CountString", "internal/bytealg.IndexByteString", "internal/bytealg.IndexString"], named := ["unicode/utf8.first", "unicode/utf8.acceptRanges", "internal/bytealg.MaxLen"], apart := false, laid := [("unicode/utf8.acceptRanges", laid_unicode_utf8_acceptRanges), ("unicode/utf8.first", laid_unicode_utf8_first)] }
def FnExactWordsOfLinesSaid : Prop := fnExactWordsOfLinesRow.holds Tryd.pinned (OpenSpec.ofChange fnExactWordsOfLinesSpec)

/-- ITS FALSE NEIGHBOUR: 'it returns false'. Refute it at one input. -/
def fnExactWordsOfLinesWrong : ChangeSpec := { name := "fnExactWordsOfLines", fn := fun _ => fun
  | [d] => { results := [.lit (.bool false)], args := [d] }
  | _ => none }
def FnExactWordsOfLinesWrongFalsely : Prop := fnExactWordsOfLinesRow.holds Tryd.pinned (OpenSpec.ofChange fnExactWordsOfLinesWrong)

/-- 'laws.FnExactGridLines': WHATEVER THE INPUT: true; the input reads as it did. -/
def fnExactGridLinesSpec : ChangeSpec := { name := "fnExactGridLines", fn := fun _ => fun
  | [d] => { results := [.lit (.bool true)], args := [d] }
  | _ => none }
def fnExactGridLinesRow : OpenClaim := { program := "ytenldjifipnjpaadoor", sum := "cbf8f54309c4a67b1008752ddae6653c8ca0d21b370628c699ff18bb94e69de3", func := "loop.example/pagebuilder/laws.FnExactGridLines", spec := "fnExactGridLines", inPlace := ["internal/bytealg.IndexByteString", "internal/bytealg.IndexString"], unfollowed := true, recurses := true, named := ["unicode/utf8.first", "unicode/utf8.acceptRanges", "internal/bytealg.MaxLen"], apart := false, laid := [("unicode/utf8.acceptRanges", laid_unicode_utf8_acceptRanges), ("unicode/utf8.first", laid_unicode_utf8_first)] }
def FnExactGridLinesSaid : Prop := fnExactGridLinesRow.holds Tryd.pinned (OpenSpec.ofChange fnExactGridLinesSpec)

/-- ITS FALSE NEIGHBOUR: 'it returns false'. Refute it at one input. -/
def fnExactGridLinesWrong : ChangeSpec := { name := "fnExactGridLines", fn := fun _ => fun
  | [d] => { results := [.lit (.bool false)], args := [d] }
  | _ => none }
def FnExactGridLinesWrongFalsely : Prop := fnExactGridLinesRow.holds Tryd.pinned (OpenSpec.ofChange fnExactGridLinesWrong)

/-- 'laws.FnGridOf': WHATEVER THE INPUT: true; the input reads as it did. -/
def fnGridOfSpec : ChangeSpec := { name := "fnGridOf", fn := fun _ => fun
  | [d] => { results := [.lit (.bool true)], args := [d] }
  | _ => none }
def fnGridOfRow : OpenClaim := { program := "ytenldjifipnjpaadoor", sum := "cbf8f54309c4a67b1008752ddae6653c8ca0d21b370628c699ff18bb94e69de3", func := "loop.example/pagebuilder/laws.FnGridOf", spec := "fnGridOf", inPlace := ["internal/bytealg.MakeNoZero", "internal/bytealg.IndexByteString", "internal/bytealg.IndexString"], unfollowed := true, recurses := true, named := ["unicode/utf8.first", "unicode/utf8.acceptRanges", "internal/bytealg.MaxLen"], apart := false, laid := [("unicode/utf8.acceptRanges", laid_unicode_utf8_acceptRanges), ("unicode/utf8.first", laid_unicode_utf8_first)] }
def FnGridOfSaid : Prop := fnGridOfRow.holds Tryd.pinned (OpenSpec.ofChange fnGridOfSpec)

/-- ITS FALSE NEIGHBOUR: 'it returns false'. Refute it at one input. -/
def fnGridOfWrong : ChangeSpec := { name := "fnGridOf", fn := fun _ => fun
  | [d] => { results := [.lit (.bool false)], args := [d] }
  | _ => none }
def FnGridOfWrongFalsely : Prop := fnGridOfRow.holds Tryd.pinned (OpenSpec.ofChange fnGridOfWrong)

/-- 'laws.FnGridLines': WHATEVER THE INPUT: true; the input reads as it did. -/
def fnGridLinesSpec : ChangeSpec := { name := "fnGridLines", fn := fun _ => fun
  | [d] => { results := [.lit (.bool true)], args := [d] }
  | _ => none }
def fnGridLinesRow : OpenClaim := { program := "ytenldjifipnjpaadoor", sum := "cbf8f54309c4a67b1008752ddae6653c8ca0d21b370628c699ff18bb94e69de3", func := "loop.example/pagebuilder/laws.FnGridLines", spec := "fnGridLines", inPlace := ["internal/bytealg.IndexByteString", "internal/bytealg.IndexString", "internal/bytealg.MakeNoZero"], unfollowed := true, recurses := true, named := ["unicode/utf8.first", "unicode/utf8.acceptRanges", "internal/bytealg.MaxLen"], apart := false, laid := [("unicode/utf8.acceptRanges", laid_unicode_utf8_acceptRanges), ("unicode/utf8.first", laid_unicode_utf8_first)] }
def FnGridLinesSaid : Prop := fnGridLinesRow.holds Tryd.pinned (OpenSpec.ofChange fnGridLinesSpec)

/-- ITS FALSE NEIGHBOUR: 'it returns false'. Refute it at one input. -/
def fnGridLinesWrong : ChangeSpec := { name := "fnGridLines", fn := fun _ => fun
  | [d] => { results := [.lit (.bool false)], args := [d] }
  | _ => none }
def FnGridLinesWrongFalsely : Prop := fnGridLinesRow.holds Tryd.pinned (OpenSpec.ofChange fnGridLinesWrong)

/-- 'laws.FnExactPageGrid': WHATEVER THE INPUT: true; the input reads as it did. -/
def fnExactPageGridSpec : ChangeSpec := { name := "fnExactPageGrid", fn := fun _ => fun
  | [d1, d2, d3, d4] => { results := [.lit (.bool true)], args := [d1, d2, d3, d4] }
  | _ => none }
def fnExactPageGridRow : OpenClaim := { program := "ytenldjifipnjpaadoor", sum := "cbf8f54309c4a67b1008752ddae6653c8ca0d21b370628c699ff18bb94e69de3", func := "loop.example/pagebuilder/laws.FnExactPageGrid", spec := "fnExactPageGrid", inPlace := ["internal/bytealg.MakeNoZero"], unfollowed := true, recurses := true, named := ["internal/strconv.uint64pow10", "math/bits.deBruijn32tab", "math/bits.deBruijn64tab"], apart := false, laid := [("math/bits.deBruijn32tab", laid_math_bits_deBruijn32tab), ("math/bits.deBruijn64tab", laid_math_bits_deBruijn64tab), ("internal/strconv.uint64pow10", laid_internal_strconv_uint64pow10)] }
def FnExactPageGridSaid : Prop := fnExactPageGridRow.holds Tryd.pinned (OpenSpec.ofChange fnExactPageGridSpec)

/-- ITS FALSE NEIGHBOUR: 'it returns false'. Refute it at one input. -/
def fnExactPageGridWrong : ChangeSpec := { name := "fnExactPageGrid", fn := fun _ => fun
  | [d1, d2, d3, d4] => { results := [.lit (.bool false)], args := [d1, d2, d3, d4] }
  | _ => none }
def FnExactPageGridWrongFalsely : Prop := fnExactPageGridRow.holds Tryd.pinned (OpenSpec.ofChange fnExactPageGridWrong)

/-- 'laws.FnJustifyText': WHATEVER THE INPUT: true; the input reads as it did. -/
def fnJustifyTextSpec : ChangeSpec := { name := "fnJustifyText", fn := fun _ => fun
  | [d] => { results := [.lit (.bool true)], args := [d] }
  | _ => none }
def fnJustifyTextRow : OpenClaim := { program := "ytenldjifipnjpaadoor", sum := "cbf8f54309c4a67b1008752ddae6653c8ca0d21b370628c699ff18bb94e69de3", func := "loop.example/pagebuilder/laws.FnJustifyText", spec := "fnJustifyText", inPlace := ["internal/abi.NoEscape", "internal/bytealg.MakeNoZero", "internal/bytealg.CountString", "internal/bytealg.IndexByteString", "internal/bytealg.IndexString"], named := ["unicode/utf8.first", "unicode/utf8.acceptRanges", "internal/bytealg.MaxLen"], apart := false, laid := [("unicode/utf8.acceptRanges", laid_unicode_utf8_acceptRanges), ("unicode/utf8.first", laid_unicode_utf8_first)] }
def FnJustifyTextSaid : Prop := fnJustifyTextRow.holds Tryd.pinned (OpenSpec.ofChange fnJustifyTextSpec)

/-- ITS FALSE NEIGHBOUR: 'it returns false'. Refute it at one input. -/
def fnJustifyTextWrong : ChangeSpec := { name := "fnJustifyText", fn := fun _ => fun
  | [d] => { results := [.lit (.bool false)], args := [d] }
  | _ => none }
def FnJustifyTextWrongFalsely : Prop := fnJustifyTextRow.holds Tryd.pinned (OpenSpec.ofChange fnJustifyTextWrong)

/-- 'laws.FnTextLines': WHATEVER THE INPUT: true; the input reads as it did. -/
def fnTextLinesSpec : ChangeSpec := { name := "fnTextLines", fn := fun _ => fun
  | [d] => { results := [.lit (.bool true)], args := [d] }
  | _ => none }
def fnTextLinesRow : OpenClaim := { program := "ytenldjifipnjpaadoor", sum := "cbf8f54309c4a67b1008752ddae6653c8ca0d21b370628c699ff18bb94e69de3", func := "loop.example/pagebuilder/laws.FnTextLines", spec := "fnTextLines", inPlace := ["internal/abi.NoEscape", "internal/bytealg.MakeNoZero", "internal/bytealg.CountString", "internal/bytealg.IndexByteString", "internal/bytealg.IndexString"], named := ["unicode/utf8.first", "unicode/utf8.acceptRanges", "internal/bytealg.MaxLen"], apart := false, laid := [("unicode/utf8.acceptRanges", laid_unicode_utf8_acceptRanges), ("unicode/utf8.first", laid_unicode_utf8_first)] }
def FnTextLinesSaid : Prop := fnTextLinesRow.holds Tryd.pinned (OpenSpec.ofChange fnTextLinesSpec)

/-- ITS FALSE NEIGHBOUR: 'it returns false'. Refute it at one input. -/
def fnTextLinesWrong : ChangeSpec := { name := "fnTextLines", fn := fun _ => fun
  | [d] => { results := [.lit (.bool false)], args := [d] }
  | _ => none }
def FnTextLinesWrongFalsely : Prop := fnTextLinesRow.holds Tryd.pinned (OpenSpec.ofChange fnTextLinesWrong)

/-- 'laws.FnPageGrid': WHATEVER THE INPUT: true; the input reads as it did. -/
def fnPageGridSpec : ChangeSpec := { name := "fnPageGrid", fn := fun _ => fun
  | [d] => { results := [.lit (.bool true)], args := [d] }
  | _ => none }
def fnPageGridRow : OpenClaim := { program := "ytenldjifipnjpaadoor", sum := "cbf8f54309c4a67b1008752ddae6653c8ca0d21b370628c699ff18bb94e69de3", func := "loop.example/pagebuilder/laws.FnPageGrid", spec := "fnPageGrid", inPlace := ["internal/bytealg.MakeNoZero", "internal/bytealg.IndexByteString", "internal/bytealg.IndexString"], unfollowed := true, recurses := true, named := ["internal/strconv.uint64pow10", "math/bits.deBruijn32tab", "math/bits.deBruijn64tab", "unicode/utf8.first", "unicode/utf8.acceptRanges", "internal/bytealg.MaxLen"], apart := false, laid := [("math/bits.deBruijn32tab", laid_math_bits_deBruijn32tab), ("math/bits.deBruijn64tab", laid_math_bits_deBruijn64tab), ("internal/strconv.uint64pow10", laid_internal_strconv_uint64pow10), ("unicode/utf8.acceptRanges", laid_unicode_utf8_acceptRanges), ("unicode/utf8.first", laid_unicode_utf8_first)] }
def FnPageGridSaid : Prop := fnPageGridRow.holds Tryd.pinned (OpenSpec.ofChange fnPageGridSpec)

/-- ITS FALSE NEIGHBOUR: 'it returns false'. Refute it at one input. -/
def fnPageGridWrong : ChangeSpec := { name := "fnPageGrid", fn := fun _ => fun
  | [d] => { results := [.lit (.bool false)], args := [d] }
  | _ => none }
def FnPageGridWrongFalsely : Prop := fnPageGridRow.holds Tryd.pinned (OpenSpec.ofChange fnPageGridWrong)

/- THE SECOND FORM. 'bulk': how many values and letters a reading holds, each counted each time it is reached (what is shared counts as often as it is met; a slice's spare places count too). A statement '..UptoSaid' is the law's where the arguments, and the package variables that the reading takes, are together of bulk at most 1048576: NARROWER than '..Said'. Prove '..Said' where nothing that the law and all that it calls make is longer than what came in: it says more and counts as full. Else prove '..UptoSaid'. A law counts once. -/
mutual
def uptoBulk {H : Type} : DataW H → Nat
  | .lit (.string bytes) => bytes.length + 1
  | .lit _ => 1
  | .nil => 1
  | .ptr d => uptoBulk d + 1
  | .slice elems spare => uptoBulkAll elems + uptoBulkAll spare + 1
  | .agg parts => uptoBulkAll parts + 1
  | .iface _ d => uptoBulk d + 1
  | .map entries => uptoBulkEntries entries + 1
  | .held _ => 1
def uptoBulkAll {H : Type} : List (DataW H) → Nat
  | [] => 0
  | d :: r => uptoBulk d + uptoBulkAll r
def uptoBulkEntries {H : Type} : List (Lit × DataW H) → Nat
  | [] => 0
  | x :: r => uptoBulkEntry x + uptoBulkEntries r
def uptoBulkEntry {H : Type} : Lit × DataW H → Nat
  | (.string bytes, d) => bytes.length + uptoBulk d + 1
  | (_, d) => uptoBulk d + 1
 end
def uptoSmall : (H : Type) → List (DataW H) → Bool := fun _ ds => decide (uptoBulkAll ds ≤ 1048576)
def OpenSpec.upto (s : _root_.Go.ChangeSpec) : _root_.Go.OpenSpec := { _root_.Go.OpenSpec.ofChange s with cond := some uptoSmall }

/-- 'laws.FnExactWordsOfLines', WHERE WHAT IT READS IS OF BULK AT MOST 1048576: true; the input reads as it did. -/
def fnExactWordsOfLinesUptoRow : OpenClaim := { program := "ytenldjifipnjpaadoor", sum := "cbf8f54309c4a67b1008752ddae6653c8ca0d21b370628c699ff18bb94e69de3", func := "loop.example/pagebuilder/laws.FnExactWordsOfLines", spec := "fnExactWordsOfLines", inPlace := ["internal/abi.NoEscape", "internal/bytealg.CountString", "internal/bytealg.IndexByteString", "internal/bytealg.IndexString"], named := ["unicode/utf8.first", "unicode/utf8.acceptRanges", "internal/bytealg.MaxLen"], apart := false, laid := [("unicode/utf8.acceptRanges", laid_unicode_utf8_acceptRanges), ("unicode/utf8.first", laid_unicode_utf8_first)], narrowed := true }
def FnExactWordsOfLinesUptoSaid : Prop := fnExactWordsOfLinesUptoRow.holds Tryd.pinned (OpenSpec.upto fnExactWordsOfLinesSpec)

/-- 'laws.FnExactGridLines', WHERE WHAT IT READS IS OF BULK AT MOST 1048576: true; the input reads as it did. -/
def fnExactGridLinesUptoRow : OpenClaim := { program := "ytenldjifipnjpaadoor", sum := "cbf8f54309c4a67b1008752ddae6653c8ca0d21b370628c699ff18bb94e69de3", func := "loop.example/pagebuilder/laws.FnExactGridLines", spec := "fnExactGridLines", inPlace := ["internal/bytealg.IndexByteString", "internal/bytealg.IndexString"], unfollowed := true, recurses := true, named := ["unicode/utf8.first", "unicode/utf8.acceptRanges", "internal/bytealg.MaxLen"], apart := false, laid := [("unicode/utf8.acceptRanges", laid_unicode_utf8_acceptRanges), ("unicode/utf8.first", laid_unicode_utf8_first)], narrowed := true }
def FnExactGridLinesUptoSaid : Prop := fnExactGridLinesUptoRow.holds Tryd.pinned (OpenSpec.upto fnExactGridLinesSpec)

/-- 'laws.FnGridOf', WHERE WHAT IT READS IS OF BULK AT MOST 1048576: true; the input reads as it did. -/
def fnGridOfUptoRow : OpenClaim := { program := "ytenldjifipnjpaadoor", sum := "cbf8f54309c4a67b1008752ddae6653c8ca0d21b370628c699ff18bb94e69de3", func := "loop.example/pagebuilder/laws.FnGridOf", spec := "fnGridOf", inPlace := ["internal/bytealg.MakeNoZero", "internal/bytealg.IndexByteString", "internal/bytealg.IndexString"], unfollowed := true, recurses := true, named := ["unicode/utf8.first", "unicode/utf8.acceptRanges", "internal/bytealg.MaxLen"], apart := false, laid := [("unicode/utf8.acceptRanges", laid_unicode_utf8_acceptRanges), ("unicode/utf8.first", laid_unicode_utf8_first)], narrowed := true }
def FnGridOfUptoSaid : Prop := fnGridOfUptoRow.holds Tryd.pinned (OpenSpec.upto fnGridOfSpec)

/-- 'laws.FnGridLines', WHERE WHAT IT READS IS OF BULK AT MOST 1048576: true; the input reads as it did. -/
def fnGridLinesUptoRow : OpenClaim := { program := "ytenldjifipnjpaadoor", sum := "cbf8f54309c4a67b1008752ddae6653c8ca0d21b370628c699ff18bb94e69de3", func := "loop.example/pagebuilder/laws.FnGridLines", spec := "fnGridLines", inPlace := ["internal/bytealg.IndexByteString", "internal/bytealg.IndexString", "internal/bytealg.MakeNoZero"], unfollowed := true, recurses := true, named := ["unicode/utf8.first", "unicode/utf8.acceptRanges", "internal/bytealg.MaxLen"], apart := false, laid := [("unicode/utf8.acceptRanges", laid_unicode_utf8_acceptRanges), ("unicode/utf8.first", laid_unicode_utf8_first)], narrowed := true }
def FnGridLinesUptoSaid : Prop := fnGridLinesUptoRow.holds Tryd.pinned (OpenSpec.upto fnGridLinesSpec)

/-- 'laws.FnExactPageGrid', WHERE WHAT IT READS IS OF BULK AT MOST 1048576: true; the input reads as it did. -/
def fnExactPageGridUptoRow : OpenClaim := { program := "ytenldjifipnjpaadoor", sum := "cbf8f54309c4a67b1008752ddae6653c8ca0d21b370628c699ff18bb94e69de3", func := "loop.example/pagebuilder/laws.FnExactPageGrid", spec := "fnExactPageGrid", inPlace := ["internal/bytealg.MakeNoZero"], unfollowed := true, recurses := true, named := ["internal/strconv.uint64pow10", "math/bits.deBruijn32tab", "math/bits.deBruijn64tab"], apart := false, laid := [("math/bits.deBruijn32tab", laid_math_bits_deBruijn32tab), ("math/bits.deBruijn64tab", laid_math_bits_deBruijn64tab), ("internal/strconv.uint64pow10", laid_internal_strconv_uint64pow10)], narrowed := true }
def FnExactPageGridUptoSaid : Prop := fnExactPageGridUptoRow.holds Tryd.pinned (OpenSpec.upto fnExactPageGridSpec)

/-- 'laws.FnJustifyText', WHERE WHAT IT READS IS OF BULK AT MOST 1048576: true; the input reads as it did. -/
def fnJustifyTextUptoRow : OpenClaim := { program := "ytenldjifipnjpaadoor", sum := "cbf8f54309c4a67b1008752ddae6653c8ca0d21b370628c699ff18bb94e69de3", func := "loop.example/pagebuilder/laws.FnJustifyText", spec := "fnJustifyText", inPlace := ["internal/abi.NoEscape", "internal/bytealg.MakeNoZero", "internal/bytealg.CountString", "internal/bytealg.IndexByteString", "internal/bytealg.IndexString"], named := ["unicode/utf8.first", "unicode/utf8.acceptRanges", "internal/bytealg.MaxLen"], apart := false, laid := [("unicode/utf8.acceptRanges", laid_unicode_utf8_acceptRanges), ("unicode/utf8.first", laid_unicode_utf8_first)], narrowed := true }
def FnJustifyTextUptoSaid : Prop := fnJustifyTextUptoRow.holds Tryd.pinned (OpenSpec.upto fnJustifyTextSpec)

/-- 'laws.FnTextLines', WHERE WHAT IT READS IS OF BULK AT MOST 1048576: true; the input reads as it did. -/
def fnTextLinesUptoRow : OpenClaim := { program := "ytenldjifipnjpaadoor", sum := "cbf8f54309c4a67b1008752ddae6653c8ca0d21b370628c699ff18bb94e69de3", func := "loop.example/pagebuilder/laws.FnTextLines", spec := "fnTextLines", inPlace := ["internal/abi.NoEscape", "internal/bytealg.MakeNoZero", "internal/bytealg.CountString", "internal/bytealg.IndexByteString", "internal/bytealg.IndexString"], named := ["unicode/utf8.first", "unicode/utf8.acceptRanges", "internal/bytealg.MaxLen"], apart := false, laid := [("unicode/utf8.acceptRanges", laid_unicode_utf8_acceptRanges), ("unicode/utf8.first", laid_unicode_utf8_first)], narrowed := true }
def FnTextLinesUptoSaid : Prop := fnTextLinesUptoRow.holds Tryd.pinned (OpenSpec.upto fnTextLinesSpec)

/-- 'laws.FnPageGrid', WHERE WHAT IT READS IS OF BULK AT MOST 1048576: true; the input reads as it did. -/
def fnPageGridUptoRow : OpenClaim := { program := "ytenldjifipnjpaadoor", sum := "cbf8f54309c4a67b1008752ddae6653c8ca0d21b370628c699ff18bb94e69de3", func := "loop.example/pagebuilder/laws.FnPageGrid", spec := "fnPageGrid", inPlace := ["internal/bytealg.MakeNoZero", "internal/bytealg.IndexByteString", "internal/bytealg.IndexString"], unfollowed := true, recurses := true, named := ["internal/strconv.uint64pow10", "math/bits.deBruijn32tab", "math/bits.deBruijn64tab", "unicode/utf8.first", "unicode/utf8.acceptRanges", "internal/bytealg.MaxLen"], apart := false, laid := [("math/bits.deBruijn32tab", laid_math_bits_deBruijn32tab), ("math/bits.deBruijn64tab", laid_math_bits_deBruijn64tab), ("internal/strconv.uint64pow10", laid_internal_strconv_uint64pow10), ("unicode/utf8.acceptRanges", laid_unicode_utf8_acceptRanges), ("unicode/utf8.first", laid_unicode_utf8_first)], narrowed := true }
def FnPageGridUptoSaid : Prop := fnPageGridUptoRow.holds Tryd.pinned (OpenSpec.upto fnPageGridSpec)

end Rows
end Go.Proofs.YtenldjifipnjpaaDoor
