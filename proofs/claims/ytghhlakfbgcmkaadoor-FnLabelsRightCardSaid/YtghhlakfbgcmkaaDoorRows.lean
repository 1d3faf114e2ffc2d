/-
  NARROWER THAN 'FOR EVERY INPUT', by the rows' own cells (each row's printed sentence says how): FnExactLabelPages: laid · FnLabelPages: laid · FnExactSettleLabels: laid · FnSettleLabels: laid · FnLabelsFew: laid · FnLabelsRight: laid · FnExactLabelsRight: laid.
  DERIVED. THE GIVEN ROWS OF THIS SEAT. 7 by the template 'for every input the law returns true; each argument reads behind the call as it read before'; 0 by the template 'total and deterministic' (their statements: YtghhlakfbgcmkaaDoorTotals.lean).
  GIVEN WITH THE SEED: the statements are not yours to turn. If you find one false, say at which input.
  Laid BY PROGRAM, IN A SANDBOX (cutbox-rows.mjs): the forced cells as the released guide's own fill.sh prints them over the translation ba9cd9bfc2673ddd… (all of the seat's roots in one cut). By AI agents, Wed Nov 11 2026. No macro, syntax, notation, axiom, sorry.
-/
import Derived.Test.YtghhlakfbgcmkaaDoorChecked
import GoSem.Claim
import GoSem.ClaimJoined
import GoSem.ClaimMapViews
import Derived.JoinedTies
import Derived.KernelRfl
namespace Go.Proofs.YtghhlakfbgcmkaaDoor
/- THE CELL 'sum', in the pinned program and in every row, IS THE sha256 OF THE DUMP (.gsa) THAT YtghhlakfbgcmkaaDoorProg.lean LOADS. Nothing in Lean hashes anything: it is a label: what it is worth is what the hold of that sum in a sandbox is worth. -/
noncomputable def Tryd.pinned : Pinned := { name := "ytghhlakfbgcmkaadoor", sum := "ba9cd9bfc2673ddda90d4617a099178ae031b2daa48d74294913a0ad24b5bd0f", checked := Tryd.checked }
namespace Rows
def none {H : Type} : Left H := { results := [], args := [] }

/- WHAT THE LISTED PACKAGE-LEVEL VARIABLES READ AS WHEN THE CALL BEGINS. Each datum BY PROGRAM (the guide's laid-datum.mjs) off the statement by which the dump's own 'gosem.cut.vars' lays the variable. In a bare row this is a premise. The card (YtghhlakfbgcmkaaDoorCards.lean) ties it to the program's text. -/
def laid_math_bits_deBruijn32tab {H : Type} : DataW H := .agg [.lit (.int .u8 0), .lit (.int .u8 1), .lit (.int .u8 28), .lit (.int .u8 2), .lit (.int .u8 29), .lit (.int .u8 14), .lit (.int .u8 24), .lit (.int .u8 3), .lit (.int .u8 30), .lit (.int .u8 22), .lit (.int .u8 20), .lit (.int .u8 15), .lit (.int .u8 25), .lit (.int .u8 17), .lit (.int .u8 4), .lit (.int .u8 8), .lit (.int .u8 31), .lit (.int .u8 27), .lit (.int .u8 13), .lit (.int .u8 23), .lit (.int .u8 21), .lit (.int .u8 19), .lit (.int .u8 16), .lit (.int .u8 7), .lit (.int .u8 26), .lit (.int .u8 12), .lit (.int .u8 18), .lit (.int .u8 6), .lit (.int .u8 11), .lit (.int .u8 5), .lit (.int .u8 10), .lit (.int .u8 9)]
def laid_math_bits_deBruijn64tab {H : Type} : DataW H := .agg [.lit (.int .u8 0), .lit (.int .u8 1), .lit (.int .u8 56), .lit (.int .u8 2), .lit (.int .u8 57), .lit (.int .u8 49), .lit (.int .u8 28), .lit (.int .u8 3), .lit (.int .u8 61), .lit (.int .u8 58), .lit (.int .u8 42), .lit (.int .u8 50), .lit (.int .u8 38), .lit (.int .u8 29), .lit (.int .u8 17), .lit (.int .u8 4), .lit (.int .u8 62), .lit (.int .u8 47), .lit (.int .u8 59), .lit (.int .u8 36), .lit (.int .u8 45), .lit (.int .u8 43), .lit (.int .u8 51), .lit (.int .u8 22), .lit (.int .u8 53), .lit (.int .u8 39), .lit (.int .u8 33), .lit (.int .u8 30), .lit (.int .u8 24), .lit (.int .u8 18), .lit (.int .u8 12), .lit (.int .u8 5), .lit (.int .u8 63), .lit (.int .u8 55), .lit (.int .u8 48), .lit (.int .u8 27), .lit (.int .u8 60), .lit (.int .u8 41), .lit (.int .u8 37), .lit (.int .u8 16), .lit (.int .u8 46), .lit (.int .u8 35), .lit (.int .u8 44), .lit (.int .u8 21), .lit (.int .u8 52), .lit (.int .u8 32), .lit (.int .u8 23), .lit (.int .u8 11), .lit (.int .u8 54), .lit (.int .u8 26), .lit (.int .u8 40), .lit (.int .u8 15), .lit (.int .u8 34), .lit (.int .u8 20), .lit (.int .u8 31), .lit (.int .u8 10), .lit (.int .u8 25), .lit (.int .u8 14), .lit (.int .u8 19), .lit (.int .u8 9), .lit (.int .u8 13), .lit (.int .u8 8), .lit (.int .u8 7), .lit (.int .u8 6)]
def laid_internal_strconv_uint64pow10 {H : Type} : DataW H := .agg [.lit (.int .u64 1), .lit (.int .u64 10), .lit (.int .u64 100), .lit (.int .u64 1000), .lit (.int .u64 10000), .lit (.int .u64 100000), .lit (.int .u64 1000000), .lit (.int .u64 10000000), .lit (.int .u64 100000000), .lit (.int .u64 1000000000), .lit (.int .u64 10000000000), .lit (.int .u64 100000000000), .lit (.int .u64 1000000000000), .lit (.int .u64 10000000000000), .lit (.int .u64 100000000000000), .lit (.int .u64 1000000000000000), .lit (.int .u64 10000000000000000), .lit (.int .u64 100000000000000000), .lit (.int .u64 1000000000000000000), .lit (.int .u64 10000000000000000000)]

/-- 'laws.FnExactLabelPages': WHATEVER THE INPUT: true; the input reads as it did. -/
def fnExactLabelPagesSpec : ChangeSpec := { name := "fnExactLabelPages", fn := fun _ => fun
  | [d1, d2, d3] => { results := [.lit (.bool true)], args := [d1, d2, d3] }
  | _ => none }
def fnExactLabelPagesRow : OpenClaim := { program := "ytghhlakfbgcmkaadoor", sum := "ba9cd9bfc2673ddda90d4617a099178ae031b2daa48d74294913a0ad24b5bd0f", func := "loop.example/pagebuilder/laws.FnExactLabelPages", spec := "fnExactLabelPages", unfollowed := true, recurses := true, named := ["internal/strconv.uint64pow10", "math/bits.deBruijn32tab", "math/bits.deBruijn64tab"], apart := false, laid := [("math/bits.deBruijn32tab", laid_math_bits_deBruijn32tab), ("math/bits.deBruijn64tab", laid_math_bits_deBruijn64tab), ("internal/strconv.uint64pow10", laid_internal_strconv_uint64pow10)] }
def FnExactLabelPagesSaid : Prop := fnExactLabelPagesRow.holds Tryd.pinned (OpenSpec.ofChange fnExactLabelPagesSpec)

/-- ITS FALSE NEIGHBOUR: 'it returns false'. Refute it at one input. -/
def fnExactLabelPagesWrong : ChangeSpec := { name := "fnExactLabelPages", fn := fun _ => fun
  | [d1, d2, d3] => { results := [.lit (.bool false)], args := [d1, d2, d3] }
  | _ => none }
def FnExactLabelPagesWrongFalsely : Prop := fnExactLabelPagesRow.holds Tryd.pinned (OpenSpec.ofChange fnExactLabelPagesWrong)

/-- 'laws.FnLabelPages': WHATEVER THE INPUT: true; the input reads as it did. -/
def fnLabelPagesSpec : ChangeSpec := { name := "fnLabelPages", fn := fun _ => fun
  | [d] => { results := [.lit (.bool true)], args := [d] }
  | _ => none }
def fnLabelPagesRow : OpenClaim := { program := "ytghhlakfbgcmkaadoor", sum := "ba9cd9bfc2673ddda90d4617a099178ae031b2daa48d74294913a0ad24b5bd0f", func := "loop.example/pagebuilder/laws.FnLabelPages", spec := "fnLabelPages", unfollowed := true, recurses := true, named := ["internal/strconv.uint64pow10", "math/bits.deBruijn32tab", "math/bits.deBruijn64tab"], apart := false, laid := [("math/bits.deBruijn32tab", laid_math_bits_deBruijn32tab), ("math/bits.deBruijn64tab", laid_math_bits_deBruijn64tab), ("internal/strconv.uint64pow10", laid_internal_strconv_uint64pow10)] }
def FnLabelPagesSaid : Prop := fnLabelPagesRow.holds Tryd.pinned (OpenSpec.ofChange fnLabelPagesSpec)

/-- ITS FALSE NEIGHBOUR: 'it returns false'. Refute it at one input. -/
def fnLabelPagesWrong : ChangeSpec := { name := "fnLabelPages", fn := fun _ => fun
  | [d] => { results := [.lit (.bool false)], args := [d] }
  | _ => none }
def FnLabelPagesWrongFalsely : Prop := fnLabelPagesRow.holds Tryd.pinned (OpenSpec.ofChange fnLabelPagesWrong)

/-- 'laws.FnExactSettleLabels': WHATEVER THE INPUT: true; the input reads as it did. -/
def fnExactSettleLabelsSpec : ChangeSpec := { name := "fnExactSettleLabels", fn := fun _ => fun
  | [d1, d2] => { results := [.lit (.bool true)], args := [d1, d2] }
  | _ => none }
def fnExactSettleLabelsRow : OpenClaim := { program := "ytghhlakfbgcmkaadoor", sum := "ba9cd9bfc2673ddda90d4617a099178ae031b2daa48d74294913a0ad24b5bd0f", func := "loop.example/pagebuilder/laws.FnExactSettleLabels", spec := "fnExactSettleLabels", unfollowed := true, recurses := true, named := ["internal/strconv.uint64pow10", "math/bits.deBruijn32tab", "math/bits.deBruijn64tab"], apart := false, laid := [("math/bits.deBruijn32tab", laid_math_bits_deBruijn32tab), ("math/bits.deBruijn64tab", laid_math_bits_deBruijn64tab), ("internal/strconv.uint64pow10", laid_internal_strconv_uint64pow10)] }
def FnExactSettleLabelsSaid : Prop := fnExactSettleLabelsRow.holds Tryd.pinned (OpenSpec.ofChange fnExactSettleLabelsSpec)

/-- ITS FALSE NEIGHBOUR: 'it returns false'. Refute it at one input. -/
def fnExactSettleLabelsWrong : ChangeSpec := { name := "fnExactSettleLabels", fn := fun _ => fun
  | [d1, d2] => { results := [.lit (.bool false)], args := [d1, d2] }
  | _ => none }
def FnExactSettleLabelsWrongFalsely : Prop := fnExactSettleLabelsRow.holds Tryd.pinned (OpenSpec.ofChange fnExactSettleLabelsWrong)

/-- 'laws.FnSettleLabels': WHATEVER THE INPUT: true; the input reads as it did. -/
def fnSettleLabelsSpec : ChangeSpec := { name := "fnSettleLabels", fn := fun _ => fun
  | [d] => { results := [.lit (.bool true)], args := [d] }
  | _ => none }
def fnSettleLabelsRow : OpenClaim := { program := "ytghhlakfbgcmkaadoor", sum := "ba9cd9bfc2673ddda90d4617a099178ae031b2daa48d74294913a0ad24b5bd0f", func := "loop.example/pagebuilder/laws.FnSettleLabels", spec := "fnSettleLabels", unfollowed := true, recurses := true, named := ["internal/strconv.uint64pow10", "math/bits.deBruijn32tab", "math/bits.deBruijn64tab"], apart := false, laid := [("math/bits.deBruijn32tab", laid_math_bits_deBruijn32tab), ("math/bits.deBruijn64tab", laid_math_bits_deBruijn64tab), ("internal/strconv.uint64pow10", laid_internal_strconv_uint64pow10)] }
def FnSettleLabelsSaid : Prop := fnSettleLabelsRow.holds Tryd.pinned (OpenSpec.ofChange fnSettleLabelsSpec)

/-- ITS FALSE NEIGHBOUR: 'it returns false'. Refute it at one input. -/
def fnSettleLabelsWrong : ChangeSpec := { name := "fnSettleLabels", fn := fun _ => fun
  | [d] => { results := [.lit (.bool false)], args := [d] }
  | _ => none }
def FnSettleLabelsWrongFalsely : Prop := fnSettleLabelsRow.holds Tryd.pinned (OpenSpec.ofChange fnSettleLabelsWrong)

/-- 'laws.FnLabelsFew': WHATEVER THE INPUT: true; the input reads as it did. -/
def fnLabelsFewSpec : ChangeSpec := { name := "fnLabelsFew", fn := fun _ => fun
  | [d] => { results := [.lit (.bool true)], args := [d] }
  | _ => none }
def fnLabelsFewRow : OpenClaim := { program := "ytghhlakfbgcmkaadoor", sum := "ba9cd9bfc2673ddda90d4617a099178ae031b2daa48d74294913a0ad24b5bd0f", func := "loop.example/pagebuilder/laws.FnLabelsFew", spec := "fnLabelsFew", unfollowed := true, recurses := true, named := ["internal/strconv.uint64pow10", "math/bits.deBruijn32tab", "math/bits.deBruijn64tab"], apart := false, laid := [("math/bits.deBruijn32tab", laid_math_bits_deBruijn32tab), ("math/bits.deBruijn64tab", laid_math_bits_deBruijn64tab), ("internal/strconv.uint64pow10", laid_internal_strconv_uint64pow10)] }
def FnLabelsFewSaid : Prop := fnLabelsFewRow.holds Tryd.pinned (OpenSpec.ofChange fnLabelsFewSpec)

/-- ITS FALSE NEIGHBOUR: 'it returns false'. Refute it at one input. -/
def fnLabelsFewWrong : ChangeSpec := { name := "fnLabelsFew", fn := fun _ => fun
  | [d] => { results := [.lit (.bool false)], args := [d] }
  | _ => none }
def FnLabelsFewWrongFalsely : Prop := fnLabelsFewRow.holds Tryd.pinned (OpenSpec.ofChange fnLabelsFewWrong)

/-- 'laws.FnLabelsRight': WHATEVER THE INPUT: true; the input reads as it did. -/
def fnLabelsRightSpec : ChangeSpec := { name := "fnLabelsRight", fn := fun _ => fun
  | [d] => { results := [.lit (.bool true)], args := [d] }
  | _ => none }
def fnLabelsRightRow : OpenClaim := { program := "ytghhlakfbgcmkaadoor", sum := "ba9cd9bfc2673ddda90d4617a099178ae031b2daa48d74294913a0ad24b5bd0f", func := "loop.example/pagebuilder/laws.FnLabelsRight", spec := "fnLabelsRight", unfollowed := true, recurses := true, named := ["internal/strconv.uint64pow10", "math/bits.deBruijn32tab", "math/bits.deBruijn64tab"], apart := false, laid := [("math/bits.deBruijn32tab", laid_math_bits_deBruijn32tab), ("math/bits.deBruijn64tab", laid_math_bits_deBruijn64tab), ("internal/strconv.uint64pow10", laid_internal_strconv_uint64pow10)] }
def FnLabelsRightSaid : Prop := fnLabelsRightRow.holds Tryd.pinned (OpenSpec.ofChange fnLabelsRightSpec)

/-- ITS FALSE NEIGHBOUR: 'it returns false'. Refute it at one input. -/
def fnLabelsRightWrong : ChangeSpec := { name := "fnLabelsRight", fn := fun _ => fun
  | [d] => { results := [.lit (.bool false)], args := [d] }
  | _ => none }
def FnLabelsRightWrongFalsely : Prop := fnLabelsRightRow.holds Tryd.pinned (OpenSpec.ofChange fnLabelsRightWrong)

/-- 'laws.FnExactLabelsRight': WHATEVER THE INPUT: true; the input reads as it did. -/
def fnExactLabelsRightSpec : ChangeSpec := { name := "fnExactLabelsRight", fn := fun _ => fun
  | [d1, d2, d3] => { results := [.lit (.bool true)], args := [d1, d2, d3] }
  | _ => none }
def fnExactLabelsRightRow : OpenClaim := { program := "ytghhlakfbgcmkaadoor", sum := "ba9cd9bfc2673ddda90d4617a099178ae031b2daa48d74294913a0ad24b5bd0f", func := "loop.example/pagebuilder/laws.FnExactLabelsRight", spec := "fnExactLabelsRight", unfollowed := true, recurses := true, named := ["internal/strconv.uint64pow10", "math/bits.deBruijn32tab", "math/bits.deBruijn64tab"], apart := false, laid := [("math/bits.deBruijn32tab", laid_math_bits_deBruijn32tab), ("math/bits.deBruijn64tab", laid_math_bits_deBruijn64tab), ("internal/strconv.uint64pow10", laid_internal_strconv_uint64pow10)] }
def FnExactLabelsRightSaid : Prop := fnExactLabelsRightRow.holds Tryd.pinned (OpenSpec.ofChange fnExactLabelsRightSpec)

/-- ITS FALSE NEIGHBOUR: 'it returns false'. Refute it at one input. -/
def fnExactLabelsRightWrong : ChangeSpec := { name := "fnExactLabelsRight", fn := fun _ => fun
  | [d1, d2, d3] => { results := [.lit (.bool false)], args := [d1, d2, d3] }
  | _ => none }
def FnExactLabelsRightWrongFalsely : Prop := fnExactLabelsRightRow.holds Tryd.pinned (OpenSpec.ofChange fnExactLabelsRightWrong)

/- THE SECOND FORM. 'bulk': how many values and letters a reading holds, each counted each time it is reached (what is shared counts as often as it is met; a slice's spare places count too). A statement '..UptoSaid' is the law's where the arguments, and the package variables that the reading takes, are together of bulk at most 1048576: NARROWER than '..Said'. Prove '..Said' where nothing that the law and all that it calls make is longer than what came in: it says more and counts as full. Else prove '..UptoSaid'. A law counts once. -/
mutual
def uptoBulk {H : Type} : DataW H → Nat
  | .lit (.string bytes) => bytes.length + 1
  | .lit _ => 1
  | .nil => 1
  | .ptr d => uptoBulk d + 1
  | .slice elems spare => uptoBulkAll elems + uptoBulkAll spare + 1
  | .agg parts => uptoBulkAll parts + 1
  | .iface _ d => uptoBulk d + 1
  | .map entries => uptoBulkEntries entries + 1
  | .held _ => 1
def uptoBulkAll {H : Type} : List (DataW H) → Nat
  | [] => 0
  | d :: r => uptoBulk d + uptoBulkAll r
def uptoBulkEntries {H : Type} : List (Lit × DataW H) → Nat
  | [] => 0
  | x :: r => uptoBulkEntry x + uptoBulkEntries r
def uptoBulkEntry {H : Type} : Lit × DataW H → Nat
  | (.string bytes, d) => bytes.length + uptoBulk d + 1
  | (_, d) => uptoBulk d + 1
 end
def uptoSmall : (H : Type) → List (DataW H) → Bool := fun _ ds => decide (uptoBulkAll ds ≤ 1048576)
def OpenSpec.upto (s : _root_.Go.ChangeSpec) : _root_.Go.OpenSpec := { _root_.Go.OpenSpec.ofChange s with cond := some uptoSmall }

/-- 'laws.FnExactLabelPages', WHERE WHAT IT READS IS OF BULK AT MOST 1048576: true; the input reads as it did. -/
def fnExactLabelPagesUptoRow : OpenClaim := { program := "ytghhlakfbgcmkaadoor", sum := "ba9cd9bfc2673ddda90d4617a099178ae031b2daa48d74294913a0ad24b5bd0f", func := "loop.example/pagebuilder/laws.FnExactLabelPages", spec := "fnExactLabelPages", unfollowed := true, recurses := true, named := ["internal/strconv.uint64pow10", "math/bits.deBruijn32tab", "math/bits.deBruijn64tab"], apart := false, laid := [("math/bits.deBruijn32tab", laid_math_bits_deBruijn32tab), ("math/bits.deBruijn64tab", laid_math_bits_deBruijn64tab), ("internal/strconv.uint64pow10", laid_internal_strconv_uint64pow10)], narrowed := true }
def FnExactLabelPagesUptoSaid : Prop := fnExactLabelPagesUptoRow.holds Tryd.pinned (OpenSpec.upto fnExactLabelPagesSpec)

/-- 'laws.FnLabelPages', WHERE WHAT IT READS IS OF BULK AT MOST 1048576: true; the input reads as it did. -/
def fnLabelPagesUptoRow : OpenClaim := { program := "ytghhlakfbgcmkaadoor", sum := "ba9cd9bfc2673ddda90d4617a099178ae031b2daa48d74294913a0ad24b5bd0f", func := "loop.example/pagebuilder/laws.FnLabelPages", spec := "fnLabelPages", unfollowed := true, recurses := true, named := ["internal/strconv.uint64pow10", "math/bits.deBruijn32tab", "math/bits.deBruijn64tab"], apart := false, laid := [("math/bits.deBruijn32tab", laid_math_bits_deBruijn32tab), ("math/bits.deBruijn64tab", laid_math_bits_deBruijn64tab), ("internal/strconv.uint64pow10", laid_internal_strconv_uint64pow10)], narrowed := true }
def FnLabelPagesUptoSaid : Prop := fnLabelPagesUptoRow.holds Tryd.pinned (OpenSpec.upto fnLabelPagesSpec)

/-- 'laws.FnExactSettleLabels', WHERE WHAT IT READS IS OF BULK AT MOST 1048576: true; the input reads as it did. -/
def fnExactSettleLabelsUptoRow : OpenClaim := { program := "ytghhlakfbgcmkaadoor", sum := "ba9cd9bfc2673ddda90d4617a099178ae031b2daa48d74294913a0ad24b5bd0f", func := "loop.example/pagebuilder/laws.FnExactSettleLabels", spec := "fnExactSettleLabels", unfollowed := true, recurses := true, named := ["internal/strconv.uint64pow10", "math/bits.deBruijn32tab", "math/bits.deBruijn64tab"], apart := false, laid := [("math/bits.deBruijn32tab", laid_math_bits_deBruijn32tab), ("math/bits.deBruijn64tab", laid_math_bits_deBruijn64tab), ("internal/strconv.uint64pow10", laid_internal_strconv_uint64pow10)], narrowed := true }
def FnExactSettleLabelsUptoSaid : Prop := fnExactSettleLabelsUptoRow.holds Tryd.pinned (OpenSpec.upto fnExactSettleLabelsSpec)

/-- 'laws.FnSettleLabels', WHERE WHAT IT READS IS OF BULK AT MOST 1048576: true; the input reads as it did. -/
def fnSettleLabelsUptoRow : OpenClaim := { program := "ytghhlakfbgcmkaadoor", sum := "ba9cd9bfc2673ddda90d4617a099178ae031b2daa48d74294913a0ad24b5bd0f", func := "loop.example/pagebuilder/laws.FnSettleLabels", spec := "fnSettleLabels", unfollowed := true, recurses := true, named := ["internal/strconv.uint64pow10", "math/bits.deBruijn32tab", "math/bits.deBruijn64tab"], apart := false, laid := [("math/bits.deBruijn32tab", laid_math_bits_deBruijn32tab), ("math/bits.deBruijn64tab", laid_math_bits_deBruijn64tab), ("internal/strconv.uint64pow10", laid_internal_strconv_uint64pow10)], narrowed := true }
def FnSettleLabelsUptoSaid : Prop := fnSettleLabelsUptoRow.holds Tryd.pinned (OpenSpec.upto fnSettleLabelsSpec)

/-- 'laws.FnLabelsFew', WHERE WHAT IT READS IS OF BULK AT MOST 1048576: true; the input reads as it did. -/
def fnLabelsFewUptoRow : OpenClaim := { program := "ytghhlakfbgcmkaadoor", sum := "ba9cd9bfc2673ddda90d4617a099178ae031b2daa48d74294913a0ad24b5bd0f", func := "loop.example/pagebuilder/laws.FnLabelsFew", spec := "fnLabelsFew", unfollowed := true, recurses := true, named := ["internal/strconv.uint64pow10", "math/bits.deBruijn32tab", "math/bits.deBruijn64tab"], apart := false, laid := [("math/bits.deBruijn32tab", laid_math_bits_deBruijn32tab), ("math/bits.deBruijn64tab", laid_math_bits_deBruijn64tab), ("internal/strconv.uint64pow10", laid_internal_strconv_uint64pow10)], narrowed := true }
def FnLabelsFewUptoSaid : Prop := fnLabelsFewUptoRow.holds Tryd.pinned (OpenSpec.upto fnLabelsFewSpec)

/-- 'laws.FnLabelsRight', WHERE WHAT IT READS IS OF BULK AT MOST 1048576: true; the input reads as it did. -/
def fnLabelsRightUptoRow : OpenClaim := { program := "ytghhlakfbgcmkaadoor", sum := "ba9cd9bfc2673ddda90d4617a099178ae031b2daa48d74294913a0ad24b5bd0f", func := "loop.example/pagebuilder/laws.FnLabelsRight", spec := "fnLabelsRight", unfollowed := true, recurses := true, named := ["internal/strconv.uint64pow10", "math/bits.deBruijn32tab", "math/bits.deBruijn64tab"], apart := false, laid := [("math/bits.deBruijn32tab", laid_math_bits_deBruijn32tab), ("math/bits.deBruijn64tab", laid_math_bits_deBruijn64tab), ("internal/strconv.uint64pow10", laid_internal_strconv_uint64pow10)], narrowed := true }
def FnLabelsRightUptoSaid : Prop := fnLabelsRightUptoRow.holds Tryd.pinned (OpenSpec.upto fnLabelsRightSpec)

/-- 'laws.FnExactLabelsRight', WHERE WHAT IT READS IS OF BULK AT MOST 1048576: true; the input reads as it did. -/
def fnExactLabelsRightUptoRow : OpenClaim := { program := "ytghhlakfbgcmkaadoor", sum := "ba9cd9bfc2673ddda90d4617a099178ae031b2daa48d74294913a0ad24b5bd0f", func := "loop.example/pagebuilder/laws.FnExactLabelsRight", spec := "fnExactLabelsRight", unfollowed := true, recurses := true, named := ["internal/strconv.uint64pow10", "math/bits.deBruijn32tab", "math/bits.deBruijn64tab"], apart := false, laid := [("math/bits.deBruijn32tab", laid_math_bits_deBruijn32tab), ("math/bits.deBruijn64tab", laid_math_bits_deBruijn64tab), ("internal/strconv.uint64pow10", laid_internal_strconv_uint64pow10)], narrowed := true }
def FnExactLabelsRightUptoSaid : Prop := fnExactLabelsRightUptoRow.holds Tryd.pinned (OpenSpec.upto fnExactLabelsRightSpec)

end Rows
end Go.Proofs.YtghhlakfbgcmkaaDoor
