/-
  No cell of these rows narrows 'for every input' (looked for: loops, veiled, ifaces, maps, wideKeys, modest, calm, conditions, laid).
  DERIVED. THE GIVEN ROWS OF THIS SEAT. 5 by the template 'for every input the law returns true; each argument reads behind the call as it read before'; 0 by the template 'total and deterministic' (their statements: YtngcedklbinhjaaTotals.lean).
  GIVEN WITH THE SEED: the statements are not yours to turn. If you find one false, say at which input.
  Laid BY PROGRAM, IN A SANDBOX (cutbox-rows.mjs): the forced cells as the released guide's own fill.sh prints them over the translation c8e2a2f58f3c88da… (all of the seat's roots in one cut). By AI agents, Wed Nov 11 2026. No macro, syntax, notation, axiom, sorry.
-/
import Derived.Test.YtngcedklbinhjaaChecked
import GoSem.Claim
import GoSem.ClaimJoined
import GoSem.ClaimMapViews
import Derived.JoinedTies
import Derived.KernelRfl
namespace Go.Proofs.Ytngcedklbinhjaa
/- THE CELL 'sum', in the pinned program and in every row, IS THE sha256 OF THE DUMP (.gsa) THAT YtngcedklbinhjaaProg.lean LOADS. Nothing in Lean hashes anything: it is a label: what it is worth is what the hold of that sum in a sandbox is worth. -/
noncomputable def Try.pinned : Pinned := { name := "ytngcedklbinhjaa", sum := "c8e2a2f58f3c88dadb87d41642f8a8abd6da8e5beac5c478b2ae4f16a79d5c1d", checked := Try.checked }
namespace Rows
def none {H : Type} : Left H := { results := [], args := [] }

/-- 'laws.FnHyphenLines': WHATEVER THE INPUT: true; the input reads as it did. -/
def fnHyphenLinesSpec : ChangeSpec := { name := "fnHyphenLines", fn := fun _ => fun
  | [d] => { results := [.lit (.bool true)], args := [d] }
  | _ => none }
def fnHyphenLinesRow : OpenClaim := { program := "ytngcedklbinhjaa", sum := "c8e2a2f58f3c88dadb87d41642f8a8abd6da8e5beac5c478b2ae4f16a79d5c1d", func := "loop.example/pagebuilder/laws.FnHyphenLines", spec := "fnHyphenLines", plainKeys := false, apart := false }
def FnHyphenLinesSaid : Prop := fnHyphenLinesRow.holds Try.pinned (OpenSpec.ofChange fnHyphenLinesSpec)

/-- ITS FALSE NEIGHBOUR: 'it returns false'. Refute it at one input. -/
def fnHyphenLinesWrong : ChangeSpec := { name := "fnHyphenLines", fn := fun _ => fun
  | [d] => { results := [.lit (.bool false)], args := [d] }
  | _ => none }
def FnHyphenLinesWrongFalsely : Prop := fnHyphenLinesRow.holds Try.pinned (OpenSpec.ofChange fnHyphenLinesWrong)

/-- 'laws.FnExactParagraphLines': WHATEVER THE INPUT: true; the input reads as it did. -/
def fnExactParagraphLinesSpec : ChangeSpec := { name := "fnExactParagraphLines", fn := fun _ => fun
  | [d1, d2, d3, d4] => { results := [.lit (.bool true)], args := [d1, d2, d3, d4] }
  | _ => none }
def fnExactParagraphLinesRow : OpenClaim := { program := "ytngcedklbinhjaa", sum := "c8e2a2f58f3c88dadb87d41642f8a8abd6da8e5beac5c478b2ae4f16a79d5c1d", func := "loop.example/pagebuilder/laws.FnExactParagraphLines", spec := "fnExactParagraphLines", inPlace := ["internal/bytealg.IndexByteString"], recurses := true, plainKeys := false, apart := false }
def FnExactParagraphLinesSaid : Prop := fnExactParagraphLinesRow.holds Try.pinned (OpenSpec.ofChange fnExactParagraphLinesSpec)

/-- ITS FALSE NEIGHBOUR: 'it returns false'. Refute it at one input. -/
def fnExactParagraphLinesWrong : ChangeSpec := { name := "fnExactParagraphLines", fn := fun _ => fun
  | [d1, d2, d3, d4] => { results := [.lit (.bool false)], args := [d1, d2, d3, d4] }
  | _ => none }
def FnExactParagraphLinesWrongFalsely : Prop := fnExactParagraphLinesRow.holds Try.pinned (OpenSpec.ofChange fnExactParagraphLinesWrong)

/-- 'laws.FnHyphenFree': WHATEVER THE INPUT: true; the input reads as it did. -/
def fnHyphenFreeSpec : ChangeSpec := { name := "fnHyphenFree", fn := fun _ => fun
  | [d] => { results := [.lit (.bool true)], args := [d] }
  | _ => none }
def fnHyphenFreeRow : OpenClaim := { program := "ytngcedklbinhjaa", sum := "c8e2a2f58f3c88dadb87d41642f8a8abd6da8e5beac5c478b2ae4f16a79d5c1d", func := "loop.example/pagebuilder/laws.FnHyphenFree", spec := "fnHyphenFree", inPlace := ["internal/bytealg.IndexByteString"], recurses := true, plainKeys := false, apart := false }
def FnHyphenFreeSaid : Prop := fnHyphenFreeRow.holds Try.pinned (OpenSpec.ofChange fnHyphenFreeSpec)

/-- ITS FALSE NEIGHBOUR: 'it returns false'. Refute it at one input. -/
def fnHyphenFreeWrong : ChangeSpec := { name := "fnHyphenFree", fn := fun _ => fun
  | [d] => { results := [.lit (.bool false)], args := [d] }
  | _ => none }
def FnHyphenFreeWrongFalsely : Prop := fnHyphenFreeRow.holds Try.pinned (OpenSpec.ofChange fnHyphenFreeWrong)

/-- 'laws.FnBookParts': WHATEVER THE INPUT: true; the input reads as it did. -/
def fnBookPartsSpec : ChangeSpec := { name := "fnBookParts", fn := fun _ => fun
  | [d] => { results := [.lit (.bool true)], args := [d] }
  | _ => none }
def fnBookPartsRow : OpenClaim := { program := "ytngcedklbinhjaa", sum := "c8e2a2f58f3c88dadb87d41642f8a8abd6da8e5beac5c478b2ae4f16a79d5c1d", func := "loop.example/pagebuilder/laws.FnBookParts", spec := "fnBookParts", inPlace := ["internal/bytealg.IndexByteString"], recurses := true, plainKeys := false, apart := false }
def FnBookPartsSaid : Prop := fnBookPartsRow.holds Try.pinned (OpenSpec.ofChange fnBookPartsSpec)

/-- ITS FALSE NEIGHBOUR: 'it returns false'. Refute it at one input. -/
def fnBookPartsWrong : ChangeSpec := { name := "fnBookParts", fn := fun _ => fun
  | [d] => { results := [.lit (.bool false)], args := [d] }
  | _ => none }
def FnBookPartsWrongFalsely : Prop := fnBookPartsRow.holds Try.pinned (OpenSpec.ofChange fnBookPartsWrong)

/-- 'laws.FnExactBookLines': WHATEVER THE INPUT: true; the input reads as it did. -/
def fnExactBookLinesSpec : ChangeSpec := { name := "fnExactBookLines", fn := fun _ => fun
  | [d] => { results := [.lit (.bool true)], args := [d] }
  | _ => none }
def fnExactBookLinesRow : OpenClaim := { program := "ytngcedklbinhjaa", sum := "c8e2a2f58f3c88dadb87d41642f8a8abd6da8e5beac5c478b2ae4f16a79d5c1d", func := "loop.example/pagebuilder/laws.FnExactBookLines", spec := "fnExactBookLines", inPlace := ["internal/bytealg.IndexByteString"], recurses := true, plainKeys := false, apart := false }
def FnExactBookLinesSaid : Prop := fnExactBookLinesRow.holds Try.pinned (OpenSpec.ofChange fnExactBookLinesSpec)

/-- ITS FALSE NEIGHBOUR: 'it returns false'. Refute it at one input. -/
def fnExactBookLinesWrong : ChangeSpec := { name := "fnExactBookLines", fn := fun _ => fun
  | [d] => { results := [.lit (.bool false)], args := [d] }
  | _ => none }
def FnExactBookLinesWrongFalsely : Prop := fnExactBookLinesRow.holds Try.pinned (OpenSpec.ofChange fnExactBookLinesWrong)

/- THE SECOND FORM. 'bulk': how many values and letters a reading holds, each counted each time it is reached (what is shared counts as often as it is met; a slice's spare places count too). A statement '..UptoSaid' is the law's where the arguments, and the package variables that the reading takes, are together of bulk at most 1048576: NARROWER than '..Said'. Prove '..Said' where nothing that the law and all that it calls make is longer than what came in: it says more and counts as full. Else prove '..UptoSaid'. A law counts once. -/
mutual
def uptoBulk {H : Type} : DataW H → Nat
  | .lit (.string bytes) => bytes.length + 1
  | .lit _ => 1
  | .nil => 1
  | .ptr d => uptoBulk d + 1
  | .slice elems spare => uptoBulkAll elems + uptoBulkAll spare + 1
  | .agg parts => uptoBulkAll parts + 1
  | .iface _ d => uptoBulk d + 1
  | .map entries => uptoBulkEntries entries + 1
  | .held _ => 1
def uptoBulkAll {H : Type} : List (DataW H) → Nat
  | [] => 0
  | d :: r => uptoBulk d + uptoBulkAll r
def uptoBulkEntries {H : Type} : List (Lit × DataW H) → Nat
  | [] => 0
  | x :: r => uptoBulkEntry x + uptoBulkEntries r
def uptoBulkEntry {H : Type} : Lit × DataW H → Nat
  | (.string bytes, d) => bytes.length + uptoBulk d + 1
  | (_, d) => uptoBulk d + 1
 end
def uptoSmall : (H : Type) → List (DataW H) → Bool := fun _ ds => decide (uptoBulkAll ds ≤ 1048576)
def OpenSpec.upto (s : _root_.Go.ChangeSpec) : _root_.Go.OpenSpec := { _root_.Go.OpenSpec.ofChange s with cond := some uptoSmall }

/-- 'laws.FnHyphenLines', WHERE WHAT IT READS IS OF BULK AT MOST 1048576: true; the input reads as it did. -/
def fnHyphenLinesUptoRow : OpenClaim := { program := "ytngcedklbinhjaa", sum := "c8e2a2f58f3c88dadb87d41642f8a8abd6da8e5beac5c478b2ae4f16a79d5c1d", func := "loop.example/pagebuilder/laws.FnHyphenLines", spec := "fnHyphenLines", plainKeys := false, apart := false, narrowed := true }
def FnHyphenLinesUptoSaid : Prop := fnHyphenLinesUptoRow.holds Try.pinned (OpenSpec.upto fnHyphenLinesSpec)

/-- 'laws.FnExactParagraphLines', WHERE WHAT IT READS IS OF BULK AT MOST 1048576: true; the input reads as it did. -/
def fnExactParagraphLinesUptoRow : OpenClaim := { program := "ytngcedklbinhjaa", sum := "c8e2a2f58f3c88dadb87d41642f8a8abd6da8e5beac5c478b2ae4f16a79d5c1d", func := "loop.example/pagebuilder/laws.FnExactParagraphLines", spec := "fnExactParagraphLines", inPlace := ["internal/bytealg.IndexByteString"], recurses := true, plainKeys := false, apart := false, narrowed := true }
def FnExactParagraphLinesUptoSaid : Prop := fnExactParagraphLinesUptoRow.holds Try.pinned (OpenSpec.upto fnExactParagraphLinesSpec)

/-- 'laws.FnHyphenFree', WHERE WHAT IT READS IS OF BULK AT MOST 1048576: true; the input reads as it did. -/
def fnHyphenFreeUptoRow : OpenClaim := { program := "ytngcedklbinhjaa", sum := "c8e2a2f58f3c88dadb87d41642f8a8abd6da8e5beac5c478b2ae4f16a79d5c1d", func := "loop.example/pagebuilder/laws.FnHyphenFree", spec := "fnHyphenFree", inPlace := ["internal/bytealg.IndexByteString"], recurses := true, plainKeys := false, apart := false, narrowed := true }
def FnHyphenFreeUptoSaid : Prop := fnHyphenFreeUptoRow.holds Try.pinned (OpenSpec.upto fnHyphenFreeSpec)

/-- 'laws.FnBookParts', WHERE WHAT IT READS IS OF BULK AT MOST 1048576: true; the input reads as it did. -/
def fnBookPartsUptoRow : OpenClaim := { program := "ytngcedklbinhjaa", sum := "c8e2a2f58f3c88dadb87d41642f8a8abd6da8e5beac5c478b2ae4f16a79d5c1d", func := "loop.example/pagebuilder/laws.FnBookParts", spec := "fnBookParts", inPlace := ["internal/bytealg.IndexByteString"], recurses := true, plainKeys := false, apart := false, narrowed := true }
def FnBookPartsUptoSaid : Prop := fnBookPartsUptoRow.holds Try.pinned (OpenSpec.upto fnBookPartsSpec)

/-- 'laws.FnExactBookLines', WHERE WHAT IT READS IS OF BULK AT MOST 1048576: true; the input reads as it did. -/
def fnExactBookLinesUptoRow : OpenClaim := { program := "ytngcedklbinhjaa", sum := "c8e2a2f58f3c88dadb87d41642f8a8abd6da8e5beac5c478b2ae4f16a79d5c1d", func := "loop.example/pagebuilder/laws.FnExactBookLines", spec := "fnExactBookLines", inPlace := ["internal/bytealg.IndexByteString"], recurses := true, plainKeys := false, apart := false, narrowed := true }
def FnExactBookLinesUptoSaid : Prop := fnExactBookLinesUptoRow.holds Try.pinned (OpenSpec.upto fnExactBookLinesSpec)

end Rows
end Go.Proofs.Ytngcedklbinhjaa
