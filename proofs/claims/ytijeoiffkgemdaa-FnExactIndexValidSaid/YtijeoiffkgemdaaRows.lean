/-
  No cell of these rows narrows 'for every input' (looked for: loops, veiled, ifaces, maps, wideKeys, modest, calm, conditions, laid).
  DERIVED. THE GIVEN ROWS OF THIS SEAT. 12 by the template 'for every input the law returns true; each argument reads behind the call as it read before'; 0 by the template 'total and deterministic' (their statements: YtijeoiffkgemdaaTotals.lean).
  GIVEN WITH THE SEED: the statements are not yours to turn. If you find one false, say at which input.
  Laid BY PROGRAM, IN A SANDBOX (cutbox-rows.mjs): the forced cells as the released guide's own fill.sh prints them over the translation 38722f7533bcdc1f… (all of the seat's roots in one cut). By AI agents, Wed Nov 11 2026. No macro, syntax, notation, axiom, sorry.
-/
import Derived.Test.YtijeoiffkgemdaaChecked
import GoSem.Claim
import GoSem.ClaimJoined
import GoSem.ClaimMapViews
import Derived.JoinedTies
import Derived.KernelRfl
namespace Go.Proofs.Ytijeoiffkgemdaa
/- THE CELL 'sum', in the pinned program and in every row, IS THE sha256 OF THE DUMP (.gsa) THAT YtijeoiffkgemdaaProg.lean LOADS. Nothing in Lean hashes anything: it is a label: what it is worth is what the hold of that sum in a sandbox is worth. -/
noncomputable def Try.pinned : Pinned := { name := "ytijeoiffkgemdaa", sum := "38722f7533bcdc1f1b9ed1b9e5c39220739e0f2393a7a0ac266b187132dbd035", checked := Try.checked }
namespace Rows
def none {H : Type} : Left H := { results := [], args := [] }

/-- 'laws.FnExactBoxValid': WHATEVER THE INPUT: true; the input reads as it did. -/
def fnExactBoxValidSpec : ChangeSpec := { name := "fnExactBoxValid", fn := fun _ => fun
  | [d] => { results := [.lit (.bool true)], args := [d] }
  | _ => none }
def fnExactBoxValidRow : OpenClaim := { program := "ytijeoiffkgemdaa", sum := "38722f7533bcdc1f1b9ed1b9e5c39220739e0f2393a7a0ac266b187132dbd035", func := "loop.example/pagebuilder/laws.FnExactBoxValid", spec := "fnExactBoxValid", apart := false }
def FnExactBoxValidSaid : Prop := fnExactBoxValidRow.holds Try.pinned (OpenSpec.ofChange fnExactBoxValidSpec)

/-- ITS FALSE NEIGHBOUR: 'it returns false'. Refute it at one input. -/
def fnExactBoxValidWrong : ChangeSpec := { name := "fnExactBoxValid", fn := fun _ => fun
  | [d] => { results := [.lit (.bool false)], args := [d] }
  | _ => none }
def FnExactBoxValidWrongFalsely : Prop := fnExactBoxValidRow.holds Try.pinned (OpenSpec.ofChange fnExactBoxValidWrong)

/-- 'laws.FnExactPagesValid': WHATEVER THE INPUT: true; the input reads as it did. -/
def fnExactPagesValidSpec : ChangeSpec := { name := "fnExactPagesValid", fn := fun _ => fun
  | [d] => { results := [.lit (.bool true)], args := [d] }
  | _ => none }
def fnExactPagesValidRow : OpenClaim := { program := "ytijeoiffkgemdaa", sum := "38722f7533bcdc1f1b9ed1b9e5c39220739e0f2393a7a0ac266b187132dbd035", func := "loop.example/pagebuilder/laws.FnExactPagesValid", spec := "fnExactPagesValid", apart := false }
def FnExactPagesValidSaid : Prop := fnExactPagesValidRow.holds Try.pinned (OpenSpec.ofChange fnExactPagesValidSpec)

/-- ITS FALSE NEIGHBOUR: 'it returns false'. Refute it at one input. -/
def fnExactPagesValidWrong : ChangeSpec := { name := "fnExactPagesValid", fn := fun _ => fun
  | [d] => { results := [.lit (.bool false)], args := [d] }
  | _ => none }
def FnExactPagesValidWrongFalsely : Prop := fnExactPagesValidRow.holds Try.pinned (OpenSpec.ofChange fnExactPagesValidWrong)

/-- 'laws.FnBoxValid': WHATEVER THE INPUT: true; the input reads as it did. -/
def fnBoxValidSpec : ChangeSpec := { name := "fnBoxValid", fn := fun _ => fun
  | [d] => { results := [.lit (.bool true)], args := [d] }
  | _ => none }
def fnBoxValidRow : OpenClaim := { program := "ytijeoiffkgemdaa", sum := "38722f7533bcdc1f1b9ed1b9e5c39220739e0f2393a7a0ac266b187132dbd035", func := "loop.example/pagebuilder/laws.FnBoxValid", spec := "fnBoxValid", apart := false }
def FnBoxValidSaid : Prop := fnBoxValidRow.holds Try.pinned (OpenSpec.ofChange fnBoxValidSpec)

/-- ITS FALSE NEIGHBOUR: 'it returns false'. Refute it at one input. -/
def fnBoxValidWrong : ChangeSpec := { name := "fnBoxValid", fn := fun _ => fun
  | [d] => { results := [.lit (.bool false)], args := [d] }
  | _ => none }
def FnBoxValidWrongFalsely : Prop := fnBoxValidRow.holds Try.pinned (OpenSpec.ofChange fnBoxValidWrong)

/-- 'laws.FnExactHyphenLines': WHATEVER THE INPUT: true; the input reads as it did. -/
def fnExactHyphenLinesSpec : ChangeSpec := { name := "fnExactHyphenLines", fn := fun _ => fun
  | [d] => { results := [.lit (.bool true)], args := [d] }
  | _ => none }
def fnExactHyphenLinesRow : OpenClaim := { program := "ytijeoiffkgemdaa", sum := "38722f7533bcdc1f1b9ed1b9e5c39220739e0f2393a7a0ac266b187132dbd035", func := "loop.example/pagebuilder/laws.FnExactHyphenLines", spec := "fnExactHyphenLines", apart := false }
def FnExactHyphenLinesSaid : Prop := fnExactHyphenLinesRow.holds Try.pinned (OpenSpec.ofChange fnExactHyphenLinesSpec)

/-- ITS FALSE NEIGHBOUR: 'it returns false'. Refute it at one input. -/
def fnExactHyphenLinesWrong : ChangeSpec := { name := "fnExactHyphenLines", fn := fun _ => fun
  | [d] => { results := [.lit (.bool false)], args := [d] }
  | _ => none }
def FnExactHyphenLinesWrongFalsely : Prop := fnExactHyphenLinesRow.holds Try.pinned (OpenSpec.ofChange fnExactHyphenLinesWrong)

/-- 'laws.FnExactPackFraction': WHATEVER THE INPUT: true; the input reads as it did. -/
def fnExactPackFractionSpec : ChangeSpec := { name := "fnExactPackFraction", fn := fun _ => fun
  | [d1, d2, d3, d4] => { results := [.lit (.bool true)], args := [d1, d2, d3, d4] }
  | _ => none }
def fnExactPackFractionRow : OpenClaim := { program := "ytijeoiffkgemdaa", sum := "38722f7533bcdc1f1b9ed1b9e5c39220739e0f2393a7a0ac266b187132dbd035", func := "loop.example/pagebuilder/laws.FnExactPackFraction", spec := "fnExactPackFraction", apart := false }
def FnExactPackFractionSaid : Prop := fnExactPackFractionRow.holds Try.pinned (OpenSpec.ofChange fnExactPackFractionSpec)

/-- ITS FALSE NEIGHBOUR: 'it returns false'. Refute it at one input. -/
def fnExactPackFractionWrong : ChangeSpec := { name := "fnExactPackFraction", fn := fun _ => fun
  | [d1, d2, d3, d4] => { results := [.lit (.bool false)], args := [d1, d2, d3, d4] }
  | _ => none }
def FnExactPackFractionWrongFalsely : Prop := fnExactPackFractionRow.holds Try.pinned (OpenSpec.ofChange fnExactPackFractionWrong)

/-- 'laws.FnPagesValid': WHATEVER THE INPUT: true; the input reads as it did. -/
def fnPagesValidSpec : ChangeSpec := { name := "fnPagesValid", fn := fun _ => fun
  | [d] => { results := [.lit (.bool true)], args := [d] }
  | _ => none }
def fnPagesValidRow : OpenClaim := { program := "ytijeoiffkgemdaa", sum := "38722f7533bcdc1f1b9ed1b9e5c39220739e0f2393a7a0ac266b187132dbd035", func := "loop.example/pagebuilder/laws.FnPagesValid", spec := "fnPagesValid", apart := false }
def FnPagesValidSaid : Prop := fnPagesValidRow.holds Try.pinned (OpenSpec.ofChange fnPagesValidSpec)

/-- ITS FALSE NEIGHBOUR: 'it returns false'. Refute it at one input. -/
def fnPagesValidWrong : ChangeSpec := { name := "fnPagesValid", fn := fun _ => fun
  | [d] => { results := [.lit (.bool false)], args := [d] }
  | _ => none }
def FnPagesValidWrongFalsely : Prop := fnPagesValidRow.holds Try.pinned (OpenSpec.ofChange fnPagesValidWrong)

/-- 'laws.FnExactGridValid': WHATEVER THE INPUT: true; the input reads as it did. -/
def fnExactGridValidSpec : ChangeSpec := { name := "fnExactGridValid", fn := fun _ => fun
  | [d] => { results := [.lit (.bool true)], args := [d] }
  | _ => none }
def fnExactGridValidRow : OpenClaim := { program := "ytijeoiffkgemdaa", sum := "38722f7533bcdc1f1b9ed1b9e5c39220739e0f2393a7a0ac266b187132dbd035", func := "loop.example/pagebuilder/laws.FnExactGridValid", spec := "fnExactGridValid", unfollowed := true, recurses := true, apart := false }
def FnExactGridValidSaid : Prop := fnExactGridValidRow.holds Try.pinned (OpenSpec.ofChange fnExactGridValidSpec)

/-- ITS FALSE NEIGHBOUR: 'it returns false'. Refute it at one input. -/
def fnExactGridValidWrong : ChangeSpec := { name := "fnExactGridValid", fn := fun _ => fun
  | [d] => { results := [.lit (.bool false)], args := [d] }
  | _ => none }
def FnExactGridValidWrongFalsely : Prop := fnExactGridValidRow.holds Try.pinned (OpenSpec.ofChange fnExactGridValidWrong)

/-- 'laws.FnPackFraction': WHATEVER THE INPUT: true; the input reads as it did. -/
def fnPackFractionSpec : ChangeSpec := { name := "fnPackFraction", fn := fun _ => fun
  | [d] => { results := [.lit (.bool true)], args := [d] }
  | _ => none }
def fnPackFractionRow : OpenClaim := { program := "ytijeoiffkgemdaa", sum := "38722f7533bcdc1f1b9ed1b9e5c39220739e0f2393a7a0ac266b187132dbd035", func := "loop.example/pagebuilder/laws.FnPackFraction", spec := "fnPackFraction", apart := false }
def FnPackFractionSaid : Prop := fnPackFractionRow.holds Try.pinned (OpenSpec.ofChange fnPackFractionSpec)

/-- ITS FALSE NEIGHBOUR: 'it returns false'. Refute it at one input. -/
def fnPackFractionWrong : ChangeSpec := { name := "fnPackFraction", fn := fun _ => fun
  | [d] => { results := [.lit (.bool false)], args := [d] }
  | _ => none }
def FnPackFractionWrongFalsely : Prop := fnPackFractionRow.holds Try.pinned (OpenSpec.ofChange fnPackFractionWrong)

/-- 'laws.FnIndexValid': WHATEVER THE INPUT: true; the input reads as it did. -/
def fnIndexValidSpec : ChangeSpec := { name := "fnIndexValid", fn := fun _ => fun
  | [d] => { results := [.lit (.bool true)], args := [d] }
  | _ => none }
def fnIndexValidRow : OpenClaim := { program := "ytijeoiffkgemdaa", sum := "38722f7533bcdc1f1b9ed1b9e5c39220739e0f2393a7a0ac266b187132dbd035", func := "loop.example/pagebuilder/laws.FnIndexValid", spec := "fnIndexValid", unfollowed := true, recurses := true, apart := false }
def FnIndexValidSaid : Prop := fnIndexValidRow.holds Try.pinned (OpenSpec.ofChange fnIndexValidSpec)

/-- ITS FALSE NEIGHBOUR: 'it returns false'. Refute it at one input. -/
def fnIndexValidWrong : ChangeSpec := { name := "fnIndexValid", fn := fun _ => fun
  | [d] => { results := [.lit (.bool false)], args := [d] }
  | _ => none }
def FnIndexValidWrongFalsely : Prop := fnIndexValidRow.holds Try.pinned (OpenSpec.ofChange fnIndexValidWrong)

/-- 'laws.FnFractionRow': WHATEVER THE INPUT: true; the input reads as it did. -/
def fnFractionRowSpec : ChangeSpec := { name := "fnFractionRow", fn := fun _ => fun
  | [d] => { results := [.lit (.bool true)], args := [d] }
  | _ => none }
def fnFractionRowRow : OpenClaim := { program := "ytijeoiffkgemdaa", sum := "38722f7533bcdc1f1b9ed1b9e5c39220739e0f2393a7a0ac266b187132dbd035", func := "loop.example/pagebuilder/laws.FnFractionRow", spec := "fnFractionRow", apart := false }
def FnFractionRowSaid : Prop := fnFractionRowRow.holds Try.pinned (OpenSpec.ofChange fnFractionRowSpec)

/-- ITS FALSE NEIGHBOUR: 'it returns false'. Refute it at one input. -/
def fnFractionRowWrong : ChangeSpec := { name := "fnFractionRow", fn := fun _ => fun
  | [d] => { results := [.lit (.bool false)], args := [d] }
  | _ => none }
def FnFractionRowWrongFalsely : Prop := fnFractionRowRow.holds Try.pinned (OpenSpec.ofChange fnFractionRowWrong)

/-- 'laws.FnGridValid': WHATEVER THE INPUT: true; the input reads as it did. -/
def fnGridValidSpec : ChangeSpec := { name := "fnGridValid", fn := fun _ => fun
  | [d] => { results := [.lit (.bool true)], args := [d] }
  | _ => none }
def fnGridValidRow : OpenClaim := { program := "ytijeoiffkgemdaa", sum := "38722f7533bcdc1f1b9ed1b9e5c39220739e0f2393a7a0ac266b187132dbd035", func := "loop.example/pagebuilder/laws.FnGridValid", spec := "fnGridValid", unfollowed := true, recurses := true, apart := false }
def FnGridValidSaid : Prop := fnGridValidRow.holds Try.pinned (OpenSpec.ofChange fnGridValidSpec)

/-- ITS FALSE NEIGHBOUR: 'it returns false'. Refute it at one input. -/
def fnGridValidWrong : ChangeSpec := { name := "fnGridValid", fn := fun _ => fun
  | [d] => { results := [.lit (.bool false)], args := [d] }
  | _ => none }
def FnGridValidWrongFalsely : Prop := fnGridValidRow.holds Try.pinned (OpenSpec.ofChange fnGridValidWrong)

/-- 'laws.FnExactIndexValid': WHATEVER THE INPUT: true; the input reads as it did. -/
def fnExactIndexValidSpec : ChangeSpec := { name := "fnExactIndexValid", fn := fun _ => fun
  | [d] => { results := [.lit (.bool true)], args := [d] }
  | _ => none }
def fnExactIndexValidRow : OpenClaim := { program := "ytijeoiffkgemdaa", sum := "38722f7533bcdc1f1b9ed1b9e5c39220739e0f2393a7a0ac266b187132dbd035", func := "loop.example/pagebuilder/laws.FnExactIndexValid", spec := "fnExactIndexValid", unfollowed := true, recurses := true, apart := false }
def FnExactIndexValidSaid : Prop := fnExactIndexValidRow.holds Try.pinned (OpenSpec.ofChange fnExactIndexValidSpec)

/-- ITS FALSE NEIGHBOUR: 'it returns false'. Refute it at one input. -/
def fnExactIndexValidWrong : ChangeSpec := { name := "fnExactIndexValid", fn := fun _ => fun
  | [d] => { results := [.lit (.bool false)], args := [d] }
  | _ => none }
def FnExactIndexValidWrongFalsely : Prop := fnExactIndexValidRow.holds Try.pinned (OpenSpec.ofChange fnExactIndexValidWrong)

/- THE SECOND FORM. 'bulk': how many values and letters a reading holds, each counted each time it is reached (what is shared counts as often as it is met; a slice's spare places count too). A statement '..UptoSaid' is the law's where the arguments, and the package variables that the reading takes, are together of bulk at most 1048576: NARROWER than '..Said'. Prove '..Said' where nothing that the law and all that it calls make is longer than what came in: it says more and counts as full. Else prove '..UptoSaid'. A law counts once. -/
mutual
def uptoBulk {H : Type} : DataW H → Nat
  | .lit (.string bytes) => bytes.length + 1
  | .lit _ => 1
  | .nil => 1
  | .ptr d => uptoBulk d + 1
  | .slice elems spare => uptoBulkAll elems + uptoBulkAll spare + 1
  | .agg parts => uptoBulkAll parts + 1
  | .iface _ d => uptoBulk d + 1
  | .map entries => uptoBulkEntries entries + 1
  | .held _ => 1
def uptoBulkAll {H : Type} : List (DataW H) → Nat
  | [] => 0
  | d :: r => uptoBulk d + uptoBulkAll r
def uptoBulkEntries {H : Type} : List (Lit × DataW H) → Nat
  | [] => 0
  | x :: r => uptoBulkEntry x + uptoBulkEntries r
def uptoBulkEntry {H : Type} : Lit × DataW H → Nat
  | (.string bytes, d) => bytes.length + uptoBulk d + 1
  | (_, d) => uptoBulk d + 1
 end
def uptoSmall : (H : Type) → List (DataW H) → Bool := fun _ ds => decide (uptoBulkAll ds ≤ 1048576)
def OpenSpec.upto (s : _root_.Go.ChangeSpec) : _root_.Go.OpenSpec := { _root_.Go.OpenSpec.ofChange s with cond := some uptoSmall }

/-- 'laws.FnExactBoxValid', WHERE WHAT IT READS IS OF BULK AT MOST 1048576: true; the input reads as it did. -/
def fnExactBoxValidUptoRow : OpenClaim := { program := "ytijeoiffkgemdaa", sum := "38722f7533bcdc1f1b9ed1b9e5c39220739e0f2393a7a0ac266b187132dbd035", func := "loop.example/pagebuilder/laws.FnExactBoxValid", spec := "fnExactBoxValid", apart := false, narrowed := true }
def FnExactBoxValidUptoSaid : Prop := fnExactBoxValidUptoRow.holds Try.pinned (OpenSpec.upto fnExactBoxValidSpec)

/-- 'laws.FnExactPagesValid', WHERE WHAT IT READS IS OF BULK AT MOST 1048576: true; the input reads as it did. -/
def fnExactPagesValidUptoRow : OpenClaim := { program := "ytijeoiffkgemdaa", sum := "38722f7533bcdc1f1b9ed1b9e5c39220739e0f2393a7a0ac266b187132dbd035", func := "loop.example/pagebuilder/laws.FnExactPagesValid", spec := "fnExactPagesValid", apart := false, narrowed := true }
def FnExactPagesValidUptoSaid : Prop := fnExactPagesValidUptoRow.holds Try.pinned (OpenSpec.upto fnExactPagesValidSpec)

/-- 'laws.FnBoxValid', WHERE WHAT IT READS IS OF BULK AT MOST 1048576: true; the input reads as it did. -/
def fnBoxValidUptoRow : OpenClaim := { program := "ytijeoiffkgemdaa", sum := "38722f7533bcdc1f1b9ed1b9e5c39220739e0f2393a7a0ac266b187132dbd035", func := "loop.example/pagebuilder/laws.FnBoxValid", spec := "fnBoxValid", apart := false, narrowed := true }
def FnBoxValidUptoSaid : Prop := fnBoxValidUptoRow.holds Try.pinned (OpenSpec.upto fnBoxValidSpec)

/-- 'laws.FnExactHyphenLines', WHERE WHAT IT READS IS OF BULK AT MOST 1048576: true; the input reads as it did. -/
def fnExactHyphenLinesUptoRow : OpenClaim := { program := "ytijeoiffkgemdaa", sum := "38722f7533bcdc1f1b9ed1b9e5c39220739e0f2393a7a0ac266b187132dbd035", func := "loop.example/pagebuilder/laws.FnExactHyphenLines", spec := "fnExactHyphenLines", apart := false, narrowed := true }
def FnExactHyphenLinesUptoSaid : Prop := fnExactHyphenLinesUptoRow.holds Try.pinned (OpenSpec.upto fnExactHyphenLinesSpec)

/-- 'laws.FnExactPackFraction', WHERE WHAT IT READS IS OF BULK AT MOST 1048576: true; the input reads as it did. -/
def fnExactPackFractionUptoRow : OpenClaim := { program := "ytijeoiffkgemdaa", sum := "38722f7533bcdc1f1b9ed1b9e5c39220739e0f2393a7a0ac266b187132dbd035", func := "loop.example/pagebuilder/laws.FnExactPackFraction", spec := "fnExactPackFraction", apart := false, narrowed := true }
def FnExactPackFractionUptoSaid : Prop := fnExactPackFractionUptoRow.holds Try.pinned (OpenSpec.upto fnExactPackFractionSpec)

/-- 'laws.FnPagesValid', WHERE WHAT IT READS IS OF BULK AT MOST 1048576: true; the input reads as it did. -/
def fnPagesValidUptoRow : OpenClaim := { program := "ytijeoiffkgemdaa", sum := "38722f7533bcdc1f1b9ed1b9e5c39220739e0f2393a7a0ac266b187132dbd035", func := "loop.example/pagebuilder/laws.FnPagesValid", spec := "fnPagesValid", apart := false, narrowed := true }
def FnPagesValidUptoSaid : Prop := fnPagesValidUptoRow.holds Try.pinned (OpenSpec.upto fnPagesValidSpec)

/-- 'laws.FnExactGridValid', WHERE WHAT IT READS IS OF BULK AT MOST 1048576: true; the input reads as it did. -/
def fnExactGridValidUptoRow : OpenClaim := { program := "ytijeoiffkgemdaa", sum := "38722f7533bcdc1f1b9ed1b9e5c39220739e0f2393a7a0ac266b187132dbd035", func := "loop.example/pagebuilder/laws.FnExactGridValid", spec := "fnExactGridValid", unfollowed := true, recurses := true, apart := false, narrowed := true }
def FnExactGridValidUptoSaid : Prop := fnExactGridValidUptoRow.holds Try.pinned (OpenSpec.upto fnExactGridValidSpec)

/-- 'laws.FnPackFraction', WHERE WHAT IT READS IS OF BULK AT MOST 1048576: true; the input reads as it did. -/
def fnPackFractionUptoRow : OpenClaim := { program := "ytijeoiffkgemdaa", sum := "38722f7533bcdc1f1b9ed1b9e5c39220739e0f2393a7a0ac266b187132dbd035", func := "loop.example/pagebuilder/laws.FnPackFraction", spec := "fnPackFraction", apart := false, narrowed := true }
def FnPackFractionUptoSaid : Prop := fnPackFractionUptoRow.holds Try.pinned (OpenSpec.upto fnPackFractionSpec)

/-- 'laws.FnIndexValid', WHERE WHAT IT READS IS OF BULK AT MOST 1048576: true; the input reads as it did. -/
def fnIndexValidUptoRow : OpenClaim := { program := "ytijeoiffkgemdaa", sum := "38722f7533bcdc1f1b9ed1b9e5c39220739e0f2393a7a0ac266b187132dbd035", func := "loop.example/pagebuilder/laws.FnIndexValid", spec := "fnIndexValid", unfollowed := true, recurses := true, apart := false, narrowed := true }
def FnIndexValidUptoSaid : Prop := fnIndexValidUptoRow.holds Try.pinned (OpenSpec.upto fnIndexValidSpec)

/-- 'laws.FnFractionRow', WHERE WHAT IT READS IS OF BULK AT MOST 1048576: true; the input reads as it did. -/
def fnFractionRowUptoRow : OpenClaim := { program := "ytijeoiffkgemdaa", sum := "38722f7533bcdc1f1b9ed1b9e5c39220739e0f2393a7a0ac266b187132dbd035", func := "loop.example/pagebuilder/laws.FnFractionRow", spec := "fnFractionRow", apart := false, narrowed := true }
def FnFractionRowUptoSaid : Prop := fnFractionRowUptoRow.holds Try.pinned (OpenSpec.upto fnFractionRowSpec)

/-- 'laws.FnGridValid', WHERE WHAT IT READS IS OF BULK AT MOST 1048576: true; the input reads as it did. -/
def fnGridValidUptoRow : OpenClaim := { program := "ytijeoiffkgemdaa", sum := "38722f7533bcdc1f1b9ed1b9e5c39220739e0f2393a7a0ac266b187132dbd035", func := "loop.example/pagebuilder/laws.FnGridValid", spec := "fnGridValid", unfollowed := true, recurses := true, apart := false, narrowed := true }
def FnGridValidUptoSaid : Prop := fnGridValidUptoRow.holds Try.pinned (OpenSpec.upto fnGridValidSpec)

/-- 'laws.FnExactIndexValid', WHERE WHAT IT READS IS OF BULK AT MOST 1048576: true; the input reads as it did. -/
def fnExactIndexValidUptoRow : OpenClaim := { program := "ytijeoiffkgemdaa", sum := "38722f7533bcdc1f1b9ed1b9e5c39220739e0f2393a7a0ac266b187132dbd035", func := "loop.example/pagebuilder/laws.FnExactIndexValid", spec := "fnExactIndexValid", unfollowed := true, recurses := true, apart := false, narrowed := true }
def FnExactIndexValidUptoSaid : Prop := fnExactIndexValidUptoRow.holds Try.pinned (OpenSpec.upto fnExactIndexValidSpec)

end Rows
end Go.Proofs.Ytijeoiffkgemdaa
