/-
  No cell of these rows narrows 'for every input' (looked for: loops, veiled, ifaces, maps, wideKeys, modest, calm, conditions, laid).
  DERIVED. THE GIVEN ROWS OF THIS SEAT. 8 by the template 'for every input the law returns true; each argument reads behind the call as it read before'; 0 by the template 'total and deterministic' (their statements: YtnblbgdencdgjaaTotals.lean).
  GIVEN WITH THE SEED: the statements are not yours to turn. If you find one false, say at which input.
  Laid BY PROGRAM, IN A SANDBOX (cutbox-rows.mjs): the forced cells as the released guide's own fill.sh prints them over the translation 2b03abe4fb2a264b… (all of the seat's roots in one cut). By AI agents, Wed Nov 11 2026. No macro, syntax, notation, axiom, sorry.
-/
import Derived.Test.YtnblbgdencdgjaaChecked
import GoSem.Claim
import GoSem.ClaimJoined
import GoSem.ClaimMapViews
import Derived.JoinedTies
import Derived.KernelRfl
namespace Go.Proofs.Ytnblbgdencdgjaa
/- THE CELL 'sum', in the pinned program and in every row, IS THE sha256 OF THE DUMP (.gsa) THAT YtnblbgdencdgjaaProg.lean LOADS. Nothing in Lean hashes anything: it is a label: what it is worth is what the hold of that sum in a sandbox is worth. -/
noncomputable def Try.pinned : Pinned := { name := "ytnblbgdencdgjaa", sum := "2b03abe4fb2a264ba4218038e6f33f5f5e78ed4086f09771729d883b8febc556", checked := Try.checked }
namespace Rows
def none {H : Type} : Left H := { results := [], args := [] }

/-- 'laws.FnExactPackRow': WHATEVER THE INPUT: true; the input reads as it did. -/
def fnExactPackRowSpec : ChangeSpec := { name := "fnExactPackRow", fn := fun _ => fun
  | [d] => { results := [.lit (.bool true)], args := [d] }
  | _ => none }
def fnExactPackRowRow : OpenClaim := { program := "ytnblbgdencdgjaa", sum := "2b03abe4fb2a264ba4218038e6f33f5f5e78ed4086f09771729d883b8febc556", func := "loop.example/pagebuilder/laws.FnExactPackRow", spec := "fnExactPackRow", apart := false }
def FnExactPackRowSaid : Prop := fnExactPackRowRow.holds Try.pinned (OpenSpec.ofChange fnExactPackRowSpec)

/-- ITS FALSE NEIGHBOUR: 'it returns false'. Refute it at one input. -/
def fnExactPackRowWrong : ChangeSpec := { name := "fnExactPackRow", fn := fun _ => fun
  | [d] => { results := [.lit (.bool false)], args := [d] }
  | _ => none }
def FnExactPackRowWrongFalsely : Prop := fnExactPackRowRow.holds Try.pinned (OpenSpec.ofChange fnExactPackRowWrong)

/-- 'laws.FnExactPackStack': WHATEVER THE INPUT: true; the input reads as it did. -/
def fnExactPackStackSpec : ChangeSpec := { name := "fnExactPackStack", fn := fun _ => fun
  | [d] => { results := [.lit (.bool true)], args := [d] }
  | _ => none }
def fnExactPackStackRow : OpenClaim := { program := "ytnblbgdencdgjaa", sum := "2b03abe4fb2a264ba4218038e6f33f5f5e78ed4086f09771729d883b8febc556", func := "loop.example/pagebuilder/laws.FnExactPackStack", spec := "fnExactPackStack", apart := false }
def FnExactPackStackSaid : Prop := fnExactPackStackRow.holds Try.pinned (OpenSpec.ofChange fnExactPackStackSpec)

/-- ITS FALSE NEIGHBOUR: 'it returns false'. Refute it at one input. -/
def fnExactPackStackWrong : ChangeSpec := { name := "fnExactPackStack", fn := fun _ => fun
  | [d] => { results := [.lit (.bool false)], args := [d] }
  | _ => none }
def FnExactPackStackWrongFalsely : Prop := fnExactPackStackRow.holds Try.pinned (OpenSpec.ofChange fnExactPackStackWrong)

/-- 'laws.FnExactPiecesValid': WHATEVER THE INPUT: true; the input reads as it did. -/
def fnExactPiecesValidSpec : ChangeSpec := { name := "fnExactPiecesValid", fn := fun _ => fun
  | [d] => { results := [.lit (.bool true)], args := [d] }
  | _ => none }
def fnExactPiecesValidRow : OpenClaim := { program := "ytnblbgdencdgjaa", sum := "2b03abe4fb2a264ba4218038e6f33f5f5e78ed4086f09771729d883b8febc556", func := "loop.example/pagebuilder/laws.FnExactPiecesValid", spec := "fnExactPiecesValid", unfollowed := true, recurses := true, apart := false }
def FnExactPiecesValidSaid : Prop := fnExactPiecesValidRow.holds Try.pinned (OpenSpec.ofChange fnExactPiecesValidSpec)

/-- ITS FALSE NEIGHBOUR: 'it returns false'. Refute it at one input. -/
def fnExactPiecesValidWrong : ChangeSpec := { name := "fnExactPiecesValid", fn := fun _ => fun
  | [d] => { results := [.lit (.bool false)], args := [d] }
  | _ => none }
def FnExactPiecesValidWrongFalsely : Prop := fnExactPiecesValidRow.holds Try.pinned (OpenSpec.ofChange fnExactPiecesValidWrong)

/-- 'laws.FnExactBookValid': WHATEVER THE INPUT: true; the input reads as it did. -/
def fnExactBookValidSpec : ChangeSpec := { name := "fnExactBookValid", fn := fun _ => fun
  | [d] => { results := [.lit (.bool true)], args := [d] }
  | _ => none }
def fnExactBookValidRow : OpenClaim := { program := "ytnblbgdencdgjaa", sum := "2b03abe4fb2a264ba4218038e6f33f5f5e78ed4086f09771729d883b8febc556", func := "loop.example/pagebuilder/laws.FnExactBookValid", spec := "fnExactBookValid", apart := false }
def FnExactBookValidSaid : Prop := fnExactBookValidRow.holds Try.pinned (OpenSpec.ofChange fnExactBookValidSpec)

/-- ITS FALSE NEIGHBOUR: 'it returns false'. Refute it at one input. -/
def fnExactBookValidWrong : ChangeSpec := { name := "fnExactBookValid", fn := fun _ => fun
  | [d] => { results := [.lit (.bool false)], args := [d] }
  | _ => none }
def FnExactBookValidWrongFalsely : Prop := fnExactBookValidRow.holds Try.pinned (OpenSpec.ofChange fnExactBookValidWrong)

/-- 'laws.FnPackRow': WHATEVER THE INPUT: true; the input reads as it did. -/
def fnPackRowSpec : ChangeSpec := { name := "fnPackRow", fn := fun _ => fun
  | [d] => { results := [.lit (.bool true)], args := [d] }
  | _ => none }
def fnPackRowRow : OpenClaim := { program := "ytnblbgdencdgjaa", sum := "2b03abe4fb2a264ba4218038e6f33f5f5e78ed4086f09771729d883b8febc556", func := "loop.example/pagebuilder/laws.FnPackRow", spec := "fnPackRow", apart := false }
def FnPackRowSaid : Prop := fnPackRowRow.holds Try.pinned (OpenSpec.ofChange fnPackRowSpec)

/-- ITS FALSE NEIGHBOUR: 'it returns false'. Refute it at one input. -/
def fnPackRowWrong : ChangeSpec := { name := "fnPackRow", fn := fun _ => fun
  | [d] => { results := [.lit (.bool false)], args := [d] }
  | _ => none }
def FnPackRowWrongFalsely : Prop := fnPackRowRow.holds Try.pinned (OpenSpec.ofChange fnPackRowWrong)

/-- 'laws.FnPackStack': WHATEVER THE INPUT: true; the input reads as it did. -/
def fnPackStackSpec : ChangeSpec := { name := "fnPackStack", fn := fun _ => fun
  | [d] => { results := [.lit (.bool true)], args := [d] }
  | _ => none }
def fnPackStackRow : OpenClaim := { program := "ytnblbgdencdgjaa", sum := "2b03abe4fb2a264ba4218038e6f33f5f5e78ed4086f09771729d883b8febc556", func := "loop.example/pagebuilder/laws.FnPackStack", spec := "fnPackStack", apart := false }
def FnPackStackSaid : Prop := fnPackStackRow.holds Try.pinned (OpenSpec.ofChange fnPackStackSpec)

/-- ITS FALSE NEIGHBOUR: 'it returns false'. Refute it at one input. -/
def fnPackStackWrong : ChangeSpec := { name := "fnPackStack", fn := fun _ => fun
  | [d] => { results := [.lit (.bool false)], args := [d] }
  | _ => none }
def FnPackStackWrongFalsely : Prop := fnPackStackRow.holds Try.pinned (OpenSpec.ofChange fnPackStackWrong)

/-- 'laws.FnPiecesValid': WHATEVER THE INPUT: true; the input reads as it did. -/
def fnPiecesValidSpec : ChangeSpec := { name := "fnPiecesValid", fn := fun _ => fun
  | [d] => { results := [.lit (.bool true)], args := [d] }
  | _ => none }
def fnPiecesValidRow : OpenClaim := { program := "ytnblbgdencdgjaa", sum := "2b03abe4fb2a264ba4218038e6f33f5f5e78ed4086f09771729d883b8febc556", func := "loop.example/pagebuilder/laws.FnPiecesValid", spec := "fnPiecesValid", unfollowed := true, recurses := true, apart := false }
def FnPiecesValidSaid : Prop := fnPiecesValidRow.holds Try.pinned (OpenSpec.ofChange fnPiecesValidSpec)

/-- ITS FALSE NEIGHBOUR: 'it returns false'. Refute it at one input. -/
def fnPiecesValidWrong : ChangeSpec := { name := "fnPiecesValid", fn := fun _ => fun
  | [d] => { results := [.lit (.bool false)], args := [d] }
  | _ => none }
def FnPiecesValidWrongFalsely : Prop := fnPiecesValidRow.holds Try.pinned (OpenSpec.ofChange fnPiecesValidWrong)

/-- 'laws.FnBookValid': WHATEVER THE INPUT: true; the input reads as it did. -/
def fnBookValidSpec : ChangeSpec := { name := "fnBookValid", fn := fun _ => fun
  | [d] => { results := [.lit (.bool true)], args := [d] }
  | _ => none }
def fnBookValidRow : OpenClaim := { program := "ytnblbgdencdgjaa", sum := "2b03abe4fb2a264ba4218038e6f33f5f5e78ed4086f09771729d883b8febc556", func := "loop.example/pagebuilder/laws.FnBookValid", spec := "fnBookValid", apart := false }
def FnBookValidSaid : Prop := fnBookValidRow.holds Try.pinned (OpenSpec.ofChange fnBookValidSpec)

/-- ITS FALSE NEIGHBOUR: 'it returns false'. Refute it at one input. -/
def fnBookValidWrong : ChangeSpec := { name := "fnBookValid", fn := fun _ => fun
  | [d] => { results := [.lit (.bool false)], args := [d] }
  | _ => none }
def FnBookValidWrongFalsely : Prop := fnBookValidRow.holds Try.pinned (OpenSpec.ofChange fnBookValidWrong)

/- THE SECOND FORM. 'bulk': how many values and letters a reading holds, each counted each time it is reached (what is shared counts as often as it is met; a slice's spare places count too). A statement '..UptoSaid' is the law's where the arguments, and the package variables that the reading takes, are together of bulk at most 1048576: NARROWER than '..Said'. Prove '..Said' where nothing that the law and all that it calls make is longer than what came in: it says more and counts as full. Else prove '..UptoSaid'. A law counts once. -/
mutual
def uptoBulk {H : Type} : DataW H → Nat
  | .lit (.string bytes) => bytes.length + 1
  | .lit _ => 1
  | .nil => 1
  | .ptr d => uptoBulk d + 1
  | .slice elems spare => uptoBulkAll elems + uptoBulkAll spare + 1
  | .agg parts => uptoBulkAll parts + 1
  | .iface _ d => uptoBulk d + 1
  | .map entries => uptoBulkEntries entries + 1
  | .held _ => 1
def uptoBulkAll {H : Type} : List (DataW H) → Nat
  | [] => 0
  | d :: r => uptoBulk d + uptoBulkAll r
def uptoBulkEntries {H : Type} : List (Lit × DataW H) → Nat
  | [] => 0
  | x :: r => uptoBulkEntry x + uptoBulkEntries r
def uptoBulkEntry {H : Type} : Lit × DataW H → Nat
  | (.string bytes, d) => bytes.length + uptoBulk d + 1
  | (_, d) => uptoBulk d + 1
 end
def uptoSmall : (H : Type) → List (DataW H) → Bool := fun _ ds => decide (uptoBulkAll ds ≤ 1048576)
def OpenSpec.upto (s : _root_.Go.ChangeSpec) : _root_.Go.OpenSpec := { _root_.Go.OpenSpec.ofChange s with cond := some uptoSmall }

/-- 'laws.FnExactPackRow', WHERE WHAT IT READS IS OF BULK AT MOST 1048576: true; the input reads as it did. -/
def fnExactPackRowUptoRow : OpenClaim := { program := "ytnblbgdencdgjaa", sum := "2b03abe4fb2a264ba4218038e6f33f5f5e78ed4086f09771729d883b8febc556", func := "loop.example/pagebuilder/laws.FnExactPackRow", spec := "fnExactPackRow", apart := false, narrowed := true }
def FnExactPackRowUptoSaid : Prop := fnExactPackRowUptoRow.holds Try.pinned (OpenSpec.upto fnExactPackRowSpec)

/-- 'laws.FnExactPackStack', WHERE WHAT IT READS IS OF BULK AT MOST 1048576: true; the input reads as it did. -/
def fnExactPackStackUptoRow : OpenClaim := { program := "ytnblbgdencdgjaa", sum := "2b03abe4fb2a264ba4218038e6f33f5f5e78ed4086f09771729d883b8febc556", func := "loop.example/pagebuilder/laws.FnExactPackStack", spec := "fnExactPackStack", apart := false, narrowed := true }
def FnExactPackStackUptoSaid : Prop := fnExactPackStackUptoRow.holds Try.pinned (OpenSpec.upto fnExactPackStackSpec)

/-- 'laws.FnExactPiecesValid', WHERE WHAT IT READS IS OF BULK AT MOST 1048576: true; the input reads as it did. -/
def fnExactPiecesValidUptoRow : OpenClaim := { program := "ytnblbgdencdgjaa", sum := "2b03abe4fb2a264ba4218038e6f33f5f5e78ed4086f09771729d883b8febc556", func := "loop.example/pagebuilder/laws.FnExactPiecesValid", spec := "fnExactPiecesValid", unfollowed := true, recurses := true, apart := false, narrowed := true }
def FnExactPiecesValidUptoSaid : Prop := fnExactPiecesValidUptoRow.holds Try.pinned (OpenSpec.upto fnExactPiecesValidSpec)

/-- 'laws.FnExactBookValid', WHERE WHAT IT READS IS OF BULK AT MOST 1048576: true; the input reads as it did. -/
def fnExactBookValidUptoRow : OpenClaim := { program := "ytnblbgdencdgjaa", sum := "2b03abe4fb2a264ba4218038e6f33f5f5e78ed4086f09771729d883b8febc556", func := "loop.example/pagebuilder/laws.FnExactBookValid", spec := "fnExactBookValid", apart := false, narrowed := true }
def FnExactBookValidUptoSaid : Prop := fnExactBookValidUptoRow.holds Try.pinned (OpenSpec.upto fnExactBookValidSpec)

/-- 'laws.FnPackRow', WHERE WHAT IT READS IS OF BULK AT MOST 1048576: true; the input reads as it did. -/
def fnPackRowUptoRow : OpenClaim := { program := "ytnblbgdencdgjaa", sum := "2b03abe4fb2a264ba4218038e6f33f5f5e78ed4086f09771729d883b8febc556", func := "loop.example/pagebuilder/laws.FnPackRow", spec := "fnPackRow", apart := false, narrowed := true }
def FnPackRowUptoSaid : Prop := fnPackRowUptoRow.holds Try.pinned (OpenSpec.upto fnPackRowSpec)

/-- 'laws.FnPackStack', WHERE WHAT IT READS IS OF BULK AT MOST 1048576: true; the input reads as it did. -/
def fnPackStackUptoRow : OpenClaim := { program := "ytnblbgdencdgjaa", sum := "2b03abe4fb2a264ba4218038e6f33f5f5e78ed4086f09771729d883b8febc556", func := "loop.example/pagebuilder/laws.FnPackStack", spec := "fnPackStack", apart := false, narrowed := true }
def FnPackStackUptoSaid : Prop := fnPackStackUptoRow.holds Try.pinned (OpenSpec.upto fnPackStackSpec)

/-- 'laws.FnPiecesValid', WHERE WHAT IT READS IS OF BULK AT MOST 1048576: true; the input reads as it did. -/
def fnPiecesValidUptoRow : OpenClaim := { program := "ytnblbgdencdgjaa", sum := "2b03abe4fb2a264ba4218038e6f33f5f5e78ed4086f09771729d883b8febc556", func := "loop.example/pagebuilder/laws.FnPiecesValid", spec := "fnPiecesValid", unfollowed := true, recurses := true, apart := false, narrowed := true }
def FnPiecesValidUptoSaid : Prop := fnPiecesValidUptoRow.holds Try.pinned (OpenSpec.upto fnPiecesValidSpec)

/-- 'laws.FnBookValid', WHERE WHAT IT READS IS OF BULK AT MOST 1048576: true; the input reads as it did. -/
def fnBookValidUptoRow : OpenClaim := { program := "ytnblbgdencdgjaa", sum := "2b03abe4fb2a264ba4218038e6f33f5f5e78ed4086f09771729d883b8febc556", func := "loop.example/pagebuilder/laws.FnBookValid", spec := "fnBookValid", apart := false, narrowed := true }
def FnBookValidUptoSaid : Prop := fnBookValidUptoRow.holds Try.pinned (OpenSpec.upto fnBookValidSpec)

end Rows
end Go.Proofs.Ytnblbgdencdgjaa
