/-
  No cell of these rows narrows 'for every input' (looked for: loops, veiled, ifaces, maps, wideKeys, modest, calm, conditions, laid).
  DERIVED. THE GIVEN ROWS OF THIS SEAT. 12 by the template 'for every input the law returns true; each argument reads behind the call as it read before'; 0 by the template 'total and deterministic' (their statements: YtenhkmkajmnaaaaTotals.lean).
  GIVEN WITH THE SEED: the statements are not yours to turn. If you find one false, say at which input.
  Laid BY PROGRAM, IN A SANDBOX (cutbox-rows.mjs): the forced cells as the released guide's own fill.sh prints them over the translation 43a6c8941bd1eb5a… (all of the seat's roots in one cut). By AI agents, Wed Nov 11 2026. No macro, syntax, notation, axiom, sorry.
-/
import Derived.Test.YtenhkmkajmnaaaaChecked
import GoSem.Claim
import GoSem.ClaimJoined
import GoSem.ClaimMapViews
import Derived.JoinedTies
import Derived.KernelRfl
namespace Go.Proofs.Ytenhkmkajmnaaaa
/- THE CELL 'sum', in the pinned program and in every row, IS THE sha256 OF THE DUMP (.gsa) THAT YtenhkmkajmnaaaaProg.lean LOADS. Nothing in Lean hashes anything: it is a label: what it is worth is what the hold of that sum in a sandbox is worth. -/
noncomputable def Try.pinned : Pinned := { name := "ytenhkmkajmnaaaa", sum := "43a6c8941bd1eb5ad3c770a8b56f67d730c9a3548f5670f0a28d6538cb2d7dd5", checked := Try.checked }
namespace Rows
def none {H : Type} : Left H := { results := [], args := [] }

/-- 'laws.FnPagesValid': WHATEVER THE INPUT: true; the input reads as it did. -/
def fnPagesValidSpec : ChangeSpec := { name := "fnPagesValid", fn := fun _ => fun
  | [d] => { results := [.lit (.bool true)], args := [d] }
  | _ => none }
def fnPagesValidRow : OpenClaim := { program := "ytenhkmkajmnaaaa", sum := "43a6c8941bd1eb5ad3c770a8b56f67d730c9a3548f5670f0a28d6538cb2d7dd5", func := "loop.example/pagebuilder/laws.FnPagesValid", spec := "fnPagesValid", apart := false }
def FnPagesValidSaid : Prop := fnPagesValidRow.holds Try.pinned (OpenSpec.ofChange fnPagesValidSpec)

/-- ITS FALSE NEIGHBOUR: 'it returns false'. Refute it at one input. -/
def fnPagesValidWrong : ChangeSpec := { name := "fnPagesValid", fn := fun _ => fun
  | [d] => { results := [.lit (.bool false)], args := [d] }
  | _ => none }
def FnPagesValidWrongFalsely : Prop := fnPagesValidRow.holds Try.pinned (OpenSpec.ofChange fnPagesValidWrong)

/-- 'laws.FnPackFraction': WHATEVER THE INPUT: true; the input reads as it did. -/
def fnPackFractionSpec : ChangeSpec := { name := "fnPackFraction", fn := fun _ => fun
  | [d] => { results := [.lit (.bool true)], args := [d] }
  | _ => none }
def fnPackFractionRow : OpenClaim := { program := "ytenhkmkajmnaaaa", sum := "43a6c8941bd1eb5ad3c770a8b56f67d730c9a3548f5670f0a28d6538cb2d7dd5", func := "loop.example/pagebuilder/laws.FnPackFraction", spec := "fnPackFraction", apart := false }
def FnPackFractionSaid : Prop := fnPackFractionRow.holds Try.pinned (OpenSpec.ofChange fnPackFractionSpec)

/-- ITS FALSE NEIGHBOUR: 'it returns false'. Refute it at one input. -/
def fnPackFractionWrong : ChangeSpec := { name := "fnPackFraction", fn := fun _ => fun
  | [d] => { results := [.lit (.bool false)], args := [d] }
  | _ => none }
def FnPackFractionWrongFalsely : Prop := fnPackFractionRow.holds Try.pinned (OpenSpec.ofChange fnPackFractionWrong)

/-- 'laws.FnIndexValid': WHATEVER THE INPUT: true; the input reads as it did. -/
def fnIndexValidSpec : ChangeSpec := { name := "fnIndexValid", fn := fun _ => fun
  | [d] => { results := [.lit (.bool true)], args := [d] }
  | _ => none }
def fnIndexValidRow : OpenClaim := { program := "ytenhkmkajmnaaaa", sum := "43a6c8941bd1eb5ad3c770a8b56f67d730c9a3548f5670f0a28d6538cb2d7dd5", func := "loop.example/pagebuilder/laws.FnIndexValid", spec := "fnIndexValid", unfollowed := true, recurses := true, apart := false }
def FnIndexValidSaid : Prop := fnIndexValidRow.holds Try.pinned (OpenSpec.ofChange fnIndexValidSpec)

/-- ITS FALSE NEIGHBOUR: 'it returns false'. Refute it at one input. -/
def fnIndexValidWrong : ChangeSpec := { name := "fnIndexValid", fn := fun _ => fun
  | [d] => { results := [.lit (.bool false)], args := [d] }
  | _ => none }
def FnIndexValidWrongFalsely : Prop := fnIndexValidRow.holds Try.pinned (OpenSpec.ofChange fnIndexValidWrong)

/-- 'laws.FnFractionRow': WHATEVER THE INPUT: true; the input reads as it did. -/
def fnFractionRowSpec : ChangeSpec := { name := "fnFractionRow", fn := fun _ => fun
  | [d] => { results := [.lit (.bool true)], args := [d] }
  | _ => none }
def fnFractionRowRow : OpenClaim := { program := "ytenhkmkajmnaaaa", sum := "43a6c8941bd1eb5ad3c770a8b56f67d730c9a3548f5670f0a28d6538cb2d7dd5", func := "loop.example/pagebuilder/laws.FnFractionRow", spec := "fnFractionRow", apart := false }
def FnFractionRowSaid : Prop := fnFractionRowRow.holds Try.pinned (OpenSpec.ofChange fnFractionRowSpec)

/-- ITS FALSE NEIGHBOUR: 'it returns false'. Refute it at one input. -/
def fnFractionRowWrong : ChangeSpec := { name := "fnFractionRow", fn := fun _ => fun
  | [d] => { results := [.lit (.bool false)], args := [d] }
  | _ => none }
def FnFractionRowWrongFalsely : Prop := fnFractionRowRow.holds Try.pinned (OpenSpec.ofChange fnFractionRowWrong)

/-- 'laws.FnGridValid': WHATEVER THE INPUT: true; the input reads as it did. -/
def fnGridValidSpec : ChangeSpec := { name := "fnGridValid", fn := fun _ => fun
  | [d] => { results := [.lit (.bool true)], args := [d] }
  | _ => none }
def fnGridValidRow : OpenClaim := { program := "ytenhkmkajmnaaaa", sum := "43a6c8941bd1eb5ad3c770a8b56f67d730c9a3548f5670f0a28d6538cb2d7dd5", func := "loop.example/pagebuilder/laws.FnGridValid", spec := "fnGridValid", unfollowed := true, recurses := true, apart := false }
def FnGridValidSaid : Prop := fnGridValidRow.holds Try.pinned (OpenSpec.ofChange fnGridValidSpec)

/-- ITS FALSE NEIGHBOUR: 'it returns false'. Refute it at one input. -/
def fnGridValidWrong : ChangeSpec := { name := "fnGridValid", fn := fun _ => fun
  | [d] => { results := [.lit (.bool false)], args := [d] }
  | _ => none }
def FnGridValidWrongFalsely : Prop := fnGridValidRow.holds Try.pinned (OpenSpec.ofChange fnGridValidWrong)

/-- 'laws.FnPackRow': WHATEVER THE INPUT: true; the input reads as it did. -/
def fnPackRowSpec : ChangeSpec := { name := "fnPackRow", fn := fun _ => fun
  | [d] => { results := [.lit (.bool true)], args := [d] }
  | _ => none }
def fnPackRowRow : OpenClaim := { program := "ytenhkmkajmnaaaa", sum := "43a6c8941bd1eb5ad3c770a8b56f67d730c9a3548f5670f0a28d6538cb2d7dd5", func := "loop.example/pagebuilder/laws.FnPackRow", spec := "fnPackRow", apart := false }
def FnPackRowSaid : Prop := fnPackRowRow.holds Try.pinned (OpenSpec.ofChange fnPackRowSpec)

/-- ITS FALSE NEIGHBOUR: 'it returns false'. Refute it at one input. -/
def fnPackRowWrong : ChangeSpec := { name := "fnPackRow", fn := fun _ => fun
  | [d] => { results := [.lit (.bool false)], args := [d] }
  | _ => none }
def FnPackRowWrongFalsely : Prop := fnPackRowRow.holds Try.pinned (OpenSpec.ofChange fnPackRowWrong)

/-- 'laws.FnPackStack': WHATEVER THE INPUT: true; the input reads as it did. -/
def fnPackStackSpec : ChangeSpec := { name := "fnPackStack", fn := fun _ => fun
  | [d] => { results := [.lit (.bool true)], args := [d] }
  | _ => none }
def fnPackStackRow : OpenClaim := { program := "ytenhkmkajmnaaaa", sum := "43a6c8941bd1eb5ad3c770a8b56f67d730c9a3548f5670f0a28d6538cb2d7dd5", func := "loop.example/pagebuilder/laws.FnPackStack", spec := "fnPackStack", apart := false }
def FnPackStackSaid : Prop := fnPackStackRow.holds Try.pinned (OpenSpec.ofChange fnPackStackSpec)

/-- ITS FALSE NEIGHBOUR: 'it returns false'. Refute it at one input. -/
def fnPackStackWrong : ChangeSpec := { name := "fnPackStack", fn := fun _ => fun
  | [d] => { results := [.lit (.bool false)], args := [d] }
  | _ => none }
def FnPackStackWrongFalsely : Prop := fnPackStackRow.holds Try.pinned (OpenSpec.ofChange fnPackStackWrong)

/-- 'laws.FnPiecesValid': WHATEVER THE INPUT: true; the input reads as it did. -/
def fnPiecesValidSpec : ChangeSpec := { name := "fnPiecesValid", fn := fun _ => fun
  | [d] => { results := [.lit (.bool true)], args := [d] }
  | _ => none }
def fnPiecesValidRow : OpenClaim := { program := "ytenhkmkajmnaaaa", sum := "43a6c8941bd1eb5ad3c770a8b56f67d730c9a3548f5670f0a28d6538cb2d7dd5", func := "loop.example/pagebuilder/laws.FnPiecesValid", spec := "fnPiecesValid", unfollowed := true, recurses := true, apart := false }
def FnPiecesValidSaid : Prop := fnPiecesValidRow.holds Try.pinned (OpenSpec.ofChange fnPiecesValidSpec)

/-- ITS FALSE NEIGHBOUR: 'it returns false'. Refute it at one input. -/
def fnPiecesValidWrong : ChangeSpec := { name := "fnPiecesValid", fn := fun _ => fun
  | [d] => { results := [.lit (.bool false)], args := [d] }
  | _ => none }
def FnPiecesValidWrongFalsely : Prop := fnPiecesValidRow.holds Try.pinned (OpenSpec.ofChange fnPiecesValidWrong)

/-- 'laws.FnBookValid': WHATEVER THE INPUT: true; the input reads as it did. -/
def fnBookValidSpec : ChangeSpec := { name := "fnBookValid", fn := fun _ => fun
  | [d] => { results := [.lit (.bool true)], args := [d] }
  | _ => none }
def fnBookValidRow : OpenClaim := { program := "ytenhkmkajmnaaaa", sum := "43a6c8941bd1eb5ad3c770a8b56f67d730c9a3548f5670f0a28d6538cb2d7dd5", func := "loop.example/pagebuilder/laws.FnBookValid", spec := "fnBookValid", apart := false }
def FnBookValidSaid : Prop := fnBookValidRow.holds Try.pinned (OpenSpec.ofChange fnBookValidSpec)

/-- ITS FALSE NEIGHBOUR: 'it returns false'. Refute it at one input. -/
def fnBookValidWrong : ChangeSpec := { name := "fnBookValid", fn := fun _ => fun
  | [d] => { results := [.lit (.bool false)], args := [d] }
  | _ => none }
def FnBookValidWrongFalsely : Prop := fnBookValidRow.holds Try.pinned (OpenSpec.ofChange fnBookValidWrong)

/-- 'laws.FnExactPiecesValid': WHATEVER THE INPUT: true; the input reads as it did. -/
def fnExactPiecesValidSpec : ChangeSpec := { name := "fnExactPiecesValid", fn := fun _ => fun
  | [d] => { results := [.lit (.bool true)], args := [d] }
  | _ => none }
def fnExactPiecesValidRow : OpenClaim := { program := "ytenhkmkajmnaaaa", sum := "43a6c8941bd1eb5ad3c770a8b56f67d730c9a3548f5670f0a28d6538cb2d7dd5", func := "loop.example/pagebuilder/laws.FnExactPiecesValid", spec := "fnExactPiecesValid", unfollowed := true, recurses := true, apart := false }
def FnExactPiecesValidSaid : Prop := fnExactPiecesValidRow.holds Try.pinned (OpenSpec.ofChange fnExactPiecesValidSpec)

/-- ITS FALSE NEIGHBOUR: 'it returns false'. Refute it at one input. -/
def fnExactPiecesValidWrong : ChangeSpec := { name := "fnExactPiecesValid", fn := fun _ => fun
  | [d] => { results := [.lit (.bool false)], args := [d] }
  | _ => none }
def FnExactPiecesValidWrongFalsely : Prop := fnExactPiecesValidRow.holds Try.pinned (OpenSpec.ofChange fnExactPiecesValidWrong)

/-- 'laws.FnPutText': WHATEVER THE INPUT: true; the input reads as it did. -/
def fnPutTextSpec : ChangeSpec := { name := "fnPutText", fn := fun _ => fun
  | [d] => { results := [.lit (.bool true)], args := [d] }
  | _ => none }
def fnPutTextRow : OpenClaim := { program := "ytenhkmkajmnaaaa", sum := "43a6c8941bd1eb5ad3c770a8b56f67d730c9a3548f5670f0a28d6538cb2d7dd5", func := "loop.example/pagebuilder/laws.FnPutText", spec := "fnPutText", unfollowed := true, recurses := true, apart := false }
def FnPutTextSaid : Prop := fnPutTextRow.holds Try.pinned (OpenSpec.ofChange fnPutTextSpec)

/-- ITS FALSE NEIGHBOUR: 'it returns false'. Refute it at one input. -/
def fnPutTextWrong : ChangeSpec := { name := "fnPutText", fn := fun _ => fun
  | [d] => { results := [.lit (.bool false)], args := [d] }
  | _ => none }
def FnPutTextWrongFalsely : Prop := fnPutTextRow.holds Try.pinned (OpenSpec.ofChange fnPutTextWrong)

/-- 'laws.FnTextGaps': WHATEVER THE INPUT: true; the input reads as it did. -/
def fnTextGapsSpec : ChangeSpec := { name := "fnTextGaps", fn := fun _ => fun
  | [d] => { results := [.lit (.bool true)], args := [d] }
  | _ => none }
def fnTextGapsRow : OpenClaim := { program := "ytenhkmkajmnaaaa", sum := "43a6c8941bd1eb5ad3c770a8b56f67d730c9a3548f5670f0a28d6538cb2d7dd5", func := "loop.example/pagebuilder/laws.FnTextGaps", spec := "fnTextGaps", inPlace := ["internal/abi.NoEscape", "internal/bytealg.MakeNoZero"], apart := false }
def FnTextGapsSaid : Prop := fnTextGapsRow.holds Try.pinned (OpenSpec.ofChange fnTextGapsSpec)

/-- ITS FALSE NEIGHBOUR: 'it returns false'. Refute it at one input. -/
def fnTextGapsWrong : ChangeSpec := { name := "fnTextGaps", fn := fun _ => fun
  | [d] => { results := [.lit (.bool false)], args := [d] }
  | _ => none }
def FnTextGapsWrongFalsely : Prop := fnTextGapsRow.holds Try.pinned (OpenSpec.ofChange fnTextGapsWrong)

/- THE SECOND FORM. 'bulk': how many values and letters a reading holds, each counted each time it is reached (what is shared counts as often as it is met; a slice's spare places count too). A statement '..UptoSaid' is the law's where the arguments, and the package variables that the reading takes, are together of bulk at most 1048576: NARROWER than '..Said'. Prove '..Said' where nothing that the law and all that it calls make is longer than what came in: it says more and counts as full. Else prove '..UptoSaid'. A law counts once. -/
mutual
def uptoBulk {H : Type} : DataW H → Nat
  | .lit (.string bytes) => bytes.length + 1
  | .lit _ => 1
  | .nil => 1
  | .ptr d => uptoBulk d + 1
  | .slice elems spare => uptoBulkAll elems + uptoBulkAll spare + 1
  | .agg parts => uptoBulkAll parts + 1
  | .iface _ d => uptoBulk d + 1
  | .map entries => uptoBulkEntries entries + 1
  | .held _ => 1
def uptoBulkAll {H : Type} : List (DataW H) → Nat
  | [] => 0
  | d :: r => uptoBulk d + uptoBulkAll r
def uptoBulkEntries {H : Type} : List (Lit × DataW H) → Nat
  | [] => 0
  | x :: r => uptoBulkEntry x + uptoBulkEntries r
def uptoBulkEntry {H : Type} : Lit × DataW H → Nat
  | (.string bytes, d) => bytes.length + uptoBulk d + 1
  | (_, d) => uptoBulk d + 1
 end
def uptoSmall : (H : Type) → List (DataW H) → Bool := fun _ ds => decide (uptoBulkAll ds ≤ 1048576)
def OpenSpec.upto (s : _root_.Go.ChangeSpec) : _root_.Go.OpenSpec := { _root_.Go.OpenSpec.ofChange s with cond := some uptoSmall }

/-- 'laws.FnPagesValid', WHERE WHAT IT READS IS OF BULK AT MOST 1048576: true; the input reads as it did. -/
def fnPagesValidUptoRow : OpenClaim := { program := "ytenhkmkajmnaaaa", sum := "43a6c8941bd1eb5ad3c770a8b56f67d730c9a3548f5670f0a28d6538cb2d7dd5", func := "loop.example/pagebuilder/laws.FnPagesValid", spec := "fnPagesValid", apart := false, narrowed := true }
def FnPagesValidUptoSaid : Prop := fnPagesValidUptoRow.holds Try.pinned (OpenSpec.upto fnPagesValidSpec)

/-- 'laws.FnPackFraction', WHERE WHAT IT READS IS OF BULK AT MOST 1048576: true; the input reads as it did. -/
def fnPackFractionUptoRow : OpenClaim := { program := "ytenhkmkajmnaaaa", sum := "43a6c8941bd1eb5ad3c770a8b56f67d730c9a3548f5670f0a28d6538cb2d7dd5", func := "loop.example/pagebuilder/laws.FnPackFraction", spec := "fnPackFraction", apart := false, narrowed := true }
def FnPackFractionUptoSaid : Prop := fnPackFractionUptoRow.holds Try.pinned (OpenSpec.upto fnPackFractionSpec)

/-- 'laws.FnIndexValid', WHERE WHAT IT READS IS OF BULK AT MOST 1048576: true; the input reads as it did. -/
def fnIndexValidUptoRow : OpenClaim := { program := "ytenhkmkajmnaaaa", sum := "43a6c8941bd1eb5ad3c770a8b56f67d730c9a3548f5670f0a28d6538cb2d7dd5", func := "loop.example/pagebuilder/laws.FnIndexValid", spec := "fnIndexValid", unfollowed := true, recurses := true, apart := false, narrowed := true }
def FnIndexValidUptoSaid : Prop := fnIndexValidUptoRow.holds Try.pinned (OpenSpec.upto fnIndexValidSpec)

/-- 'laws.FnFractionRow', WHERE WHAT IT READS IS OF BULK AT MOST 1048576: true; the input reads as it did. -/
def fnFractionRowUptoRow : OpenClaim := { program := "ytenhkmkajmnaaaa", sum := "43a6c8941bd1eb5ad3c770a8b56f67d730c9a3548f5670f0a28d6538cb2d7dd5", func := "loop.example/pagebuilder/laws.FnFractionRow", spec := "fnFractionRow", apart := false, narrowed := true }
def FnFractionRowUptoSaid : Prop := fnFractionRowUptoRow.holds Try.pinned (OpenSpec.upto fnFractionRowSpec)

/-- 'laws.FnGridValid', WHERE WHAT IT READS IS OF BULK AT MOST 1048576: true; the input reads as it did. -/
def fnGridValidUptoRow : OpenClaim := { program := "ytenhkmkajmnaaaa", sum := "43a6c8941bd1eb5ad3c770a8b56f67d730c9a3548f5670f0a28d6538cb2d7dd5", func := "loop.example/pagebuilder/laws.FnGridValid", spec := "fnGridValid", unfollowed := true, recurses := true, apart := false, narrowed := true }
def FnGridValidUptoSaid : Prop := fnGridValidUptoRow.holds Try.pinned (OpenSpec.upto fnGridValidSpec)

/-- 'laws.FnPackRow', WHERE WHAT IT READS IS OF BULK AT MOST 1048576: true; the input reads as it did. -/
def fnPackRowUptoRow : OpenClaim := { program := "ytenhkmkajmnaaaa", sum := "43a6c8941bd1eb5ad3c770a8b56f67d730c9a3548f5670f0a28d6538cb2d7dd5", func := "loop.example/pagebuilder/laws.FnPackRow", spec := "fnPackRow", apart := false, narrowed := true }
def FnPackRowUptoSaid : Prop := fnPackRowUptoRow.holds Try.pinned (OpenSpec.upto fnPackRowSpec)

/-- 'laws.FnPackStack', WHERE WHAT IT READS IS OF BULK AT MOST 1048576: true; the input reads as it did. -/
def fnPackStackUptoRow : OpenClaim := { program := "ytenhkmkajmnaaaa", sum := "43a6c8941bd1eb5ad3c770a8b56f67d730c9a3548f5670f0a28d6538cb2d7dd5", func := "loop.example/pagebuilder/laws.FnPackStack", spec := "fnPackStack", apart := false, narrowed := true }
def FnPackStackUptoSaid : Prop := fnPackStackUptoRow.holds Try.pinned (OpenSpec.upto fnPackStackSpec)

/-- 'laws.FnPiecesValid', WHERE WHAT IT READS IS OF BULK AT MOST 1048576: true; the input reads as it did. -/
def fnPiecesValidUptoRow : OpenClaim := { program := "ytenhkmkajmnaaaa", sum := "43a6c8941bd1eb5ad3c770a8b56f67d730c9a3548f5670f0a28d6538cb2d7dd5", func := "loop.example/pagebuilder/laws.FnPiecesValid", spec := "fnPiecesValid", unfollowed := true, recurses := true, apart := false, narrowed := true }
def FnPiecesValidUptoSaid : Prop := fnPiecesValidUptoRow.holds Try.pinned (OpenSpec.upto fnPiecesValidSpec)

/-- 'laws.FnBookValid', WHERE WHAT IT READS IS OF BULK AT MOST 1048576: true; the input reads as it did. -/
def fnBookValidUptoRow : OpenClaim := { program := "ytenhkmkajmnaaaa", sum := "43a6c8941bd1eb5ad3c770a8b56f67d730c9a3548f5670f0a28d6538cb2d7dd5", func := "loop.example/pagebuilder/laws.FnBookValid", spec := "fnBookValid", apart := false, narrowed := true }
def FnBookValidUptoSaid : Prop := fnBookValidUptoRow.holds Try.pinned (OpenSpec.upto fnBookValidSpec)

/-- 'laws.FnExactPiecesValid', WHERE WHAT IT READS IS OF BULK AT MOST 1048576: true; the input reads as it did. -/
def fnExactPiecesValidUptoRow : OpenClaim := { program := "ytenhkmkajmnaaaa", sum := "43a6c8941bd1eb5ad3c770a8b56f67d730c9a3548f5670f0a28d6538cb2d7dd5", func := "loop.example/pagebuilder/laws.FnExactPiecesValid", spec := "fnExactPiecesValid", unfollowed := true, recurses := true, apart := false, narrowed := true }
def FnExactPiecesValidUptoSaid : Prop := fnExactPiecesValidUptoRow.holds Try.pinned (OpenSpec.upto fnExactPiecesValidSpec)

/-- 'laws.FnPutText', WHERE WHAT IT READS IS OF BULK AT MOST 1048576: true; the input reads as it did. -/
def fnPutTextUptoRow : OpenClaim := { program := "ytenhkmkajmnaaaa", sum := "43a6c8941bd1eb5ad3c770a8b56f67d730c9a3548f5670f0a28d6538cb2d7dd5", func := "loop.example/pagebuilder/laws.FnPutText", spec := "fnPutText", unfollowed := true, recurses := true, apart := false, narrowed := true }
def FnPutTextUptoSaid : Prop := fnPutTextUptoRow.holds Try.pinned (OpenSpec.upto fnPutTextSpec)

/-- 'laws.FnTextGaps', WHERE WHAT IT READS IS OF BULK AT MOST 1048576: true; the input reads as it did. -/
def fnTextGapsUptoRow : OpenClaim := { program := "ytenhkmkajmnaaaa", sum := "43a6c8941bd1eb5ad3c770a8b56f67d730c9a3548f5670f0a28d6538cb2d7dd5", func := "loop.example/pagebuilder/laws.FnTextGaps", spec := "fnTextGaps", inPlace := ["internal/abi.NoEscape", "internal/bytealg.MakeNoZero"], apart := false, narrowed := true }
def FnTextGapsUptoSaid : Prop := fnTextGapsUptoRow.holds Try.pinned (OpenSpec.upto fnTextGapsSpec)

end Rows
end Go.Proofs.Ytenhkmkajmnaaaa
