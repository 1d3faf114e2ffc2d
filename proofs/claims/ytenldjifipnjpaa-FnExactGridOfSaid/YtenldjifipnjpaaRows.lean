/-
  No cell of these rows narrows 'for every input' (looked for: loops, veiled, ifaces, maps, wideKeys, modest, calm, conditions, laid).
  DERIVED. THE GIVEN ROWS OF THIS SEAT. 4 by the template 'for every input the law returns true; each argument reads behind the call as it read before'; 0 by the template 'total and deterministic' (their statements: YtenldjifipnjpaaTotals.lean).
  GIVEN WITH THE SEED: the statements are not yours to turn. If you find one false, say at which input.
  Laid BY PROGRAM, IN A SANDBOX (cutbox-rows.mjs): the forced cells as the released guide's own fill.sh prints them over the translation 7a3397a5a24e49c4… (all of the seat's roots in one cut). By AI agents, Wed Nov 11 2026. No macro, syntax, notation, axiom, sorry.
-/
import Derived.Test.YtenldjifipnjpaaChecked
import GoSem.Claim
import GoSem.ClaimJoined
import GoSem.ClaimMapViews
import Derived.JoinedTies
import Derived.KernelRfl
namespace Go.Proofs.Ytenldjifipnjpaa
/- THE CELL 'sum', in the pinned program and in every row, IS THE sha256 OF THE DUMP (.gsa) THAT YtenldjifipnjpaaProg.lean LOADS. Nothing in Lean hashes anything: it is a label: what it is worth is what the hold of that sum in a sandbox is worth. -/
noncomputable def Try.pinned : Pinned := { name := "ytenldjifipnjpaa", sum := "7a3397a5a24e49c4f8ef107b0251f82ae8e625b915d1b5ad9af961553f0f8948", checked := Try.checked }
namespace Rows
def none {H : Type} : Left H := { results := [], args := [] }

/-- 'laws.FnExactGridOf': WHATEVER THE INPUT: true; the input reads as it did. -/
def fnExactGridOfSpec : ChangeSpec := { name := "fnExactGridOf", fn := fun _ => fun
  | [d1, d2] => { results := [.lit (.bool true)], args := [d1, d2] }
  | _ => none }
def fnExactGridOfRow : OpenClaim := { program := "ytenldjifipnjpaa", sum := "7a3397a5a24e49c4f8ef107b0251f82ae8e625b915d1b5ad9af961553f0f8948", func := "loop.example/pagebuilder/laws.FnExactGridOf", spec := "fnExactGridOf", inPlace := ["internal/bytealg.MakeNoZero"], apart := false }
def FnExactGridOfSaid : Prop := fnExactGridOfRow.holds Try.pinned (OpenSpec.ofChange fnExactGridOfSpec)

/-- ITS FALSE NEIGHBOUR: 'it returns false'. Refute it at one input. -/
def fnExactGridOfWrong : ChangeSpec := { name := "fnExactGridOf", fn := fun _ => fun
  | [d1, d2] => { results := [.lit (.bool false)], args := [d1, d2] }
  | _ => none }
def FnExactGridOfWrongFalsely : Prop := fnExactGridOfRow.holds Try.pinned (OpenSpec.ofChange fnExactGridOfWrong)

/-- 'laws.FnExactJustifyText': WHATEVER THE INPUT: true; the input reads as it did. -/
def fnExactJustifyTextSpec : ChangeSpec := { name := "fnExactJustifyText", fn := fun _ => fun
  | [d1, d2] => { results := [.lit (.bool true)], args := [d1, d2] }
  | _ => none }
def fnExactJustifyTextRow : OpenClaim := { program := "ytenldjifipnjpaa", sum := "7a3397a5a24e49c4f8ef107b0251f82ae8e625b915d1b5ad9af961553f0f8948", func := "loop.example/pagebuilder/laws.FnExactJustifyText", spec := "fnExactJustifyText", inPlace := ["internal/abi.NoEscape", "internal/bytealg.MakeNoZero"], apart := false }
def FnExactJustifyTextSaid : Prop := fnExactJustifyTextRow.holds Try.pinned (OpenSpec.ofChange fnExactJustifyTextSpec)

/-- ITS FALSE NEIGHBOUR: 'it returns false'. Refute it at one input. -/
def fnExactJustifyTextWrong : ChangeSpec := { name := "fnExactJustifyText", fn := fun _ => fun
  | [d1, d2] => { results := [.lit (.bool false)], args := [d1, d2] }
  | _ => none }
def FnExactJustifyTextWrongFalsely : Prop := fnExactJustifyTextRow.holds Try.pinned (OpenSpec.ofChange fnExactJustifyTextWrong)

/-- 'laws.FnExactTextLines': WHATEVER THE INPUT: true; the input reads as it did. -/
def fnExactTextLinesSpec : ChangeSpec := { name := "fnExactTextLines", fn := fun _ => fun
  | [d1, d2] => { results := [.lit (.bool true)], args := [d1, d2] }
  | _ => none }
def fnExactTextLinesRow : OpenClaim := { program := "ytenldjifipnjpaa", sum := "7a3397a5a24e49c4f8ef107b0251f82ae8e625b915d1b5ad9af961553f0f8948", func := "loop.example/pagebuilder/laws.FnExactTextLines", spec := "fnExactTextLines", inPlace := ["internal/abi.NoEscape", "internal/bytealg.MakeNoZero"], apart := false }
def FnExactTextLinesSaid : Prop := fnExactTextLinesRow.holds Try.pinned (OpenSpec.ofChange fnExactTextLinesSpec)

/-- ITS FALSE NEIGHBOUR: 'it returns false'. Refute it at one input. -/
def fnExactTextLinesWrong : ChangeSpec := { name := "fnExactTextLines", fn := fun _ => fun
  | [d1, d2] => { results := [.lit (.bool false)], args := [d1, d2] }
  | _ => none }
def FnExactTextLinesWrongFalsely : Prop := fnExactTextLinesRow.holds Try.pinned (OpenSpec.ofChange fnExactTextLinesWrong)

/-- 'laws.FnTextWider': WHATEVER THE INPUT: true; the input reads as it did. -/
def fnTextWiderSpec : ChangeSpec := { name := "fnTextWider", fn := fun _ => fun
  | [d] => { results := [.lit (.bool true)], args := [d] }
  | _ => none }
def fnTextWiderRow : OpenClaim := { program := "ytenldjifipnjpaa", sum := "7a3397a5a24e49c4f8ef107b0251f82ae8e625b915d1b5ad9af961553f0f8948", func := "loop.example/pagebuilder/laws.FnTextWider", spec := "fnTextWider", inPlace := ["internal/abi.NoEscape", "internal/bytealg.MakeNoZero"], apart := false }
def FnTextWiderSaid : Prop := fnTextWiderRow.holds Try.pinned (OpenSpec.ofChange fnTextWiderSpec)

/-- ITS FALSE NEIGHBOUR: 'it returns false'. Refute it at one input. -/
def fnTextWiderWrong : ChangeSpec := { name := "fnTextWider", fn := fun _ => fun
  | [d] => { results := [.lit (.bool false)], args := [d] }
  | _ => none }
def FnTextWiderWrongFalsely : Prop := fnTextWiderRow.holds Try.pinned (OpenSpec.ofChange fnTextWiderWrong)

/- THE SECOND FORM. 'bulk': how many values and letters a reading holds, each counted each time it is reached (what is shared counts as often as it is met; a slice's spare places count too). A statement '..UptoSaid' is the law's where the arguments, and the package variables that the reading takes, are together of bulk at most 1048576: NARROWER than '..Said'. Prove '..Said' where nothing that the law and all that it calls make is longer than what came in: it says more and counts as full. Else prove '..UptoSaid'. A law counts once. -/
mutual
def uptoBulk {H : Type} : DataW H → Nat
  | .lit (.string bytes) => bytes.length + 1
  | .lit _ => 1
  | .nil => 1
  | .ptr d => uptoBulk d + 1
  | .slice elems spare => uptoBulkAll elems + uptoBulkAll spare + 1
  | .agg parts => uptoBulkAll parts + 1
  | .iface _ d => uptoBulk d + 1
  | .map entries => uptoBulkEntries entries + 1
  | .held _ => 1
def uptoBulkAll {H : Type} : List (DataW H) → Nat
  | [] => 0
  | d :: r => uptoBulk d + uptoBulkAll r
def uptoBulkEntries {H : Type} : List (Lit × DataW H) → Nat
  | [] => 0
  | x :: r => uptoBulkEntry x + uptoBulkEntries r
def uptoBulkEntry {H : Type} : Lit × DataW H → Nat
  | (.string bytes, d) => bytes.length + uptoBulk d + 1
  | (_, d) => uptoBulk d + 1
 end
def uptoSmall : (H : Type) → List (DataW H) → Bool := fun _ ds => decide (uptoBulkAll ds ≤ 1048576)
def OpenSpec.upto (s : _root_.Go.ChangeSpec) : _root_.Go.OpenSpec := { _root_.Go.OpenSpec.ofChange s with cond := some uptoSmall }

/-- 'laws.FnExactGridOf', WHERE WHAT IT READS IS OF BULK AT MOST 1048576: true; the input reads as it did. -/
def fnExactGridOfUptoRow : OpenClaim := { program := "ytenldjifipnjpaa", sum := "7a3397a5a24e49c4f8ef107b0251f82ae8e625b915d1b5ad9af961553f0f8948", func := "loop.example/pagebuilder/laws.FnExactGridOf", spec := "fnExactGridOf", inPlace := ["internal/bytealg.MakeNoZero"], apart := false, narrowed := true }
def FnExactGridOfUptoSaid : Prop := fnExactGridOfUptoRow.holds Try.pinned (OpenSpec.upto fnExactGridOfSpec)

/-- 'laws.FnExactJustifyText', WHERE WHAT IT READS IS OF BULK AT MOST 1048576: true; the input reads as it did. -/
def fnExactJustifyTextUptoRow : OpenClaim := { program := "ytenldjifipnjpaa", sum := "7a3397a5a24e49c4f8ef107b0251f82ae8e625b915d1b5ad9af961553f0f8948", func := "loop.example/pagebuilder/laws.FnExactJustifyText", spec := "fnExactJustifyText", inPlace := ["internal/abi.NoEscape", "internal/bytealg.MakeNoZero"], apart := false, narrowed := true }
def FnExactJustifyTextUptoSaid : Prop := fnExactJustifyTextUptoRow.holds Try.pinned (OpenSpec.upto fnExactJustifyTextSpec)

/-- 'laws.FnExactTextLines', WHERE WHAT IT READS IS OF BULK AT MOST 1048576: true; the input reads as it did. -/
def fnExactTextLinesUptoRow : OpenClaim := { program := "ytenldjifipnjpaa", sum := "7a3397a5a24e49c4f8ef107b0251f82ae8e625b915d1b5ad9af961553f0f8948", func := "loop.example/pagebuilder/laws.FnExactTextLines", spec := "fnExactTextLines", inPlace := ["internal/abi.NoEscape", "internal/bytealg.MakeNoZero"], apart := false, narrowed := true }
def FnExactTextLinesUptoSaid : Prop := fnExactTextLinesUptoRow.holds Try.pinned (OpenSpec.upto fnExactTextLinesSpec)

/-- 'laws.FnTextWider', WHERE WHAT IT READS IS OF BULK AT MOST 1048576: true; the input reads as it did. -/
def fnTextWiderUptoRow : OpenClaim := { program := "ytenldjifipnjpaa", sum := "7a3397a5a24e49c4f8ef107b0251f82ae8e625b915d1b5ad9af961553f0f8948", func := "loop.example/pagebuilder/laws.FnTextWider", spec := "fnTextWider", inPlace := ["internal/abi.NoEscape", "internal/bytealg.MakeNoZero"], apart := false, narrowed := true }
def FnTextWiderUptoSaid : Prop := fnTextWiderUptoRow.holds Try.pinned (OpenSpec.upto fnTextWiderSpec)

end Rows
end Go.Proofs.Ytenldjifipnjpaa
