/-
  No cell of these rows narrows 'for every input' (looked for: loops, veiled, ifaces, maps, wideKeys, modest, calm, conditions, laid).
  DERIVED. THE GIVEN ROWS OF THIS SEAT. 5 by the template 'for every input the law returns true; each argument reads behind the call as it read before'; 0 by the template 'total and deterministic' (their statements: YtgjochaacmkpaaaTotals.lean).
  GIVEN WITH THE SEED: the statements are not yours to turn. If you find one false, say at which input.
  Laid BY PROGRAM, IN A SANDBOX (cutbox-rows.mjs): the forced cells as the released guide's own fill.sh prints them over the translation c119f8b4778e6cfd… (all of the seat's roots in one cut). By AI agents, Wed Nov 11 2026. No macro, syntax, notation, axiom, sorry.
-/
import Derived.Test.YtgjochaacmkpaaaChecked
import GoSem.Claim
import GoSem.ClaimJoined
import GoSem.ClaimMapViews
import Derived.JoinedTies
import Derived.KernelRfl
namespace Go.Proofs.Ytgjochaacmkpaaa
/- THE CELL 'sum', in the pinned program and in every row, IS THE sha256 OF THE DUMP (.gsa) THAT YtgjochaacmkpaaaProg.lean LOADS. Nothing in Lean hashes anything: it is a label: what it is worth is what the hold of that sum in a sandbox is worth. -/
noncomputable def Try.pinned : Pinned := { name := "ytgjochaacmkpaaa", sum := "c119f8b4778e6cfd1115cf02e205c9b41c56ddd8ae4c3f4133b2e9ed47d74e51", checked := Try.checked }
namespace Rows
def none {H : Type} : Left H := { results := [], args := [] }

/-- 'emendatelaw07.BytesetOf': WHATEVER THE INPUT: true; the input reads as it did. -/
def bytesetOfSpec : ChangeSpec := { name := "bytesetOf", fn := fun _ => fun
  | [d1, d2, d3] => { results := [.lit (.bool true)], args := [d1, d2, d3] }
  | _ => none }
def bytesetOfRow : OpenClaim := { program := "ytgjochaacmkpaaa", sum := "c119f8b4778e6cfd1115cf02e205c9b41c56ddd8ae4c3f4133b2e9ed47d74e51", func := "emendate/emendatelaw07.BytesetOf", spec := "bytesetOf", apart := false }
def BytesetOfSaid : Prop := bytesetOfRow.holds Try.pinned (OpenSpec.ofChange bytesetOfSpec)

/-- ITS FALSE NEIGHBOUR: 'it returns false'. Refute it at one input. -/
def bytesetOfWrong : ChangeSpec := { name := "bytesetOf", fn := fun _ => fun
  | [d1, d2, d3] => { results := [.lit (.bool false)], args := [d1, d2, d3] }
  | _ => none }
def BytesetOfWrongFalsely : Prop := bytesetOfRow.holds Try.pinned (OpenSpec.ofChange bytesetOfWrong)

/-- 'emendatelaw07.BytesetClasses': WHATEVER THE INPUT: true; the input reads as it did. -/
def bytesetClassesSpec : ChangeSpec := { name := "bytesetClasses", fn := fun _ => fun
  | [d] => { results := [.lit (.bool true)], args := [d] }
  | _ => none }
def bytesetClassesRow : OpenClaim := { program := "ytgjochaacmkpaaa", sum := "c119f8b4778e6cfd1115cf02e205c9b41c56ddd8ae4c3f4133b2e9ed47d74e51", func := "emendate/emendatelaw07.BytesetClasses", spec := "bytesetClasses", apart := false }
def BytesetClassesSaid : Prop := bytesetClassesRow.holds Try.pinned (OpenSpec.ofChange bytesetClassesSpec)

/-- ITS FALSE NEIGHBOUR: 'it returns false'. Refute it at one input. -/
def bytesetClassesWrong : ChangeSpec := { name := "bytesetClasses", fn := fun _ => fun
  | [d] => { results := [.lit (.bool false)], args := [d] }
  | _ => none }
def BytesetClassesWrongFalsely : Prop := bytesetClassesRow.holds Try.pinned (OpenSpec.ofChange bytesetClassesWrong)

/-- 'emendatelaw07.BytesetRefines': WHATEVER THE INPUT: true; the input reads as it did. -/
def bytesetRefinesSpec : ChangeSpec := { name := "bytesetRefines", fn := fun _ => fun
  | [d1, d2, d3] => { results := [.lit (.bool true)], args := [d1, d2, d3] }
  | _ => none }
def bytesetRefinesRow : OpenClaim := { program := "ytgjochaacmkpaaa", sum := "c119f8b4778e6cfd1115cf02e205c9b41c56ddd8ae4c3f4133b2e9ed47d74e51", func := "emendate/emendatelaw07.BytesetRefines", spec := "bytesetRefines", apart := false }
def BytesetRefinesSaid : Prop := bytesetRefinesRow.holds Try.pinned (OpenSpec.ofChange bytesetRefinesSpec)

/-- ITS FALSE NEIGHBOUR: 'it returns false'. Refute it at one input. -/
def bytesetRefinesWrong : ChangeSpec := { name := "bytesetRefines", fn := fun _ => fun
  | [d1, d2, d3] => { results := [.lit (.bool false)], args := [d1, d2, d3] }
  | _ => none }
def BytesetRefinesWrongFalsely : Prop := bytesetRefinesRow.holds Try.pinned (OpenSpec.ofChange bytesetRefinesWrong)

/-- 'emendatelaw07.BytesetOperations': WHATEVER THE INPUT: true; the input reads as it did. -/
def bytesetOperationsSpec : ChangeSpec := { name := "bytesetOperations", fn := fun _ => fun
  | [d1, d2] => { results := [.lit (.bool true)], args := [d1, d2] }
  | _ => none }
def bytesetOperationsRow : OpenClaim := { program := "ytgjochaacmkpaaa", sum := "c119f8b4778e6cfd1115cf02e205c9b41c56ddd8ae4c3f4133b2e9ed47d74e51", func := "emendate/emendatelaw07.BytesetOperations", spec := "bytesetOperations", apart := false }
def BytesetOperationsSaid : Prop := bytesetOperationsRow.holds Try.pinned (OpenSpec.ofChange bytesetOperationsSpec)

/-- ITS FALSE NEIGHBOUR: 'it returns false'. Refute it at one input. -/
def bytesetOperationsWrong : ChangeSpec := { name := "bytesetOperations", fn := fun _ => fun
  | [d1, d2] => { results := [.lit (.bool false)], args := [d1, d2] }
  | _ => none }
def BytesetOperationsWrongFalsely : Prop := bytesetOperationsRow.holds Try.pinned (OpenSpec.ofChange bytesetOperationsWrong)

/-- 'emendatelaw07.BytesetAlgebra': WHATEVER THE INPUT: true; the input reads as it did. -/
def bytesetAlgebraSpec : ChangeSpec := { name := "bytesetAlgebra", fn := fun _ => fun
  | [d1, d2, d3] => { results := [.lit (.bool true)], args := [d1, d2, d3] }
  | _ => none }
def bytesetAlgebraRow : OpenClaim := { program := "ytgjochaacmkpaaa", sum := "c119f8b4778e6cfd1115cf02e205c9b41c56ddd8ae4c3f4133b2e9ed47d74e51", func := "emendate/emendatelaw07.BytesetAlgebra", spec := "bytesetAlgebra", apart := false }
def BytesetAlgebraSaid : Prop := bytesetAlgebraRow.holds Try.pinned (OpenSpec.ofChange bytesetAlgebraSpec)

/-- ITS FALSE NEIGHBOUR: 'it returns false'. Refute it at one input. -/
def bytesetAlgebraWrong : ChangeSpec := { name := "bytesetAlgebra", fn := fun _ => fun
  | [d1, d2, d3] => { results := [.lit (.bool false)], args := [d1, d2, d3] }
  | _ => none }
def BytesetAlgebraWrongFalsely : Prop := bytesetAlgebraRow.holds Try.pinned (OpenSpec.ofChange bytesetAlgebraWrong)

/- THE SECOND FORM. 'bulk': how many values and letters a reading holds, each counted each time it is reached (what is shared counts as often as it is met; a slice's spare places count too). A statement '..UptoSaid' is the law's where the arguments, and the package variables that the reading takes, are together of bulk at most 1048576: NARROWER than '..Said'. Prove '..Said' where nothing that the law and all that it calls make is longer than what came in: it says more and counts as full. Else prove '..UptoSaid'. A law counts once. -/
mutual
def uptoBulk {H : Type} : DataW H → Nat
  | .lit (.string bytes) => bytes.length + 1
  | .lit _ => 1
  | .nil => 1
  | .ptr d => uptoBulk d + 1
  | .slice elems spare => uptoBulkAll elems + uptoBulkAll spare + 1
  | .agg parts => uptoBulkAll parts + 1
  | .iface _ d => uptoBulk d + 1
  | .map entries => uptoBulkEntries entries + 1
  | .held _ => 1
def uptoBulkAll {H : Type} : List (DataW H) → Nat
  | [] => 0
  | d :: r => uptoBulk d + uptoBulkAll r
def uptoBulkEntries {H : Type} : List (Lit × DataW H) → Nat
  | [] => 0
  | x :: r => uptoBulkEntry x + uptoBulkEntries r
def uptoBulkEntry {H : Type} : Lit × DataW H → Nat
  | (.string bytes, d) => bytes.length + uptoBulk d + 1
  | (_, d) => uptoBulk d + 1
 end
def uptoSmall : (H : Type) → List (DataW H) → Bool := fun _ ds => decide (uptoBulkAll ds ≤ 1048576)
def OpenSpec.upto (s : _root_.Go.ChangeSpec) : _root_.Go.OpenSpec := { _root_.Go.OpenSpec.ofChange s with cond := some uptoSmall }

/-- 'emendatelaw07.BytesetOf', WHERE WHAT IT READS IS OF BULK AT MOST 1048576: true; the input reads as it did. -/
def bytesetOfUptoRow : OpenClaim := { program := "ytgjochaacmkpaaa", sum := "c119f8b4778e6cfd1115cf02e205c9b41c56ddd8ae4c3f4133b2e9ed47d74e51", func := "emendate/emendatelaw07.BytesetOf", spec := "bytesetOf", apart := false, narrowed := true }
def BytesetOfUptoSaid : Prop := bytesetOfUptoRow.holds Try.pinned (OpenSpec.upto bytesetOfSpec)

/-- 'emendatelaw07.BytesetClasses', WHERE WHAT IT READS IS OF BULK AT MOST 1048576: true; the input reads as it did. -/
def bytesetClassesUptoRow : OpenClaim := { program := "ytgjochaacmkpaaa", sum := "c119f8b4778e6cfd1115cf02e205c9b41c56ddd8ae4c3f4133b2e9ed47d74e51", func := "emendate/emendatelaw07.BytesetClasses", spec := "bytesetClasses", apart := false, narrowed := true }
def BytesetClassesUptoSaid : Prop := bytesetClassesUptoRow.holds Try.pinned (OpenSpec.upto bytesetClassesSpec)

/-- 'emendatelaw07.BytesetRefines', WHERE WHAT IT READS IS OF BULK AT MOST 1048576: true; the input reads as it did. -/
def bytesetRefinesUptoRow : OpenClaim := { program := "ytgjochaacmkpaaa", sum := "c119f8b4778e6cfd1115cf02e205c9b41c56ddd8ae4c3f4133b2e9ed47d74e51", func := "emendate/emendatelaw07.BytesetRefines", spec := "bytesetRefines", apart := false, narrowed := true }
def BytesetRefinesUptoSaid : Prop := bytesetRefinesUptoRow.holds Try.pinned (OpenSpec.upto bytesetRefinesSpec)

/-- 'emendatelaw07.BytesetOperations', WHERE WHAT IT READS IS OF BULK AT MOST 1048576: true; the input reads as it did. -/
def bytesetOperationsUptoRow : OpenClaim := { program := "ytgjochaacmkpaaa", sum := "c119f8b4778e6cfd1115cf02e205c9b41c56ddd8ae4c3f4133b2e9ed47d74e51", func := "emendate/emendatelaw07.BytesetOperations", spec := "bytesetOperations", apart := false, narrowed := true }
def BytesetOperationsUptoSaid : Prop := bytesetOperationsUptoRow.holds Try.pinned (OpenSpec.upto bytesetOperationsSpec)

/-- 'emendatelaw07.BytesetAlgebra', WHERE WHAT IT READS IS OF BULK AT MOST 1048576: true; the input reads as it did. -/
def bytesetAlgebraUptoRow : OpenClaim := { program := "ytgjochaacmkpaaa", sum := "c119f8b4778e6cfd1115cf02e205c9b41c56ddd8ae4c3f4133b2e9ed47d74e51", func := "emendate/emendatelaw07.BytesetAlgebra", spec := "bytesetAlgebra", apart := false, narrowed := true }
def BytesetAlgebraUptoSaid : Prop := bytesetAlgebraUptoRow.holds Try.pinned (OpenSpec.upto bytesetAlgebraSpec)

end Rows
end Go.Proofs.Ytgjochaacmkpaaa
