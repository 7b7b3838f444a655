/-
  No cell of these rows narrows 'for every input' (looked for: loops, veiled, ifaces, maps, wideKeys, modest, calm, conditions, laid).
  DERIVED. THE GIVEN ROWS OF THIS SEAT. 6 by the template 'for every input the law returns true; each argument reads behind the call as it read before'; 0 by the template 'total and deterministic' (their statements: YtckefohfahphpaaTotals.lean).
  GIVEN WITH THE SEED: the statements are not yours to turn. If you find one false, say at which input.
  Laid BY PROGRAM, IN A SANDBOX (cutbox-rows.mjs): the forced cells as the released guide's own fill.sh prints them over the translation 8df2fe015056abb0… (all of the seat's roots in one cut). By AI agents, Wed Nov 11 2026. No macro, syntax, notation, axiom, sorry.
-/
import Derived.Test.YtckefohfahphpaaChecked
import GoSem.Claim
import GoSem.ClaimJoined
import GoSem.ClaimMapViews
import Derived.JoinedTies
import Derived.KernelRfl
namespace Go.Proofs.Ytckefohfahphpaa
/- THE CELL 'sum', in the pinned program and in every row, IS THE sha256 OF THE DUMP (.gsa) THAT YtckefohfahphpaaProg.lean LOADS. Nothing in Lean hashes anything: it is a label: what it is worth is what the hold of that sum in a sandbox is worth. -/
noncomputable def Try.pinned : Pinned := { name := "ytckefohfahphpaa", sum := "8df2fe015056abb061c19fc59fe6d769f31e70f76e7b6ba7640c89e8b3dc2631", checked := Try.checked }
namespace Rows
def none {H : Type} : Left H := { results := [], args := [] }

/-- 'petrinetlaw08.MatrixKernels': WHATEVER THE INPUT: true; the input reads as it did. -/
def matrixKernelsSpec : ChangeSpec := { name := "matrixKernels", fn := fun _ => fun
  | [d] => { results := [.lit (.bool true)], args := [d] }
  | _ => none }
def matrixKernelsRow : OpenClaim := { program := "ytckefohfahphpaa", sum := "8df2fe015056abb061c19fc59fe6d769f31e70f76e7b6ba7640c89e8b3dc2631", func := "petrinet/petrinetlaw08.MatrixKernels", spec := "matrixKernels", unfollowed := true, recurses := true, apart := false }
def MatrixKernelsSaid : Prop := matrixKernelsRow.holds Try.pinned (OpenSpec.ofChange matrixKernelsSpec)

/-- ITS FALSE NEIGHBOUR: 'it returns false'. Refute it at one input. -/
def matrixKernelsWrong : ChangeSpec := { name := "matrixKernels", fn := fun _ => fun
  | [d] => { results := [.lit (.bool false)], args := [d] }
  | _ => none }
def MatrixKernelsWrongFalsely : Prop := matrixKernelsRow.holds Try.pinned (OpenSpec.ofChange matrixKernelsWrong)

/-- 'petrinetlaw08.MatrixEchelons': WHATEVER THE INPUT: true; the input reads as it did. -/
def matrixEchelonsSpec : ChangeSpec := { name := "matrixEchelons", fn := fun _ => fun
  | [d] => { results := [.lit (.bool true)], args := [d] }
  | _ => none }
def matrixEchelonsRow : OpenClaim := { program := "ytckefohfahphpaa", sum := "8df2fe015056abb061c19fc59fe6d769f31e70f76e7b6ba7640c89e8b3dc2631", func := "petrinet/petrinetlaw08.MatrixEchelons", spec := "matrixEchelons", unfollowed := true, recurses := true, apart := false }
def MatrixEchelonsSaid : Prop := matrixEchelonsRow.holds Try.pinned (OpenSpec.ofChange matrixEchelonsSpec)

/-- ITS FALSE NEIGHBOUR: 'it returns false'. Refute it at one input. -/
def matrixEchelonsWrong : ChangeSpec := { name := "matrixEchelons", fn := fun _ => fun
  | [d] => { results := [.lit (.bool false)], args := [d] }
  | _ => none }
def MatrixEchelonsWrongFalsely : Prop := matrixEchelonsRow.holds Try.pinned (OpenSpec.ofChange matrixEchelonsWrong)

/-- 'petrinetlaw08.MatrixSpans': WHATEVER THE INPUT: true; the input reads as it did. -/
def matrixSpansSpec : ChangeSpec := { name := "matrixSpans", fn := fun _ => fun
  | [d] => { results := [.lit (.bool true)], args := [d] }
  | _ => none }
def matrixSpansRow : OpenClaim := { program := "ytckefohfahphpaa", sum := "8df2fe015056abb061c19fc59fe6d769f31e70f76e7b6ba7640c89e8b3dc2631", func := "petrinet/petrinetlaw08.MatrixSpans", spec := "matrixSpans", unfollowed := true, recurses := true, apart := false }
def MatrixSpansSaid : Prop := matrixSpansRow.holds Try.pinned (OpenSpec.ofChange matrixSpansSpec)

/-- ITS FALSE NEIGHBOUR: 'it returns false'. Refute it at one input. -/
def matrixSpansWrong : ChangeSpec := { name := "matrixSpans", fn := fun _ => fun
  | [d] => { results := [.lit (.bool false)], args := [d] }
  | _ => none }
def MatrixSpansWrongFalsely : Prop := matrixSpansRow.holds Try.pinned (OpenSpec.ofChange matrixSpansWrong)

/-- 'petrinetlaw08.MatrixTransposes': WHATEVER THE INPUT: true; the input reads as it did. -/
def matrixTransposesSpec : ChangeSpec := { name := "matrixTransposes", fn := fun _ => fun
  | [d] => { results := [.lit (.bool true)], args := [d] }
  | _ => none }
def matrixTransposesRow : OpenClaim := { program := "ytckefohfahphpaa", sum := "8df2fe015056abb061c19fc59fe6d769f31e70f76e7b6ba7640c89e8b3dc2631", func := "petrinet/petrinetlaw08.MatrixTransposes", spec := "matrixTransposes", unfollowed := true, recurses := true, apart := false }
def MatrixTransposesSaid : Prop := matrixTransposesRow.holds Try.pinned (OpenSpec.ofChange matrixTransposesSpec)

/-- ITS FALSE NEIGHBOUR: 'it returns false'. Refute it at one input. -/
def matrixTransposesWrong : ChangeSpec := { name := "matrixTransposes", fn := fun _ => fun
  | [d] => { results := [.lit (.bool false)], args := [d] }
  | _ => none }
def MatrixTransposesWrongFalsely : Prop := matrixTransposesRow.holds Try.pinned (OpenSpec.ofChange matrixTransposesWrong)

/-- 'petrinetlaw08.MatrixAgrees': WHATEVER THE INPUT: true; the input reads as it did. -/
def matrixAgreesSpec : ChangeSpec := { name := "matrixAgrees", fn := fun _ => fun
  | [d] => { results := [.lit (.bool true)], args := [d] }
  | _ => none }
def matrixAgreesRow : OpenClaim := { program := "ytckefohfahphpaa", sum := "8df2fe015056abb061c19fc59fe6d769f31e70f76e7b6ba7640c89e8b3dc2631", func := "petrinet/petrinetlaw08.MatrixAgrees", spec := "matrixAgrees", unfollowed := true, recurses := true, apart := false }
def MatrixAgreesSaid : Prop := matrixAgreesRow.holds Try.pinned (OpenSpec.ofChange matrixAgreesSpec)

/-- ITS FALSE NEIGHBOUR: 'it returns false'. Refute it at one input. -/
def matrixAgreesWrong : ChangeSpec := { name := "matrixAgrees", fn := fun _ => fun
  | [d] => { results := [.lit (.bool false)], args := [d] }
  | _ => none }
def MatrixAgreesWrongFalsely : Prop := matrixAgreesRow.holds Try.pinned (OpenSpec.ofChange matrixAgreesWrong)

/-- 'petrinetlaw08.MatrixProducts': WHATEVER THE INPUT: true; the input reads as it did. -/
def matrixProductsSpec : ChangeSpec := { name := "matrixProducts", fn := fun _ => fun
  | [d1, d2, d3] => { results := [.lit (.bool true)], args := [d1, d2, d3] }
  | _ => none }
def matrixProductsRow : OpenClaim := { program := "ytckefohfahphpaa", sum := "8df2fe015056abb061c19fc59fe6d769f31e70f76e7b6ba7640c89e8b3dc2631", func := "petrinet/petrinetlaw08.MatrixProducts", spec := "matrixProducts", unfollowed := true, recurses := true, apart := false }
def MatrixProductsSaid : Prop := matrixProductsRow.holds Try.pinned (OpenSpec.ofChange matrixProductsSpec)

/-- ITS FALSE NEIGHBOUR: 'it returns false'. Refute it at one input. -/
def matrixProductsWrong : ChangeSpec := { name := "matrixProducts", fn := fun _ => fun
  | [d1, d2, d3] => { results := [.lit (.bool false)], args := [d1, d2, d3] }
  | _ => none }
def MatrixProductsWrongFalsely : Prop := matrixProductsRow.holds Try.pinned (OpenSpec.ofChange matrixProductsWrong)

/- THE SECOND FORM. 'bulk': how many values and letters a reading holds, each counted each time it is reached (what is shared counts as often as it is met; a slice's spare places count too). A statement '..UptoSaid' is the law's where the arguments, and the package variables that the reading takes, are together of bulk at most 1048576: NARROWER than '..Said'. Prove '..Said' where nothing that the law and all that it calls make is longer than what came in: it says more and counts as full. Else prove '..UptoSaid'. A law counts once. -/
mutual
def uptoBulk {H : Type} : DataW H → Nat
  | .lit (.string bytes) => bytes.length + 1
  | .lit _ => 1
  | .nil => 1
  | .ptr d => uptoBulk d + 1
  | .slice elems spare => uptoBulkAll elems + uptoBulkAll spare + 1
  | .agg parts => uptoBulkAll parts + 1
  | .iface _ d => uptoBulk d + 1
  | .map entries => uptoBulkEntries entries + 1
  | .held _ => 1
def uptoBulkAll {H : Type} : List (DataW H) → Nat
  | [] => 0
  | d :: r => uptoBulk d + uptoBulkAll r
def uptoBulkEntries {H : Type} : List (Lit × DataW H) → Nat
  | [] => 0
  | x :: r => uptoBulkEntry x + uptoBulkEntries r
def uptoBulkEntry {H : Type} : Lit × DataW H → Nat
  | (.string bytes, d) => bytes.length + uptoBulk d + 1
  | (_, d) => uptoBulk d + 1
 end
def uptoSmall : (H : Type) → List (DataW H) → Bool := fun _ ds => decide (uptoBulkAll ds ≤ 1048576)
def OpenSpec.upto (s : _root_.Go.ChangeSpec) : _root_.Go.OpenSpec := { _root_.Go.OpenSpec.ofChange s with cond := some uptoSmall }

/-- 'petrinetlaw08.MatrixKernels', WHERE WHAT IT READS IS OF BULK AT MOST 1048576: true; the input reads as it did. -/
def matrixKernelsUptoRow : OpenClaim := { program := "ytckefohfahphpaa", sum := "8df2fe015056abb061c19fc59fe6d769f31e70f76e7b6ba7640c89e8b3dc2631", func := "petrinet/petrinetlaw08.MatrixKernels", spec := "matrixKernels", unfollowed := true, recurses := true, apart := false, narrowed := true }
def MatrixKernelsUptoSaid : Prop := matrixKernelsUptoRow.holds Try.pinned (OpenSpec.upto matrixKernelsSpec)

/-- 'petrinetlaw08.MatrixEchelons', WHERE WHAT IT READS IS OF BULK AT MOST 1048576: true; the input reads as it did. -/
def matrixEchelonsUptoRow : OpenClaim := { program := "ytckefohfahphpaa", sum := "8df2fe015056abb061c19fc59fe6d769f31e70f76e7b6ba7640c89e8b3dc2631", func := "petrinet/petrinetlaw08.MatrixEchelons", spec := "matrixEchelons", unfollowed := true, recurses := true, apart := false, narrowed := true }
def MatrixEchelonsUptoSaid : Prop := matrixEchelonsUptoRow.holds Try.pinned (OpenSpec.upto matrixEchelonsSpec)

/-- 'petrinetlaw08.MatrixSpans', WHERE WHAT IT READS IS OF BULK AT MOST 1048576: true; the input reads as it did. -/
def matrixSpansUptoRow : OpenClaim := { program := "ytckefohfahphpaa", sum := "8df2fe015056abb061c19fc59fe6d769f31e70f76e7b6ba7640c89e8b3dc2631", func := "petrinet/petrinetlaw08.MatrixSpans", spec := "matrixSpans", unfollowed := true, recurses := true, apart := false, narrowed := true }
def MatrixSpansUptoSaid : Prop := matrixSpansUptoRow.holds Try.pinned (OpenSpec.upto matrixSpansSpec)

/-- 'petrinetlaw08.MatrixTransposes', WHERE WHAT IT READS IS OF BULK AT MOST 1048576: true; the input reads as it did. -/
def matrixTransposesUptoRow : OpenClaim := { program := "ytckefohfahphpaa", sum := "8df2fe015056abb061c19fc59fe6d769f31e70f76e7b6ba7640c89e8b3dc2631", func := "petrinet/petrinetlaw08.MatrixTransposes", spec := "matrixTransposes", unfollowed := true, recurses := true, apart := false, narrowed := true }
def MatrixTransposesUptoSaid : Prop := matrixTransposesUptoRow.holds Try.pinned (OpenSpec.upto matrixTransposesSpec)

/-- 'petrinetlaw08.MatrixAgrees', WHERE WHAT IT READS IS OF BULK AT MOST 1048576: true; the input reads as it did. -/
def matrixAgreesUptoRow : OpenClaim := { program := "ytckefohfahphpaa", sum := "8df2fe015056abb061c19fc59fe6d769f31e70f76e7b6ba7640c89e8b3dc2631", func := "petrinet/petrinetlaw08.MatrixAgrees", spec := "matrixAgrees", unfollowed := true, recurses := true, apart := false, narrowed := true }
def MatrixAgreesUptoSaid : Prop := matrixAgreesUptoRow.holds Try.pinned (OpenSpec.upto matrixAgreesSpec)

/-- 'petrinetlaw08.MatrixProducts', WHERE WHAT IT READS IS OF BULK AT MOST 1048576: true; the input reads as it did. -/
def matrixProductsUptoRow : OpenClaim := { program := "ytckefohfahphpaa", sum := "8df2fe015056abb061c19fc59fe6d769f31e70f76e7b6ba7640c89e8b3dc2631", func := "petrinet/petrinetlaw08.MatrixProducts", spec := "matrixProducts", unfollowed := true, recurses := true, apart := false, narrowed := true }
def MatrixProductsUptoSaid : Prop := matrixProductsUptoRow.holds Try.pinned (OpenSpec.upto matrixProductsSpec)

end Rows
end Go.Proofs.Ytckefohfahphpaa
