/-
  No cell of these rows narrows 'for every input' (looked for: loops, veiled, ifaces, maps, wideKeys, modest, calm, conditions, laid).
  DERIVED. THE GIVEN ROWS OF THIS SEAT. 8 by the template 'for every input the law returns true; each argument reads behind the call as it read before'; 0 by the template 'total and deterministic' (their statements: YtojpjknjoikdgaaTotals.lean).
  GIVEN WITH THE SEED: the statements are not yours to turn. If you find one false, say at which input.
  Laid BY PROGRAM, IN A SANDBOX (cutbox-rows.mjs): the forced cells as the released guide's own fill.sh prints them over the translation d317277ee756bcdf… (all of the seat's roots in one cut). By AI agents, Wed Nov 11 2026. No macro, syntax, notation, axiom, sorry.
-/
import Derived.Test.YtojpjknjoikdgaaChecked
import GoSem.Claim
import GoSem.ClaimJoined
import GoSem.ClaimMapViews
import Derived.JoinedTies
import Derived.KernelRfl
namespace Go.Proofs.Ytojpjknjoikdgaa
/- THE CELL 'sum', in the pinned program and in every row, IS THE sha256 OF THE DUMP (.gsa) THAT YtojpjknjoikdgaaProg.lean LOADS. Nothing in Lean hashes anything: it is a label: what it is worth is what the hold of that sum in a sandbox is worth. -/
noncomputable def Try.pinned : Pinned := { name := "ytojpjknjoikdgaa", sum := "d317277ee756bcdf6029a04610bcaa8217e1f1dab017d37dfeb88dc11c4280cb", checked := Try.checked }
namespace Rows
def none {H : Type} : Left H := { results := [], args := [] }

/-- 'petrinetlaw03.VectorSums': WHATEVER THE INPUT: true; the input reads as it did. -/
def vectorSumsSpec : ChangeSpec := { name := "vectorSums", fn := fun _ => fun
  | [d1, d2] => { results := [.lit (.bool true)], args := [d1, d2] }
  | _ => none }
def vectorSumsRow : OpenClaim := { program := "ytojpjknjoikdgaa", sum := "d317277ee756bcdf6029a04610bcaa8217e1f1dab017d37dfeb88dc11c4280cb", func := "petrinet/petrinetlaw03.VectorSums", spec := "vectorSums", unfollowed := true, recurses := true, apart := false }
def VectorSumsSaid : Prop := vectorSumsRow.holds Try.pinned (OpenSpec.ofChange vectorSumsSpec)

/-- ITS FALSE NEIGHBOUR: 'it returns false'. Refute it at one input. -/
def vectorSumsWrong : ChangeSpec := { name := "vectorSums", fn := fun _ => fun
  | [d1, d2] => { results := [.lit (.bool false)], args := [d1, d2] }
  | _ => none }
def VectorSumsWrongFalsely : Prop := vectorSumsRow.holds Try.pinned (OpenSpec.ofChange vectorSumsWrong)

/-- 'petrinetlaw03.VectorMultiples': WHATEVER THE INPUT: true; the input reads as it did. -/
def vectorMultiplesSpec : ChangeSpec := { name := "vectorMultiples", fn := fun _ => fun
  | [d1, d2, d3] => { results := [.lit (.bool true)], args := [d1, d2, d3] }
  | _ => none }
def vectorMultiplesRow : OpenClaim := { program := "ytojpjknjoikdgaa", sum := "d317277ee756bcdf6029a04610bcaa8217e1f1dab017d37dfeb88dc11c4280cb", func := "petrinet/petrinetlaw03.VectorMultiples", spec := "vectorMultiples", unfollowed := true, recurses := true, apart := false }
def VectorMultiplesSaid : Prop := vectorMultiplesRow.holds Try.pinned (OpenSpec.ofChange vectorMultiplesSpec)

/-- ITS FALSE NEIGHBOUR: 'it returns false'. Refute it at one input. -/
def vectorMultiplesWrong : ChangeSpec := { name := "vectorMultiples", fn := fun _ => fun
  | [d1, d2, d3] => { results := [.lit (.bool false)], args := [d1, d2, d3] }
  | _ => none }
def VectorMultiplesWrongFalsely : Prop := vectorMultiplesRow.holds Try.pinned (OpenSpec.ofChange vectorMultiplesWrong)

/-- 'petrinetlaw03.VectorOrders': WHATEVER THE INPUT: true; the input reads as it did. -/
def vectorOrdersSpec : ChangeSpec := { name := "vectorOrders", fn := fun _ => fun
  | [d1, d2] => { results := [.lit (.bool true)], args := [d1, d2] }
  | _ => none }
def vectorOrdersRow : OpenClaim := { program := "ytojpjknjoikdgaa", sum := "d317277ee756bcdf6029a04610bcaa8217e1f1dab017d37dfeb88dc11c4280cb", func := "petrinet/petrinetlaw03.VectorOrders", spec := "vectorOrders", unfollowed := true, recurses := true, apart := false }
def VectorOrdersSaid : Prop := vectorOrdersRow.holds Try.pinned (OpenSpec.ofChange vectorOrdersSpec)

/-- ITS FALSE NEIGHBOUR: 'it returns false'. Refute it at one input. -/
def vectorOrdersWrong : ChangeSpec := { name := "vectorOrders", fn := fun _ => fun
  | [d1, d2] => { results := [.lit (.bool false)], args := [d1, d2] }
  | _ => none }
def VectorOrdersWrongFalsely : Prop := vectorOrdersRow.holds Try.pinned (OpenSpec.ofChange vectorOrdersWrong)

/-- 'petrinetlaw03.VectorPrims': WHATEVER THE INPUT: true; the input reads as it did. -/
def vectorPrimsSpec : ChangeSpec := { name := "vectorPrims", fn := fun _ => fun
  | [d] => { results := [.lit (.bool true)], args := [d] }
  | _ => none }
def vectorPrimsRow : OpenClaim := { program := "ytojpjknjoikdgaa", sum := "d317277ee756bcdf6029a04610bcaa8217e1f1dab017d37dfeb88dc11c4280cb", func := "petrinet/petrinetlaw03.VectorPrims", spec := "vectorPrims", unfollowed := true, recurses := true, apart := false }
def VectorPrimsSaid : Prop := vectorPrimsRow.holds Try.pinned (OpenSpec.ofChange vectorPrimsSpec)

/-- ITS FALSE NEIGHBOUR: 'it returns false'. Refute it at one input. -/
def vectorPrimsWrong : ChangeSpec := { name := "vectorPrims", fn := fun _ => fun
  | [d] => { results := [.lit (.bool false)], args := [d] }
  | _ => none }
def VectorPrimsWrongFalsely : Prop := vectorPrimsRow.holds Try.pinned (OpenSpec.ofChange vectorPrimsWrong)

/-- 'petrinetlaw03.VectorGroup': WHATEVER THE INPUT: true; the input reads as it did. -/
def vectorGroupSpec : ChangeSpec := { name := "vectorGroup", fn := fun _ => fun
  | [d1, d2] => { results := [.lit (.bool true)], args := [d1, d2] }
  | _ => none }
def vectorGroupRow : OpenClaim := { program := "ytojpjknjoikdgaa", sum := "d317277ee756bcdf6029a04610bcaa8217e1f1dab017d37dfeb88dc11c4280cb", func := "petrinet/petrinetlaw03.VectorGroup", spec := "vectorGroup", unfollowed := true, recurses := true, apart := false }
def VectorGroupSaid : Prop := vectorGroupRow.holds Try.pinned (OpenSpec.ofChange vectorGroupSpec)

/-- ITS FALSE NEIGHBOUR: 'it returns false'. Refute it at one input. -/
def vectorGroupWrong : ChangeSpec := { name := "vectorGroup", fn := fun _ => fun
  | [d1, d2] => { results := [.lit (.bool false)], args := [d1, d2] }
  | _ => none }
def VectorGroupWrongFalsely : Prop := vectorGroupRow.holds Try.pinned (OpenSpec.ofChange vectorGroupWrong)

/-- 'petrinetlaw03.VectorLinear': WHATEVER THE INPUT: true; the input reads as it did. -/
def vectorLinearSpec : ChangeSpec := { name := "vectorLinear", fn := fun _ => fun
  | [d1, d2, d3] => { results := [.lit (.bool true)], args := [d1, d2, d3] }
  | _ => none }
def vectorLinearRow : OpenClaim := { program := "ytojpjknjoikdgaa", sum := "d317277ee756bcdf6029a04610bcaa8217e1f1dab017d37dfeb88dc11c4280cb", func := "petrinet/petrinetlaw03.VectorLinear", spec := "vectorLinear", unfollowed := true, recurses := true, apart := false }
def VectorLinearSaid : Prop := vectorLinearRow.holds Try.pinned (OpenSpec.ofChange vectorLinearSpec)

/-- ITS FALSE NEIGHBOUR: 'it returns false'. Refute it at one input. -/
def vectorLinearWrong : ChangeSpec := { name := "vectorLinear", fn := fun _ => fun
  | [d1, d2, d3] => { results := [.lit (.bool false)], args := [d1, d2, d3] }
  | _ => none }
def VectorLinearWrongFalsely : Prop := vectorLinearRow.holds Try.pinned (OpenSpec.ofChange vectorLinearWrong)

/-- 'petrinetlaw03.VectorPrimitive': WHATEVER THE INPUT: true; the input reads as it did. -/
def vectorPrimitiveSpec : ChangeSpec := { name := "vectorPrimitive", fn := fun _ => fun
  | [d] => { results := [.lit (.bool true)], args := [d] }
  | _ => none }
def vectorPrimitiveRow : OpenClaim := { program := "ytojpjknjoikdgaa", sum := "d317277ee756bcdf6029a04610bcaa8217e1f1dab017d37dfeb88dc11c4280cb", func := "petrinet/petrinetlaw03.VectorPrimitive", spec := "vectorPrimitive", unfollowed := true, recurses := true, apart := false }
def VectorPrimitiveSaid : Prop := vectorPrimitiveRow.holds Try.pinned (OpenSpec.ofChange vectorPrimitiveSpec)

/-- ITS FALSE NEIGHBOUR: 'it returns false'. Refute it at one input. -/
def vectorPrimitiveWrong : ChangeSpec := { name := "vectorPrimitive", fn := fun _ => fun
  | [d] => { results := [.lit (.bool false)], args := [d] }
  | _ => none }
def VectorPrimitiveWrongFalsely : Prop := vectorPrimitiveRow.holds Try.pinned (OpenSpec.ofChange vectorPrimitiveWrong)

/-- 'petrinetlaw03.VectorLexicographic': WHATEVER THE INPUT: true; the input reads as it did. -/
def vectorLexicographicSpec : ChangeSpec := { name := "vectorLexicographic", fn := fun _ => fun
  | [d1, d2, d3] => { results := [.lit (.bool true)], args := [d1, d2, d3] }
  | _ => none }
def vectorLexicographicRow : OpenClaim := { program := "ytojpjknjoikdgaa", sum := "d317277ee756bcdf6029a04610bcaa8217e1f1dab017d37dfeb88dc11c4280cb", func := "petrinet/petrinetlaw03.VectorLexicographic", spec := "vectorLexicographic", unfollowed := true, recurses := true, apart := false }
def VectorLexicographicSaid : Prop := vectorLexicographicRow.holds Try.pinned (OpenSpec.ofChange vectorLexicographicSpec)

/-- ITS FALSE NEIGHBOUR: 'it returns false'. Refute it at one input. -/
def vectorLexicographicWrong : ChangeSpec := { name := "vectorLexicographic", fn := fun _ => fun
  | [d1, d2, d3] => { results := [.lit (.bool false)], args := [d1, d2, d3] }
  | _ => none }
def VectorLexicographicWrongFalsely : Prop := vectorLexicographicRow.holds Try.pinned (OpenSpec.ofChange vectorLexicographicWrong)

/- THE SECOND FORM. 'bulk': how many values and letters a reading holds, each counted each time it is reached (what is shared counts as often as it is met; a slice's spare places count too). A statement '..UptoSaid' is the law's where the arguments, and the package variables that the reading takes, are together of bulk at most 1048576: NARROWER than '..Said'. Prove '..Said' where nothing that the law and all that it calls make is longer than what came in: it says more and counts as full. Else prove '..UptoSaid'. A law counts once. -/
mutual
def uptoBulk {H : Type} : DataW H → Nat
  | .lit (.string bytes) => bytes.length + 1
  | .lit _ => 1
  | .nil => 1
  | .ptr d => uptoBulk d + 1
  | .slice elems spare => uptoBulkAll elems + uptoBulkAll spare + 1
  | .agg parts => uptoBulkAll parts + 1
  | .iface _ d => uptoBulk d + 1
  | .map entries => uptoBulkEntries entries + 1
  | .held _ => 1
def uptoBulkAll {H : Type} : List (DataW H) → Nat
  | [] => 0
  | d :: r => uptoBulk d + uptoBulkAll r
def uptoBulkEntries {H : Type} : List (Lit × DataW H) → Nat
  | [] => 0
  | x :: r => uptoBulkEntry x + uptoBulkEntries r
def uptoBulkEntry {H : Type} : Lit × DataW H → Nat
  | (.string bytes, d) => bytes.length + uptoBulk d + 1
  | (_, d) => uptoBulk d + 1
 end
def uptoSmall : (H : Type) → List (DataW H) → Bool := fun _ ds => decide (uptoBulkAll ds ≤ 1048576)
def OpenSpec.upto (s : _root_.Go.ChangeSpec) : _root_.Go.OpenSpec := { _root_.Go.OpenSpec.ofChange s with cond := some uptoSmall }

/-- 'petrinetlaw03.VectorSums', WHERE WHAT IT READS IS OF BULK AT MOST 1048576: true; the input reads as it did. -/
def vectorSumsUptoRow : OpenClaim := { program := "ytojpjknjoikdgaa", sum := "d317277ee756bcdf6029a04610bcaa8217e1f1dab017d37dfeb88dc11c4280cb", func := "petrinet/petrinetlaw03.VectorSums", spec := "vectorSums", unfollowed := true, recurses := true, apart := false, narrowed := true }
def VectorSumsUptoSaid : Prop := vectorSumsUptoRow.holds Try.pinned (OpenSpec.upto vectorSumsSpec)

/-- 'petrinetlaw03.VectorMultiples', WHERE WHAT IT READS IS OF BULK AT MOST 1048576: true; the input reads as it did. -/
def vectorMultiplesUptoRow : OpenClaim := { program := "ytojpjknjoikdgaa", sum := "d317277ee756bcdf6029a04610bcaa8217e1f1dab017d37dfeb88dc11c4280cb", func := "petrinet/petrinetlaw03.VectorMultiples", spec := "vectorMultiples", unfollowed := true, recurses := true, apart := false, narrowed := true }
def VectorMultiplesUptoSaid : Prop := vectorMultiplesUptoRow.holds Try.pinned (OpenSpec.upto vectorMultiplesSpec)

/-- 'petrinetlaw03.VectorOrders', WHERE WHAT IT READS IS OF BULK AT MOST 1048576: true; the input reads as it did. -/
def vectorOrdersUptoRow : OpenClaim := { program := "ytojpjknjoikdgaa", sum := "d317277ee756bcdf6029a04610bcaa8217e1f1dab017d37dfeb88dc11c4280cb", func := "petrinet/petrinetlaw03.VectorOrders", spec := "vectorOrders", unfollowed := true, recurses := true, apart := false, narrowed := true }
def VectorOrdersUptoSaid : Prop := vectorOrdersUptoRow.holds Try.pinned (OpenSpec.upto vectorOrdersSpec)

/-- 'petrinetlaw03.VectorPrims', WHERE WHAT IT READS IS OF BULK AT MOST 1048576: true; the input reads as it did. -/
def vectorPrimsUptoRow : OpenClaim := { program := "ytojpjknjoikdgaa", sum := "d317277ee756bcdf6029a04610bcaa8217e1f1dab017d37dfeb88dc11c4280cb", func := "petrinet/petrinetlaw03.VectorPrims", spec := "vectorPrims", unfollowed := true, recurses := true, apart := false, narrowed := true }
def VectorPrimsUptoSaid : Prop := vectorPrimsUptoRow.holds Try.pinned (OpenSpec.upto vectorPrimsSpec)

/-- 'petrinetlaw03.VectorGroup', WHERE WHAT IT READS IS OF BULK AT MOST 1048576: true; the input reads as it did. -/
def vectorGroupUptoRow : OpenClaim := { program := "ytojpjknjoikdgaa", sum := "d317277ee756bcdf6029a04610bcaa8217e1f1dab017d37dfeb88dc11c4280cb", func := "petrinet/petrinetlaw03.VectorGroup", spec := "vectorGroup", unfollowed := true, recurses := true, apart := false, narrowed := true }
def VectorGroupUptoSaid : Prop := vectorGroupUptoRow.holds Try.pinned (OpenSpec.upto vectorGroupSpec)

/-- 'petrinetlaw03.VectorLinear', WHERE WHAT IT READS IS OF BULK AT MOST 1048576: true; the input reads as it did. -/
def vectorLinearUptoRow : OpenClaim := { program := "ytojpjknjoikdgaa", sum := "d317277ee756bcdf6029a04610bcaa8217e1f1dab017d37dfeb88dc11c4280cb", func := "petrinet/petrinetlaw03.VectorLinear", spec := "vectorLinear", unfollowed := true, recurses := true, apart := false, narrowed := true }
def VectorLinearUptoSaid : Prop := vectorLinearUptoRow.holds Try.pinned (OpenSpec.upto vectorLinearSpec)

/-- 'petrinetlaw03.VectorPrimitive', WHERE WHAT IT READS IS OF BULK AT MOST 1048576: true; the input reads as it did. -/
def vectorPrimitiveUptoRow : OpenClaim := { program := "ytojpjknjoikdgaa", sum := "d317277ee756bcdf6029a04610bcaa8217e1f1dab017d37dfeb88dc11c4280cb", func := "petrinet/petrinetlaw03.VectorPrimitive", spec := "vectorPrimitive", unfollowed := true, recurses := true, apart := false, narrowed := true }
def VectorPrimitiveUptoSaid : Prop := vectorPrimitiveUptoRow.holds Try.pinned (OpenSpec.upto vectorPrimitiveSpec)

/-- 'petrinetlaw03.VectorLexicographic', WHERE WHAT IT READS IS OF BULK AT MOST 1048576: true; the input reads as it did. -/
def vectorLexicographicUptoRow : OpenClaim := { program := "ytojpjknjoikdgaa", sum := "d317277ee756bcdf6029a04610bcaa8217e1f1dab017d37dfeb88dc11c4280cb", func := "petrinet/petrinetlaw03.VectorLexicographic", spec := "vectorLexicographic", unfollowed := true, recurses := true, apart := false, narrowed := true }
def VectorLexicographicUptoSaid : Prop := vectorLexicographicUptoRow.holds Try.pinned (OpenSpec.upto vectorLexicographicSpec)

end Rows
end Go.Proofs.Ytojpjknjoikdgaa
