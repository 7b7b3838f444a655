/-
  No cell of these rows narrows 'for every input' (looked for: loops, veiled, ifaces, maps, wideKeys, modest, calm, conditions, laid).
  DERIVED. THE GIVEN ROWS OF THIS SEAT. 6 by the template 'for every input the law returns true; each argument reads behind the call as it read before'; 0 by the template 'total and deterministic' (their statements: YtongghfemdngdaaTotals.lean).
  GIVEN WITH THE SEED: the statements are not yours to turn. If you find one false, say at which input.
  Laid BY PROGRAM, IN A SANDBOX (cutbox-rows.mjs): the forced cells as the released guide's own fill.sh prints them over the translation cb8cb7aa0123609a… (all of the seat's roots in one cut). By AI agents, Wed Nov 11 2026. No macro, syntax, notation, axiom, sorry.
-/
import Derived.Test.YtongghfemdngdaaChecked
import GoSem.Claim
import GoSem.ClaimJoined
import GoSem.ClaimMapViews
import Derived.JoinedTies
import Derived.KernelRfl
namespace Go.Proofs.Ytongghfemdngdaa
/- THE CELL 'sum', in the pinned program and in every row, IS THE sha256 OF THE DUMP (.gsa) THAT YtongghfemdngdaaProg.lean LOADS. Nothing in Lean hashes anything: it is a label: what it is worth is what the hold of that sum in a sandbox is worth. -/
noncomputable def Try.pinned : Pinned := { name := "ytongghfemdngdaa", sum := "cb8cb7aa0123609abd96d053c1f4b04e173341417b6d3b271bd83c62f90b4390", checked := Try.checked }
namespace Rows
def none {H : Type} : Left H := { results := [], args := [] }

/-- 'petrinetlaw31.SemiflowSolves': WHATEVER THE INPUT: true; the input reads as it did. -/
def semiflowSolvesSpec : ChangeSpec := { name := "semiflowSolves", fn := fun _ => fun
  | [d] => { results := [.lit (.bool true)], args := [d] }
  | _ => none }
def semiflowSolvesRow : OpenClaim := { program := "ytongghfemdngdaa", sum := "cb8cb7aa0123609abd96d053c1f4b04e173341417b6d3b271bd83c62f90b4390", func := "petrinet/petrinetlaw31.SemiflowSolves", spec := "semiflowSolves", unfollowed := true, recurses := true, apart := false }
def SemiflowSolvesSaid : Prop := semiflowSolvesRow.holds Try.pinned (OpenSpec.ofChange semiflowSolvesSpec)

/-- ITS FALSE NEIGHBOUR: 'it returns false'. Refute it at one input. -/
def semiflowSolvesWrong : ChangeSpec := { name := "semiflowSolves", fn := fun _ => fun
  | [d] => { results := [.lit (.bool false)], args := [d] }
  | _ => none }
def SemiflowSolvesWrongFalsely : Prop := semiflowSolvesRow.holds Try.pinned (OpenSpec.ofChange semiflowSolvesWrong)

/-- 'petrinetlaw31.SemiflowNets': WHATEVER THE INPUT: true; the input reads as it did. -/
def semiflowNetsSpec : ChangeSpec := { name := "semiflowNets", fn := fun _ => fun
  | [d] => { results := [.lit (.bool true)], args := [d] }
  | _ => none }
def semiflowNetsRow : OpenClaim := { program := "ytongghfemdngdaa", sum := "cb8cb7aa0123609abd96d053c1f4b04e173341417b6d3b271bd83c62f90b4390", func := "petrinet/petrinetlaw31.SemiflowNets", spec := "semiflowNets", unfollowed := true, recurses := true, apart := false }
def SemiflowNetsSaid : Prop := semiflowNetsRow.holds Try.pinned (OpenSpec.ofChange semiflowNetsSpec)

/-- ITS FALSE NEIGHBOUR: 'it returns false'. Refute it at one input. -/
def semiflowNetsWrong : ChangeSpec := { name := "semiflowNets", fn := fun _ => fun
  | [d] => { results := [.lit (.bool false)], args := [d] }
  | _ => none }
def SemiflowNetsWrongFalsely : Prop := semiflowNetsRow.holds Try.pinned (OpenSpec.ofChange semiflowNetsWrong)

/-- 'petrinetlaw31.SemiflowSums': WHATEVER THE INPUT: true; the input reads as it did. -/
def semiflowSumsSpec : ChangeSpec := { name := "semiflowSums", fn := fun _ => fun
  | [d1, d2] => { results := [.lit (.bool true)], args := [d1, d2] }
  | _ => none }
def semiflowSumsRow : OpenClaim := { program := "ytongghfemdngdaa", sum := "cb8cb7aa0123609abd96d053c1f4b04e173341417b6d3b271bd83c62f90b4390", func := "petrinet/petrinetlaw31.SemiflowSums", spec := "semiflowSums", unfollowed := true, recurses := true, apart := false }
def SemiflowSumsSaid : Prop := semiflowSumsRow.holds Try.pinned (OpenSpec.ofChange semiflowSumsSpec)

/-- ITS FALSE NEIGHBOUR: 'it returns false'. Refute it at one input. -/
def semiflowSumsWrong : ChangeSpec := { name := "semiflowSums", fn := fun _ => fun
  | [d1, d2] => { results := [.lit (.bool false)], args := [d1, d2] }
  | _ => none }
def SemiflowSumsWrongFalsely : Prop := semiflowSumsRow.holds Try.pinned (OpenSpec.ofChange semiflowSumsWrong)

/-- 'petrinetlaw31.SemiflowMinimal': WHATEVER THE INPUT: true; the input reads as it did. -/
def semiflowMinimalSpec : ChangeSpec := { name := "semiflowMinimal", fn := fun _ => fun
  | [d] => { results := [.lit (.bool true)], args := [d] }
  | _ => none }
def semiflowMinimalRow : OpenClaim := { program := "ytongghfemdngdaa", sum := "cb8cb7aa0123609abd96d053c1f4b04e173341417b6d3b271bd83c62f90b4390", func := "petrinet/petrinetlaw31.SemiflowMinimal", spec := "semiflowMinimal", unfollowed := true, recurses := true, apart := false }
def SemiflowMinimalSaid : Prop := semiflowMinimalRow.holds Try.pinned (OpenSpec.ofChange semiflowMinimalSpec)

/-- ITS FALSE NEIGHBOUR: 'it returns false'. Refute it at one input. -/
def semiflowMinimalWrong : ChangeSpec := { name := "semiflowMinimal", fn := fun _ => fun
  | [d] => { results := [.lit (.bool false)], args := [d] }
  | _ => none }
def SemiflowMinimalWrongFalsely : Prop := semiflowMinimalRow.holds Try.pinned (OpenSpec.ofChange semiflowMinimalWrong)

/-- 'petrinetlaw31.SemiflowCovers': WHATEVER THE INPUT: true; the input reads as it did. -/
def semiflowCoversSpec : ChangeSpec := { name := "semiflowCovers", fn := fun _ => fun
  | [d1, d2] => { results := [.lit (.bool true)], args := [d1, d2] }
  | _ => none }
def semiflowCoversRow : OpenClaim := { program := "ytongghfemdngdaa", sum := "cb8cb7aa0123609abd96d053c1f4b04e173341417b6d3b271bd83c62f90b4390", func := "petrinet/petrinetlaw31.SemiflowCovers", spec := "semiflowCovers", unfollowed := true, recurses := true, apart := false }
def SemiflowCoversSaid : Prop := semiflowCoversRow.holds Try.pinned (OpenSpec.ofChange semiflowCoversSpec)

/-- ITS FALSE NEIGHBOUR: 'it returns false'. Refute it at one input. -/
def semiflowCoversWrong : ChangeSpec := { name := "semiflowCovers", fn := fun _ => fun
  | [d1, d2] => { results := [.lit (.bool false)], args := [d1, d2] }
  | _ => none }
def SemiflowCoversWrongFalsely : Prop := semiflowCoversRow.holds Try.pinned (OpenSpec.ofChange semiflowCoversWrong)

/-- 'petrinetlaw31.SemiflowConserves': WHATEVER THE INPUT: true; the input reads as it did. -/
def semiflowConservesSpec : ChangeSpec := { name := "semiflowConserves", fn := fun _ => fun
  | [d1, d2] => { results := [.lit (.bool true)], args := [d1, d2] }
  | _ => none }
def semiflowConservesRow : OpenClaim := { program := "ytongghfemdngdaa", sum := "cb8cb7aa0123609abd96d053c1f4b04e173341417b6d3b271bd83c62f90b4390", func := "petrinet/petrinetlaw31.SemiflowConserves", spec := "semiflowConserves", unfollowed := true, recurses := true, apart := false }
def SemiflowConservesSaid : Prop := semiflowConservesRow.holds Try.pinned (OpenSpec.ofChange semiflowConservesSpec)

/-- ITS FALSE NEIGHBOUR: 'it returns false'. Refute it at one input. -/
def semiflowConservesWrong : ChangeSpec := { name := "semiflowConserves", fn := fun _ => fun
  | [d1, d2] => { results := [.lit (.bool false)], args := [d1, d2] }
  | _ => none }
def SemiflowConservesWrongFalsely : Prop := semiflowConservesRow.holds Try.pinned (OpenSpec.ofChange semiflowConservesWrong)

/- THE SECOND FORM. 'bulk': how many values and letters a reading holds, each counted each time it is reached (what is shared counts as often as it is met; a slice's spare places count too). A statement '..UptoSaid' is the law's where the arguments, and the package variables that the reading takes, are together of bulk at most 1048576: NARROWER than '..Said'. Prove '..Said' where nothing that the law and all that it calls make is longer than what came in: it says more and counts as full. Else prove '..UptoSaid'. A law counts once. -/
mutual
def uptoBulk {H : Type} : DataW H → Nat
  | .lit (.string bytes) => bytes.length + 1
  | .lit _ => 1
  | .nil => 1
  | .ptr d => uptoBulk d + 1
  | .slice elems spare => uptoBulkAll elems + uptoBulkAll spare + 1
  | .agg parts => uptoBulkAll parts + 1
  | .iface _ d => uptoBulk d + 1
  | .map entries => uptoBulkEntries entries + 1
  | .held _ => 1
def uptoBulkAll {H : Type} : List (DataW H) → Nat
  | [] => 0
  | d :: r => uptoBulk d + uptoBulkAll r
def uptoBulkEntries {H : Type} : List (Lit × DataW H) → Nat
  | [] => 0
  | x :: r => uptoBulkEntry x + uptoBulkEntries r
def uptoBulkEntry {H : Type} : Lit × DataW H → Nat
  | (.string bytes, d) => bytes.length + uptoBulk d + 1
  | (_, d) => uptoBulk d + 1
 end
def uptoSmall : (H : Type) → List (DataW H) → Bool := fun _ ds => decide (uptoBulkAll ds ≤ 1048576)
def OpenSpec.upto (s : _root_.Go.ChangeSpec) : _root_.Go.OpenSpec := { _root_.Go.OpenSpec.ofChange s with cond := some uptoSmall }

/-- 'petrinetlaw31.SemiflowSolves', WHERE WHAT IT READS IS OF BULK AT MOST 1048576: true; the input reads as it did. -/
def semiflowSolvesUptoRow : OpenClaim := { program := "ytongghfemdngdaa", sum := "cb8cb7aa0123609abd96d053c1f4b04e173341417b6d3b271bd83c62f90b4390", func := "petrinet/petrinetlaw31.SemiflowSolves", spec := "semiflowSolves", unfollowed := true, recurses := true, apart := false, narrowed := true }
def SemiflowSolvesUptoSaid : Prop := semiflowSolvesUptoRow.holds Try.pinned (OpenSpec.upto semiflowSolvesSpec)

/-- 'petrinetlaw31.SemiflowNets', WHERE WHAT IT READS IS OF BULK AT MOST 1048576: true; the input reads as it did. -/
def semiflowNetsUptoRow : OpenClaim := { program := "ytongghfemdngdaa", sum := "cb8cb7aa0123609abd96d053c1f4b04e173341417b6d3b271bd83c62f90b4390", func := "petrinet/petrinetlaw31.SemiflowNets", spec := "semiflowNets", unfollowed := true, recurses := true, apart := false, narrowed := true }
def SemiflowNetsUptoSaid : Prop := semiflowNetsUptoRow.holds Try.pinned (OpenSpec.upto semiflowNetsSpec)

/-- 'petrinetlaw31.SemiflowSums', WHERE WHAT IT READS IS OF BULK AT MOST 1048576: true; the input reads as it did. -/
def semiflowSumsUptoRow : OpenClaim := { program := "ytongghfemdngdaa", sum := "cb8cb7aa0123609abd96d053c1f4b04e173341417b6d3b271bd83c62f90b4390", func := "petrinet/petrinetlaw31.SemiflowSums", spec := "semiflowSums", unfollowed := true, recurses := true, apart := false, narrowed := true }
def SemiflowSumsUptoSaid : Prop := semiflowSumsUptoRow.holds Try.pinned (OpenSpec.upto semiflowSumsSpec)

/-- 'petrinetlaw31.SemiflowMinimal', WHERE WHAT IT READS IS OF BULK AT MOST 1048576: true; the input reads as it did. -/
def semiflowMinimalUptoRow : OpenClaim := { program := "ytongghfemdngdaa", sum := "cb8cb7aa0123609abd96d053c1f4b04e173341417b6d3b271bd83c62f90b4390", func := "petrinet/petrinetlaw31.SemiflowMinimal", spec := "semiflowMinimal", unfollowed := true, recurses := true, apart := false, narrowed := true }
def SemiflowMinimalUptoSaid : Prop := semiflowMinimalUptoRow.holds Try.pinned (OpenSpec.upto semiflowMinimalSpec)

/-- 'petrinetlaw31.SemiflowCovers', WHERE WHAT IT READS IS OF BULK AT MOST 1048576: true; the input reads as it did. -/
def semiflowCoversUptoRow : OpenClaim := { program := "ytongghfemdngdaa", sum := "cb8cb7aa0123609abd96d053c1f4b04e173341417b6d3b271bd83c62f90b4390", func := "petrinet/petrinetlaw31.SemiflowCovers", spec := "semiflowCovers", unfollowed := true, recurses := true, apart := false, narrowed := true }
def SemiflowCoversUptoSaid : Prop := semiflowCoversUptoRow.holds Try.pinned (OpenSpec.upto semiflowCoversSpec)

/-- 'petrinetlaw31.SemiflowConserves', WHERE WHAT IT READS IS OF BULK AT MOST 1048576: true; the input reads as it did. -/
def semiflowConservesUptoRow : OpenClaim := { program := "ytongghfemdngdaa", sum := "cb8cb7aa0123609abd96d053c1f4b04e173341417b6d3b271bd83c62f90b4390", func := "petrinet/petrinetlaw31.SemiflowConserves", spec := "semiflowConserves", unfollowed := true, recurses := true, apart := false, narrowed := true }
def SemiflowConservesUptoSaid : Prop := semiflowConservesUptoRow.holds Try.pinned (OpenSpec.upto semiflowConservesSpec)

end Rows
end Go.Proofs.Ytongghfemdngdaa
