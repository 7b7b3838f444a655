/- The pure statement of MatrixTransposes: for all lists of lists of int64s that a call can hold, the printed function answers true. -/
import Derived.Test.YtckefohfahphpaaVa
import Derived.Test.YtckefohfahphpaaVb
import Derived.Test.YtckefohfahphpaaZx27
namespace Go.Proofs.Ytckefohfahphpaa.Pure
open Go.RowKit Go.Proofs.Ytckefohfahphpaa.Z Go.Proofs.YtckefohfahphpaaW.PrintWords Go.Proofs.YtckefohfahphpaaW.PrintLast Go.Proofs.YtckefohfahphpaaW.PrintMore
set_option linter.unusedVariables false
set_option linter.unusedSimpArgs false
theorem MatrixTransposes : petrinetlaw08_MatrixTransposes.Pure := by
  intro a _
  refine ⟨1000100, ?_⟩
  have hs := transG_small a
  unfold petrinetlaw08_MatrixTransposes.f
  rw [mvalid_eq a _ (by omega), rvalid_eq a _ (by omega)]
  simp only [Option.bind_some]
  rw [if_pos (by simp), mtrans_eq a _ (by omega), rtrans_eq a _ (by omega)]
  simp only [Option.bind_some]
  rw [same_self (by omega) (fun r hr => by have := hs.2 r hr; omega) _ (by omega)]
  simp only [Option.bind_some, if_true]
  rw [example_eq _ (by omega)]
  rfl
end Go.Proofs.Ytckefohfahphpaa.Pure
