/- The pure statement of VectorOrders: for all lists of int64s that a call can hold, the printed function answers true. -/
import Derived.Test.YtojpjknjoikdgaaVb
import Derived.Test.YtojpjknjoikdgaaVc
import Derived.Test.YtojpjknjoikdgaaZx8
namespace Go.Proofs.Ytojpjknjoikdgaa.Pure
open Go.RowKit Go.Proofs.Ytojpjknjoikdgaa.Z Go.Proofs.YtojpjknjoikdgaaW.PrintWords Go.Proofs.YtojpjknjoikdgaaW.PrintLast Go.Proofs.YtojpjknjoikdgaaW.PrintMore
set_option linter.unusedVariables false
set_option linter.unusedSimpArgs false
theorem VectorOrders : petrinetlaw03_VectorOrders.Pure := by
  intro l0 l1 _ _ w0 _ _ w1
  refine ⟨399 + 1, ?_⟩
  have hv := lives_eq 359
  have key : petrinetlaw03_VectorOrders.j0 (399 + 1) l0 l1 true = some true := by
    rw [petrinetlaw03_VectorOrders.j0, if_pos rfl, hv]
    rfl
  unfold petrinetlaw03_VectorOrders.f
  by_cases c0 : (l0.length : Int) > 100
  · rw [if_pos c0]
    exact key
  · rw [if_neg c0]
    by_cases c1 : (l1.length : Int) > 100
    · rw [decide_eq_true c1]
      exact key
    · rw [decide_eq_false c1, petrinetlaw03_VectorOrders.j0, if_neg (by decide)]
      rw [vleq_eq (by omega) 399 (by omega), rleq_eq (by omega) 399 (by omega), vcmp_eq (by omega) 399 (by omega), rcmp_eq (by omega) 399 (by omega), hv]
      simp
end Go.Proofs.Ytojpjknjoikdgaa.Pure
