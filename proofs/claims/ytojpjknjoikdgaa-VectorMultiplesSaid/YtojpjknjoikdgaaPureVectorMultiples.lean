/- The pure statement of VectorMultiples: for all lists of int64s that a call can hold, and all factors, the printed function answers true. -/
import Derived.Test.YtojpjknjoikdgaaVb
import Derived.Test.YtojpjknjoikdgaaZx1
import Derived.Test.YtojpjknjoikdgaaZx8
namespace Go.Proofs.Ytojpjknjoikdgaa.Pure
open Go.RowKit Go.Proofs.Ytojpjknjoikdgaa.Z Go.Proofs.YtojpjknjoikdgaaW.PrintWords Go.Proofs.YtojpjknjoikdgaaW.PrintLast Go.Proofs.YtojpjknjoikdgaaW.PrintMore
set_option linter.unusedVariables false
set_option linter.unusedSimpArgs false
theorem VectorMultiples : petrinetlaw03_VectorMultiples.Pure := by
  intro l0 l1 b w0 w1 wb
  have h0 : ok64 l0 := ok64_wf w0.2
  have h1 : ok64 l1 := ok64_wf w1.2
  have hi : in64 b.f0 := wf64.mp wb.1
  have hk : in64 b.f1 := wf64.mp wb.2
  refine ⟨399 + 1, ?_⟩
  have hv := lives_eq 359
  have key : petrinetlaw03_VectorMultiples.j0 (399 + 1) l0 l1 true b.f0 b.f1 = some true := by
    rw [petrinetlaw03_VectorMultiples.j0, if_pos rfl, hv]
    rfl
  unfold petrinetlaw03_VectorMultiples.f
  by_cases c0 : (l0.length : Int) > 100
  · rw [if_pos c0]
    exact key
  · rw [if_neg c0]
    by_cases c1 : (l1.length : Int) > 100
    · rw [decide_eq_true c1]
      exact key
    · rw [decide_eq_false c1, petrinetlaw03_VectorMultiples.j0, if_neg (by decide)]
      rw [vscale_eq h0 hi (by omega), rscale_eq h0 hi (by omega) 399 (by omega), vcomb_eq h0 h1 hi hk (by omega), rcomb_eq h0 h1 hi hk (by omega) 399 (by omega)]
      simp only [Option.bind_some]
      have e1 : (zipP (scaleP b.f0) (fun x _ => x * b.f0) l0 l0 []).1.length ≤ 100 := by
        have := zip_len (P := scaleP b.f0) (op := fun x _ => x * b.f0) l0 l0 []
        simp at this
        omega
      have e2 : (if l0.length = l1.length then zipP (combP b.f0 b.f1) (fun x y => x * b.f0 + y * b.f1) l0 l1 [] else ([], 2)).1.length ≤ 100 := by
        split
        · have := zip_len (P := combP b.f0 b.f1) (op := fun x y => x * b.f0 + y * b.f1) l0 l1 []
          simp at this
          omega
        · simp
      rw [same_self (by omega) 399 (by omega), same_self (by omega) 399 (by omega), hv]
      simp
end Go.Proofs.Ytojpjknjoikdgaa.Pure
