/- Plain lemmas on numbers and lists for this seat's statements. -/
import Derived.Test.YtojpjknjoikdgaaVb
import Derived.Test.YtojpjknjoikdgaaZx7
namespace Go.Proofs.Ytojpjknjoikdgaa.Pure
open Go.RowKit Go.Proofs.Ytojpjknjoikdgaa.Z Go.Proofs.YtojpjknjoikdgaaW.PrintWords Go.Proofs.YtojpjknjoikdgaaW.PrintLast Go.Proofs.YtojpjknjoikdgaaW.PrintMore
set_option linter.unusedVariables false
set_option linter.unusedSimpArgs false
theorem VectorSums : petrinetlaw03_VectorSums.Pure := by
  intro l0 l1 _ _ w0 _ _ w1
  have h0 := ok64_wf w0
  have h1 := ok64_wf w1
  refine ⟨399 + 1, ?_⟩
  have hv := lives_eq 359
  have key : petrinetlaw03_VectorSums.j0 (399 + 1) l0 l1 true = some true := by
    rw [petrinetlaw03_VectorSums.j0, if_pos rfl, hv]
    rfl
  unfold petrinetlaw03_VectorSums.f
  by_cases c0 : (l0.length : Int) > 100
  · rw [if_pos c0]
    exact key
  · rw [if_neg c0]
    by_cases c1 : (l1.length : Int) > 100
    · rw [decide_eq_true c1]
      exact key
    · rw [decide_eq_false c1, petrinetlaw03_VectorSums.j0, if_neg (by decide)]
      rw [vadd_eq h0 h1 (by omega), radd_eq h0 h1 (by omega) 399 (by omega), vsub_eq h0 h1 (by omega), rsub_eq h0 h1 (by omega) 399 (by omega), vdot_eq h0 h1 (by omega) 399 (by omega), rdot_eq h0 h1 (by omega) 399 (by omega)]
      simp only [Option.bind_some]
      have e1 : (if l0.length = l1.length then zipP sumP (· + ·) l0 l1 [] else ([], 2)).1.length ≤ 100 := by
        split
        · have := zip_len (P := sumP) (op := (· + ·)) l0 l1 []
          simp at this
          omega
        · simp
      have e2 : (if l0.length = l1.length then zipP diffP (· - ·) l0 l1 [] else ([], 2)).1.length ≤ 100 := by
        split
        · have := zip_len (P := diffP) (op := (· - ·)) l0 l1 []
          simp at this
          omega
        · simp
      rw [same_self (by omega) 399 (by omega), same_self (by omega) 399 (by omega), hv]
      simp
end Go.Proofs.Ytojpjknjoikdgaa.Pure
