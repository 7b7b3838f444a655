/- The pure statement of VectorPrims: for all lists of int64s that a call can hold, the printed function answers true. -/
import Derived.Test.YtojpjknjoikdgaaVb
import Derived.Test.YtojpjknjoikdgaaVc
import Derived.Test.YtojpjknjoikdgaaVd
import Derived.Test.YtojpjknjoikdgaaZx9
namespace Go.Proofs.Ytojpjknjoikdgaa.Pure
open Go.RowKit Go.Proofs.Ytojpjknjoikdgaa.Z Go.Proofs.YtojpjknjoikdgaaW.PrintWords Go.Proofs.YtojpjknjoikdgaaW.PrintLast Go.Proofs.YtojpjknjoikdgaaW.PrintMore
set_option linter.unusedVariables false
set_option linter.unusedSimpArgs false
theorem prim_len (a : List Int) : (primG a).1.length ≤ a.length := by
  unfold primG
  split <;> simp
theorem VectorPrims : petrinetlaw03_VectorPrims.Pure := by
  intro l0 _ _ w0
  have h0 := ok64_wf w0
  obtain ⟨K, hK⟩ : ∃ K : Nat, K = 9223372036854775808 + 1000 := ⟨_, rfl⟩
  refine ⟨K, ?_⟩
  obtain ⟨m, hm⟩ : ∃ m, K = m + 40 := ⟨K - 40, by omega⟩
  have hv := lives_eq m
  rw [← hm] at hv
  unfold petrinetlaw03_VectorPrims.f
  by_cases c0 : (l0.length : Int) > 100
  · rw [if_pos c0, hv]
    rfl
  · have hl := prim_len l0
    have hs := supp_len l0 0
    rw [if_neg c0, vprim_eq h0 (by omega) K (by omega), rprim_eq h0 (by omega) K (by omega)]
    simp only [Option.bind_some]
    rw [same_self (by omega) K (by omega), vsupp_eq (by omega) K (by omega), rsupp_eq (by omega) K (by omega)]
    simp only [Option.bind_some, if_true]
    rw [ints_self (by omega) K (by omega), hv]
    simp
end Go.Proofs.Ytojpjknjoikdgaa.Pure
