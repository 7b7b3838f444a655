/- The pure statement of VectorLexicographic: for all lists of int64s that a call can hold, the printed function answers true. -/
import Derived.Test.YtojpjknjoikdgaaVb
import Derived.Test.YtojpjknjoikdgaaVc
import Derived.Test.YtojpjknjoikdgaaZx1
import Derived.Test.YtojpjknjoikdgaaZx12
namespace Go.Proofs.Ytojpjknjoikdgaa.Pure
open Go.RowKit Go.Proofs.Ytojpjknjoikdgaa.Z Go.Proofs.YtojpjknjoikdgaaW.PrintWords Go.Proofs.YtojpjknjoikdgaaW.PrintLast Go.Proofs.YtojpjknjoikdgaaW.PrintMore
set_option linter.unusedVariables false
set_option linter.unusedSimpArgs false
theorem VectorLexicographic : petrinetlaw03_VectorLexicographic.Pure := by
  intro l0 l1 l2 _ _ w0 _ _ w1 _ _ w2
  refine ⟨396 + 1 + 1 + 1 + 1, ?_⟩
  have hv := lives_eq 360
  have key : petrinetlaw03_VectorLexicographic.j0 (396 + 1 + 1 + 1 + 1) l0 l1 l2 true = some true := by
    rw [petrinetlaw03_VectorLexicographic.j0, if_pos rfl]
  unfold petrinetlaw03_VectorLexicographic.f
  rw [show (396 + 1 + 1 + 1 + 1 : Nat) = 360 + 40 from rfl, hv]
  simp only [Option.bind_some, if_true]
  by_cases c0 : (l0.length : Int) > 100
  · rw [if_pos c0]
    exact key
  · rw [if_neg c0]
    by_cases c1 : (l1.length : Int) > 100
    · rw [if_pos c1]
      exact key
    · rw [if_neg c1]
      by_cases c2 : (l2.length : Int) > 100
      · rw [decide_eq_true c2]
        exact key
      · rw [decide_eq_false c2, show (360 + 40 : Nat) = 396 + 1 + 1 + 1 + 1 from rfl, petrinetlaw03_VectorLexicographic.j0, if_neg (by decide)]
        rw [vcmp_eq (a := l0) (b := l1) (by omega) (396 + 1 + 1 + 1) (by omega), vcmp_eq (a := l1) (b := l2) (by omega) (396 + 1 + 1 + 1) (by omega), vcmp_eq (a := l0) (b := l2) (by omega) (396 + 1 + 1 + 1) (by omega), vcmp_eq (a := l1) (b := l0) (by omega) (396 + 1 + 1 + 1) (by omega), vcmp_eq (a := l0) (b := l0) (by omega) (396 + 1 + 1 + 1) (by omega), vleq_eq (a := l0) (b := l0) (by omega) (396 + 1 + 1 + 1) (by omega)]
        simp only [Option.bind_some]
        have r1 := cmp_range l0 l1
        have r2 := cmp_range l1 l2
        have r3 := cmp_range l0 l2
        have hn := cmp_neg l0 l1
        have ht := cmp_trans l0 l1 l2
        have hle := leq_cmp l0 l1
        have hge := leq_cmp l1 l0
        have q1 := vleq_eq (a := l0) (b := l1) (by omega) (396 + 1) (by omega)
        have q2 := vleq_eq (a := l1) (b := l0) (by omega) 396 (by omega)
        have q3 := vleq_eq (a := l0) (b := l1) (by omega) 396 (by omega)
        rw [if_neg (by omega), if_neg (by omega), hn, wrap64_id ⟨by omega, by omega⟩, if_pos rfl, cmp_self, if_pos rfl, leq_self]
        simp only [decide_true, Bool.and_self, Bool.not_true]
        generalize cmp l0 l1 = x at *
        generalize cmp l1 l2 = y at *
        generalize cmp l0 l2 = z at *
        have last3 : petrinetlaw03_VectorLexicographic.j3 (396 + 1) l0 l1 x false = some true := by
          rw [petrinetlaw03_VectorLexicographic.j3, if_neg (by decide), q3]
          simp only [Option.bind_some]
          by_cases e1 : (decide (l0.length = l1.length) && leqG l0 l1) = true
          · rw [if_pos e1, q2]
            simp only [Option.bind_some]
            by_cases e2 : (decide (l1.length = l0.length) && leqG l1 l0) = true
            · rw [if_pos e2]
              simp only [Bool.and_eq_true, decide_eq_true_eq] at e1 e2
              have := hle e1.1 e1.2
              have := hge e2.1 e2.2
              have : x = 0 := by omega
              rw [this]
              rfl
            · rw [if_neg e2]
          · rw [if_neg e1]
        have last2 : petrinetlaw03_VectorLexicographic.j2 (396 + 1 + 1) l0 l1 x false = some true := by
          rw [petrinetlaw03_VectorLexicographic.j2, if_neg (by decide), q1]
          simp only [Option.bind_some]
          by_cases e1 : (decide (l0.length = l1.length) && leqG l0 l1) = true
          · rw [if_pos e1]
            simp only [Bool.and_eq_true, decide_eq_true_eq] at e1
            have := hle e1.1 e1.2
            rw [if_neg (by omega), e1.1]
            simpa using last3
          · rw [if_neg e1]
            exact last3
        rw [petrinetlaw03_VectorLexicographic.j1, if_neg (by decide)]
        by_cases hx : x ≤ 0
        · rw [if_pos hx]
          by_cases hy : y ≤ 0
          · rw [if_pos hy]
            obtain ⟨t1, t2⟩ := ht hx hy
            rw [if_neg (by omega)]
            by_cases hz : z = 0
            · obtain ⟨u1, u2⟩ := t2 hz
              rw [if_pos hz, if_pos u1, u2]
              exact last2
            · rw [if_neg hz]
              exact last2
          · rw [if_neg hy]
            exact last2
        · rw [if_neg hx]
          exact last2
end Go.Proofs.Ytojpjknjoikdgaa.Pure
