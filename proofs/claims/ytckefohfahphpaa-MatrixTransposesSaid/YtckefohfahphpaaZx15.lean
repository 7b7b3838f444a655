/- The machine's side: plain Lean functions for the Go functions, each with its contract. Written by a program of this session (wip/xprint.py). -/
import Derived.Test.YtckefohfahphpaaZx0
import Derived.Test.YtckefohfahphpaaZx1
namespace Go.Proofs.Ytckefohfahphpaa.Z
open Go.RowKit Go.Proofs.YtckefohfahphpaaW.PrintWords Go.Proofs.YtckefohfahphpaaW.PrintLast Go.Proofs.YtckefohfahphpaaW.PrintMore
attribute [local go_sem] max2_int min2_int max_two min_two max_three min_three max_four min_four   -- for this text's walks alone
set_option linter.unusedVariables false
set_option linter.unusedSimpArgs false

/-! ### safeint_times: function 52, by hand -/
set_option maxHeartbeats 8000000 in
set_option maxRecDepth 100000 in
theorem safeint_times.raw (x y : Int) (w : World) (hx : 0 ≤ x) (hx' : x < 18446744073709551616) (hy : 0 ≤ y) (hy' : y < 18446744073709551616) :
    Calls Try.prog 52 #[.int .u64 x, .int .u64 y] w fun e w' => e = .returned (.agg #[.int .u64 (x * y / 18446744073709551616), .int .u64 (x * y % 18446744073709551616)]) ∧ Below w.heap.size w w' := by
  have H := Aside0.mk (times_hi hx hx' hy hy')
  have A1 := Aside0.mk (and_low hx hx')
  have A2 := Aside0.mk (and_low hy hy')
  go_enter Try.func52, Try.ntmps52
  go_wp2
  have H' := H.out
  have A1' := A1.out
  have A2' := A2.out
  refine bodyPost_ret (v := .agg #[.int .u64 (x * y / 18446744073709551616), .int .u64 (x * y % 18446744073709551616)]) ?_ rfl ⟨rfl, ?_⟩
  · simp [results, Try.results52, go_sem, A1', A2', wrap_u64 (x * y)]
    simpa using H'
  · exact (Below.refl _ _).alloc (Nat.le_refl _) _
def safeint_times.f (a0 a1 : Int) : Option (Int × Int) := if 0 ≤ a0 ∧ a0 < 18446744073709551616 ∧ 0 ≤ a1 ∧ a1 < 18446744073709551616 then some (a0 * a1 / 18446744073709551616, a0 * a1 % 18446744073709551616) else none
theorem safeint_times.calls (a0 : Int) (a1 : Int) (r1 : Int) (r2 : Int) (w : World) (h : safeint_times.f a0 a1 = some (r1, r2)) :
    Calls Try.prog 52 #[.int .u64 a0, .int .u64 a1] w fun e w' => e = .returned (.agg #[.int .u64 r1, .int .u64 r2]) ∧ Below w.heap.size w w' := by
  unfold safeint_times.f at h
  split at h
  · rename_i hg
    cases h
    exact safeint_times.raw a0 a1 w hg.1 hg.2.1 hg.2.2.1 hg.2.2.2
  · cases h

end Go.Proofs.Ytckefohfahphpaa.Z
