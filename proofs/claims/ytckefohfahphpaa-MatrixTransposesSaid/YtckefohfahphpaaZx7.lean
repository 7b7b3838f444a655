/- The machine's side: plain Lean functions for the Go functions, each with its contract. Written by a program of this session (wip/xprint.py). -/
import Derived.Test.YtckefohfahphpaaZx0
import Derived.Test.YtckefohfahphpaaZx1
import Derived.Test.YtckefohfahphpaaZx4
import Derived.Test.YtckefohfahphpaaZx5
import Derived.Test.YtckefohfahphpaaZx6
import Derived.Test.YtckefohfahphpaaZx17
namespace Go.Proofs.Ytckefohfahphpaa.Z
open Go.RowKit Go.Proofs.YtckefohfahphpaaW.PrintWords Go.Proofs.YtckefohfahphpaaW.PrintLast Go.Proofs.YtckefohfahphpaaW.PrintMore
attribute [local go_sem] max2_int min2_int max_two min_two max_three min_three max_four min_four   -- for this text's walks alone
set_option linter.unusedVariables false
set_option linter.unusedSimpArgs false

/-! ### safeint_Gcd: function 40, by hand -/
def safeint_Gcd.f (a0 a1 : Int) : Option (Int × Bool) := if in64 a0 ∧ in64 a1 then some (if (Int.gcd a0 a1 : Int) ≤ 9223372036854775807 then ((Int.gcd a0 a1 : Int), true) else (0, false)) else none
theorem safeint_Gcd.gcd_abs (a b : Int) : Int.gcd (a.natAbs : Int) (b.natAbs : Int) = Int.gcd a b := by simp [Int.gcd]
theorem safeint_Gcd.gcd_lt (a b : Int) (ha : in64 a) (hb : in64 b) : (Int.gcd a b : Int) < 18446744073709551616 := by
  unfold in64 at ha hb
  unfold Int.gcd
  by_cases h : a.natAbs = 0
  · rw [h]; simp; omega
  · have := Nat.gcd_le_left b.natAbs (Nat.pos_of_ne_zero h)
    omega
set_option maxHeartbeats 8000000 in
set_option maxRecDepth 100000 in
theorem safeint_Gcd.calls (a0 : Int) (a1 : Int) (r1 : Int) (r2 : Bool) (w : World) (h : safeint_Gcd.f a0 a1 = some (r1, r2)) :
    Calls Try.prog 40 #[.int .i64 a0, .int .i64 a1] w fun e w' => e = .returned (.tuple #[.int .i64 r1, .bool r2]) ∧ Drawn0 w w' := by
  have hg : in64 a0 ∧ in64 a1 := by
    unfold safeint_Gcd.f at h
    split at h
    · assumption
    · cases h
  unfold safeint_Gcd.f at h
  rw [if_pos hg] at h
  have s0 := Aside0.mk (safeint_Mul.size a0 hg.1)
  have s1 := Aside0.mk (safeint_Mul.size a1 hg.2)
  have HS := Aside0.mk (safeint_Mul.signed (Int.gcd a0 a1 : Int) false (by omega) (safeint_Gcd.gcd_lt a0 a1 hg.1 hg.2))
  have HH := Aside0.mk h
  clear hg h
  go_enter Try.func40, Try.ntmps40
  go_wp2_with (fail)
  refine (safeint_size.calls a0 _ _ s0.out).mono ?_
  rintro e w1 ⟨rfl, hd1⟩
  go_wp2_with (fail)
  refine (safeint_size.calls a1 _ _ s1.out).mono ?_
  rintro e w2 ⟨rfl, hd2⟩
  go_wp2_with (fail)
  refine (safeint_common.raw _ _ _ (by omega) (by omega)).mono ?_
  rintro e w3 ⟨rfl, hd3⟩
  go_wp2_with (fail)
  rw [show ((a0.natAbs.gcd a1.natAbs : Nat) : Int) = (Int.gcd a0 a1 : Int) from rfl]
  have hs := HS.out
  have hh := Option.some.inj HH.out
  simp only [Bool.false_eq_true, if_false] at hs
  rw [hh] at hs
  refine (safeint_signed.calls 1 _ _ r1 r2 _ hs).mono ?_
  rintro e w4 ⟨rfl, hd4⟩
  go_wp2
  go_ret2
  exact ⟨rfl, (drawn_trans hd1 (drawn_trans hd2 (drawn_trans hd3 hd4)))⟩

end Go.Proofs.Ytckefohfahphpaa.Z
