/- The machine's side: plain Lean functions for the Go functions, each with its contract. Written by a program of this session (wip/xprint.py). -/
import Derived.Test.YtckefohfahphpaaZx0
import Derived.Test.YtckefohfahphpaaZx1
namespace Go.Proofs.Ytckefohfahphpaa.Z
open Go.RowKit Go.Proofs.YtckefohfahphpaaW.PrintWords Go.Proofs.YtckefohfahphpaaW.PrintLast Go.Proofs.YtckefohfahphpaaW.PrintMore
attribute [local go_sem] max2_int min2_int max_two min_two max_three min_three max_four min_four   -- for this text's walks alone
set_option linter.unusedVariables false
set_option linter.unusedSimpArgs false

/-! ### safeint_common: function 50, by hand -/
set_option maxHeartbeats 8000000 in
set_option maxRecDepth 100000 in
theorem safeint_common.raw (x y : Int) (w : World)  (hx : 0 ≤ x) (hy : 0 ≤ y) :
    Calls Try.prog 50 #[.int .u64 x, .int .u64 y] w fun e w' => e = .returned (.int .u64 (Int.gcd x y : Int)) ∧ Drawn0 w w' := by
  go_enter Try.func50, Try.ntmps50
  go_wp2
  go_step3
  go_wp2
  go_step3
  go_wp2
  go_loopw [0, 1] (fun s0 s1 w1 => ∃ a b : Int, 0 ≤ a ∧ 0 ≤ b ∧ s0 = .int .u64 a ∧ s1 = .int .u64 b ∧ Aside0 (Int.gcd a b = Int.gcd x y) ∧ Drawn0 w w1) (fun s0 s1 _ => (intOf s1).toNat)
  case atStart => exact ⟨x, y, hx, hy, rfl, rfl, ⟨rfl⟩, Drawn0.refl _⟩
  case round =>
    obtain ⟨a, b, ha, hb, rfl, rfl, hg, hd⟩ := hrel
    by_cases hz : b = 0
    · subst hz
      go_wp2
      try rw [Exit.noGoto_ret]
      go_ret
      refine ⟨?_, hd⟩
      have hg' := hg.out
      rw [← hg']
      simp [Int.gcd]
      omega
    · have hz' : (b == 0) = false := by simpa using hz
      have hg' := gcd_step ha hb
      have hs : a % b < b ∧ 0 ≤ a % b := ⟨Int.emod_lt_of_pos _ (by omega), Int.emod_nonneg _ hz⟩
      have hgA := Aside0.mk hg'
      have hsA := Aside0.mk hs
      clear hg' hs
      go_wp2
      go_quiet (fail)
      go_wp2
      go_roundw
      case rel => exact ⟨b, a % b, hb, hsA.out.2, rfl, rfl, ⟨hgA.out.trans hg.out⟩, hd.step _⟩
      case measure => simp [intOf]; have := hsA.out; omega
def safeint_common.f (a0 a1 : Int) : Option Int := if 0 ≤ a0 ∧ 0 ≤ a1 then some (Int.gcd a0 a1 : Int) else none
theorem safeint_common.calls (a0 : Int) (a1 : Int) (r : Int) (w : World) (h : safeint_common.f a0 a1 = some r) :
    Calls Try.prog 50 #[.int .u64 a0, .int .u64 a1] w fun e w' => e = .returned (.int .u64 r) ∧ Drawn0 w w' := by
  unfold safeint_common.f at h
  split at h
  · rename_i hg
    cases h
    exact safeint_common.raw a0 a1 w hg.1 hg.2
  · cases h

end Go.Proofs.Ytckefohfahphpaa.Z
