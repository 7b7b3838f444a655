/- The machine's side: plain Lean functions for the Go functions, each with its contract. Written by a program of this session (wip/xprint.py). -/
import Derived.Test.YtckefohfahphpaaZx0
import Derived.Test.YtckefohfahphpaaZx1
import Derived.Test.YtckefohfahphpaaZx4
import Derived.Test.YtckefohfahphpaaZx6
import Derived.Test.YtckefohfahphpaaZx15
namespace Go.Proofs.Ytckefohfahphpaa.Z
open Go.RowKit Go.Proofs.YtckefohfahphpaaW.PrintWords Go.Proofs.YtckefohfahphpaaW.PrintLast Go.Proofs.YtckefohfahphpaaW.PrintMore
attribute [local go_sem] max2_int min2_int max_two min_two max_three min_three max_four min_four   -- for this text's walks alone
set_option linter.unusedVariables false
set_option linter.unusedSimpArgs false

/-! ### safeint_Mul: function 42, by hand -/
def safeint_Mul.f (a0 a1 : Int) : Option (Int × Bool) := if in64 a0 ∧ in64 a1 then some (if in64 (a0 * a1) then (a0 * a1, true) else (0, false)) else none
theorem safeint_Mul.size (a : Int) (h : in64 a) : safeint_size.f a = some (a.natAbs : Int) := by
  obtain ⟨h1, h2⟩ := h
  unfold safeint_size.f
  by_cases hn : a < 0
  · rw [if_pos hn]
    congr 1
    rw [wrap_u64, wrap_u64]
    omega
  · rw [if_neg hn]
    congr 1
    rw [wrap_u64]
    omega
theorem safeint_Mul.signed (n : Int) (b : Bool) (h0 : 0 ≤ n) (h1 : n < 18446744073709551616) : safeint_signed.f 1 n b = some (if b = true then (if n ≤ 9223372036854775808 then (-n, true) else (0, false)) else (if n ≤ 9223372036854775807 then (n, true) else (0, false))) := by
  unfold safeint_signed.f
  cases b
  · simp only [safeint_signed.j0]
    by_cases hn : n ≤ 9223372036854775807
    · have hw : wrap64 n = n := wrap64_id ⟨by omega, by omega⟩
      simp [hn, hw]
    · simp [hn]
  · simp only [safeint_signed.j0]
    by_cases hn : n ≤ 9223372036854775808
    · have hw : wrap64 (IntKind.u64.wrap (-n)) = -n := by
        rw [wrap_u64]
        unfold wrap64
        omega
      simp [hn, hw]
    · simp [hn]
theorem safeint_Mul.natAbs (a b : Int) : ((a.natAbs : Int) * (b.natAbs : Int)) = if ((decide (a < 0)) != (decide (b < 0))) = true then -(a * b) else a * b := by
  rcases Int.lt_or_le a 0 with ha | ha <;> rcases Int.lt_or_le b 0 with hb | hb
  · simp [ha, hb, Int.ofNat_natAbs_of_nonpos (Int.le_of_lt ha), Int.ofNat_natAbs_of_nonpos (Int.le_of_lt hb), Int.neg_mul_neg]
  · simp [ha, Int.not_lt.mpr hb, Int.ofNat_natAbs_of_nonpos (Int.le_of_lt ha), Int.natAbs_of_nonneg hb, Int.neg_mul]
  · simp [hb, Int.not_lt.mpr ha, Int.ofNat_natAbs_of_nonpos (Int.le_of_lt hb), Int.natAbs_of_nonneg ha, Int.mul_neg]
  · simp [Int.not_lt.mpr ha, Int.not_lt.mpr hb, Int.natAbs_of_nonneg hb, Int.natAbs_of_nonneg ha]
theorem safeint_Mul.halves (n : Int) (h0 : 0 ≤ n) : (n / 18446744073709551616 = 0 → n % 18446744073709551616 = n) ∧ (n / 18446744073709551616 ≠ 0 → 18446744073709551616 ≤ n) := by omega
set_option maxHeartbeats 8000000 in
set_option maxRecDepth 100000 in
theorem safeint_Mul.calls (a0 : Int) (a1 : Int) (r1 : Int) (r2 : Bool) (w : World) (h : safeint_Mul.f a0 a1 = some (r1, r2)) :
    Calls Try.prog 42 #[.int .i64 a0, .int .i64 a1] w fun e w' => e = .returned (.tuple #[.int .i64 r1, .bool r2]) ∧ Below w.heap.size w w' := by
  have hg : in64 a0 ∧ in64 a1 := by
    unfold safeint_Mul.f at h
    split at h
    · assumption
    · cases h
  unfold safeint_Mul.f at h
  rw [if_pos hg] at h
  have s0 := Aside0.mk (safeint_Mul.size a0 hg.1)
  have s1 := Aside0.mk (safeint_Mul.size a1 hg.2)
  have b0 : (a0.natAbs : Int) < 18446744073709551616 := by have := hg.1; unfold in64 at this; omega
  have b1 : (a1.natAbs : Int) < 18446744073709551616 := by have := hg.2; unfold in64 at this; omega
  have hn : (0 : Int) ≤ (a0.natAbs : Int) * (a1.natAbs : Int) := Int.mul_nonneg (by omega) (by omega)
  have hv := safeint_Mul.natAbs a0 a1
  have B0 := Aside0.mk b0
  have B1 := Aside0.mk b1
  have HH := Aside0.mk h
  clear hg h b0 b1
  obtain ⟨p, hp⟩ : ∃ p : Int, p = (a0.natAbs : Int) * (a1.natAbs : Int) := ⟨_, rfl⟩
  rw [← hp] at hn hv
  have HP := Aside0.mk hp
  have HN := Aside0.mk hn
  have hh := safeint_Mul.halves p hn
  clear hp
  by_cases hz : p / 18446744073709551616 = 0
  · have hl := hh.1 hz
    have hz' : (p / 18446744073709551616 == 0) = true := beq_iff_eq.mpr hz
    have hz2 : (p / 18446744073709551616 != 0) = false := bne_eq_false_iff_eq.mpr hz
    have HL := Aside0.mk hl
    have HS := Aside0.mk (safeint_Mul.signed p ((decide (a0 < 0)) != (decide (a1 < 0))) hn (by omega))
    have HV := Aside0.mk hv
    clear hz hl hh hv hn
    go_enter Try.func42, Try.ntmps42
    go_wp2_with (fail)
    refine (safeint_size.calls a0 _ _ s0.out).mono ?_
    rintro e w1 ⟨rfl, hd1⟩
    go_wp2_with (fail)
    refine (safeint_size.calls a1 _ _ s1.out).mono ?_
    rintro e w2 ⟨rfl, hd2⟩
    go_wp2_with (fail)
    refine (safeint_times.raw _ _ _ (by omega) B0.out (by omega) B1.out).mono ?_
    rintro e w3 ⟨rfl, hb3⟩
    rw [← HP.out]
    go_wp2_with (fail)
    rw [HL.out, ← bne]
    have hs : safeint_signed.f 1 p ((decide (a0 < 0)) != (decide (a1 < 0))) = some (r1, r2) := by
      have hv := HV.out
      have hh := Option.some.inj HH.out
      rw [HS.out, ← hh]
      congr 1
      cases hb : ((decide (a0 < 0)) != (decide (a1 < 0)))
      · rw [hb] at hv
        simp only [Bool.false_eq_true, if_false] at hv ⊢
        rw [← hv]
        by_cases hc : p ≤ 9223372036854775807
        · rw [if_pos hc, if_pos (show in64 p from ⟨by have := HN.out; omega, hc⟩)]
        · rw [if_neg hc, if_neg (fun h : in64 p => hc h.2)]
      · rw [hb] at hv
        simp only [if_true] at hv ⊢
        have hv' : a0 * a1 = -p := by omega
        rw [hv']
        by_cases hc : p ≤ 9223372036854775808
        · rw [if_pos hc, if_pos (show in64 (-p) from ⟨by omega, by have := HN.out; omega⟩)]
        · rw [if_neg hc, if_neg (fun h : in64 (-p) => hc (by have := h.1; omega))]
    refine (safeint_signed.calls 1 _ _ r1 r2 _ hs).mono ?_
    rintro e w4 ⟨rfl, hd4⟩
    clear hs
    go_wp2
    go_ret2
    exact ⟨rfl, below_step (below_step (hd1.below) (below_step hd2.below (below_step hb3 (below_alloc (Below.refl _ _) _)))) hd4.below⟩
  · have hl := hh.2 hz
    have hz' : (p / 18446744073709551616 == 0) = false := beq_eq_false_iff_ne.mpr hz
    have hz2 : (p / 18446744073709551616 != 0) = true := bne_iff_ne.mpr hz
    have HL := Aside0.mk hl
    have HV := Aside0.mk hv
    clear hz hl hh hv hn
    go_enter Try.func42, Try.ntmps42
    go_wp2_with (fail)
    refine (safeint_size.calls a0 _ _ s0.out).mono ?_
    rintro e w1 ⟨rfl, hd1⟩
    go_wp2_with (fail)
    refine (safeint_size.calls a1 _ _ s1.out).mono ?_
    rintro e w2 ⟨rfl, hd2⟩
    go_wp2_with (fail)
    refine (safeint_times.raw _ _ _ (by omega) B0.out (by omega) B1.out).mono ?_
    rintro e w3 ⟨rfl, hb3⟩
    rw [← HP.out]
    go_wp2
    go_ret2
    have hv := HV.out
    have hh := Option.some.inj HH.out
    have hn : ¬ in64 (a0 * a1) := by
      unfold in64
      split at hv <;> have := HL.out <;> omega
    rw [if_neg hn] at hh
    cases hh
    exact ⟨rfl, below_step (hd1.below) (below_step hd2.below (below_step hb3 (below_alloc (Below.refl _ _) _)))⟩

end Go.Proofs.Ytckefohfahphpaa.Z
