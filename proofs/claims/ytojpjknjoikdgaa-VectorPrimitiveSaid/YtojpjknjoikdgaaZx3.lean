/- The machine's side: plain Lean functions for the Go functions, each with its contract. Written by a program of this session (wip/xprint.py). -/
import Derived.Test.YtojpjknjoikdgaaZx0
import Derived.Test.YtojpjknjoikdgaaZx1
import Derived.Test.YtojpjknjoikdgaaZx2
namespace Go.Proofs.Ytojpjknjoikdgaa.Z
open Go.RowKit Go.Proofs.YtojpjknjoikdgaaW.PrintWords Go.Proofs.YtojpjknjoikdgaaW.PrintLast Go.Proofs.YtojpjknjoikdgaaW.PrintMore
attribute [local go_sem] max2_int min2_int max_two min_two max_three min_three max_four min_four   -- for this text's walks alone
set_option linter.unusedVariables false
set_option linter.unusedSimpArgs false

/-! ### safeint_signed: function 49 -/
def safeint_signed.j0 : Nat → Int → Bool → Bool → Option (Int × Bool)
  | 0, _, _, _ => none
  | k + 1, x0, x1, x6 => if x6 = true then (some (wrap64 (IntKind.u64.wrap (-x0)), true)) else (if x1 = true then (some (0, false)) else (if x0 ≤ 9223372036854775807 then (some (wrap64 (x0), true)) else (some (0, false))))
def safeint_signed.f (k : Nat) (a0 : Int) (a1 : Bool) : Option (Int × Bool) := if a1 = true then (safeint_signed.j0 k a0 a1 (decide (a0 ≤ 9223372036854775808))) else (safeint_signed.j0 k a0 a1 false)
theorem safeint_signed.mono_l : ∀ k, (∀ y0 y1 y2, LeO (safeint_signed.j0 k y0 y1 y2) (safeint_signed.j0 (k + 1) y0 y1 y2))
  | 0 => fun _ _ _ r h => by simp [safeint_signed.j0] at h
  | k + 1 => by
    have ih0 := safeint_signed.mono_l k
    · intro y0 y1 y2
      unfold safeint_signed.j0
      repeat' first
      | (with_reducible exact ih0 _ _ _)
      | (with_reducible exact LeO.refl _)
      | (with_reducible exact LeO.none _)
      | (with_reducible refine LeO.ite ?_ ?_)
      | (with_reducible refine LeO.bind ?_ (fun _ => ?_))
      | exact ih0 _ _ _
      | exact LeO.none _
      | refine LeO.ite ?_ ?_
      | refine LeO.bind ?_ (fun _ => ?_)
theorem safeint_signed.mono : ∀ a0 a1 k, LeO (safeint_signed.f k a0 a1) (safeint_signed.f (k + 1) a0 a1) := by
  intro a0 a1 k
  have ih0 := safeint_signed.mono_l k
  unfold safeint_signed.f
  repeat' first
      | (with_reducible exact ih0 _ _ _)
      | (with_reducible exact LeO.refl _)
      | (with_reducible exact LeO.none _)
      | (with_reducible refine LeO.ite ?_ ?_)
      | (with_reducible refine LeO.bind ?_ (fun _ => ?_))
      | exact ih0 _ _ _
      | exact LeO.none _
      | refine LeO.ite ?_ ?_
      | refine LeO.bind ?_ (fun _ => ?_)
set_option maxHeartbeats 8000000 in
set_option maxRecDepth 100000 in
theorem safeint_signed.calls (k : Nat) (a0 : Int) (a1 : Bool) (r1 : Int) (r2 : Bool) (w : World) (h : safeint_signed.f k a0 a1 = some (r1, r2)) :
    Calls Try.prog 49 #[.int .u64 a0, .bool a1] w fun e w' => e = .returned (.tuple #[.int .i64 r1, .bool r2]) ∧ Drawn0 w w' := by
  have H : (if a1 = true then (safeint_signed.j0 k a0 a1 (decide (a0 ≤ 9223372036854775808))) else (safeint_signed.j0 k a0 a1 false)) = some (r1, r2) := h
  clear h
  have HC3 := Aside0.mk H
  clear H
  go_enter Try.func49, Try.ntmps49
  go_upto_region 1 with (fail)
  go_cut [6] (fun v6 wc => ∃ (kq : Nat) (x6_2 : Bool), v6 = .bool x6_2 ∧ Aside0 (safeint_signed.j0 kq a0 a1 x6_2 = some (r1, r2)) ∧ Aside0 (kq ≤ k) ∧ Drawn0 w wc)
  case first =>
    have H := HC3.out
    clear HC3
    by_cases c4 : a1 = true
    · subst c4
      have H1 : (safeint_signed.j0 k a0 true (decide (a0 ≤ 9223372036854775808))) = some (r1, r2) := by rw [if_pos rfl] at H; exact H
      clear H
      have H := H1
      clear H1
      have H' := Aside0.mk H
      clear H
      go_wp2
      go_meet
      case rel => exact ⟨_, (decide (a0 ≤ 9223372036854775808)), (by first | rfl | (simp; done) | (simp [*]; done)), H', ⟨by first | omega | exact Nat.le_refl _⟩, by repeat (first | exact Drawn0.refl _ | apply Drawn0.step)⟩
    · replace c4 := Bool.eq_false_iff.mpr c4
      subst c4
      have H1 : (safeint_signed.j0 k a0 false false) = some (r1, r2) := by rw [if_neg (show ¬ (false = true) by decide)] at H; exact H
      clear H
      have H := H1
      clear H1
      have H' := Aside0.mk H
      clear H
      go_wp2
      go_meet
      case rel => exact ⟨_, (false), (by first | rfl | (simp; done) | (simp [*]; done)), H', ⟨by first | omega | exact Nat.le_refl _⟩, by repeat (first | exact Drawn0.refl _ | apply Drawn0.step)⟩
  case rest =>
    clear HC3
    try clear p2
    try clear c4
    obtain ⟨kq, x6_2, rfl, HA, HJ2, ⟨mc2, rfl⟩⟩ := hcut
    cases kq with
    | zero => exact absurd HA.out (by simp [safeint_signed.j0])
    | succ kj2 =>
      have H := HA.out
      clear HA
      simp only [safeint_signed.j0] at H
      by_cases c5 : x6_2 = true
      · subst c5
        have H1 : (some (wrap64 (IntKind.u64.wrap (-a0)), true)) = some (r1, r2) := by rw [if_pos rfl] at H; exact H
        clear H
        have H := H1
        clear H1
        simp only [Option.some.injEq, Prod.mk.injEq] at H
        obtain ⟨rfl, rfl⟩ := H
        go_wp2
        go_ret2
        exact ⟨by first | rfl | (simp; done) | (simp [*]; done), by repeat (first | exact Drawn0.refl _ | apply Drawn0.step)⟩
      · replace c5 := Bool.eq_false_iff.mpr c5
        subst c5
        have H1 : (if a1 = true then (some (0, false)) else (if a0 ≤ 9223372036854775807 then (some (wrap64 (a0), true)) else (some (0, false)))) = some (r1, r2) := by rw [if_neg (show ¬ (false = true) by decide)] at H; exact H
        clear H
        have H := H1
        clear H1
        by_cases c6 : a1 = true
        · subst c6
          have H1 : (some (0, false)) = some (r1, r2) := by rw [if_pos rfl] at H; exact H
          clear H
          have H := H1
          clear H1
          simp only [Option.some.injEq, Prod.mk.injEq] at H
          obtain ⟨rfl, rfl⟩ := H
          go_wp2
          go_ret2
          exact ⟨by first | rfl | (simp; done) | (simp [*]; done), by repeat (first | exact Drawn0.refl _ | apply Drawn0.step)⟩
        · replace c6 := Bool.eq_false_iff.mpr c6
          subst c6
          have H1 : (if a0 ≤ 9223372036854775807 then (some (wrap64 (a0), true)) else (some (0, false))) = some (r1, r2) := by rw [if_neg (show ¬ (false = true) by decide)] at H; exact H
          clear H
          have H := H1
          clear H1
          by_cases c7 : a0 ≤ 9223372036854775807
          · rw [if_pos c7] at H
            have c7b0 : decide (a0 ≤ 9223372036854775807) = true := decide_eq_true c7
            clear c7
            simp only [Option.some.injEq, Prod.mk.injEq] at H
            obtain ⟨rfl, rfl⟩ := H
            go_wp2
            go_ret2
            exact ⟨by first | rfl | (simp; done) | (simp [*]; done), by repeat (first | exact Drawn0.refl _ | apply Drawn0.step)⟩
          · rw [if_neg c7] at H
            have c7b0 : decide (a0 ≤ 9223372036854775807) = false := decide_eq_false c7
            clear c7
            simp only [Option.some.injEq, Prod.mk.injEq] at H
            obtain ⟨rfl, rfl⟩ := H
            go_wp2
            go_ret2
            exact ⟨by first | rfl | (simp; done) | (simp [*]; done), by repeat (first | exact Drawn0.refl _ | apply Drawn0.step)⟩

/-! ### safeint_Mul: function 38, by hand -/
def safeint_Mul.f (a0 a1 : Int) : Option (Int × Bool) := if in64 a0 ∧ in64 a1 then some (if in64 (a0 * a1) then (a0 * a1, true) else (0, false)) else none
theorem safeint_Mul.size (a : Int) (h : in64 a) : safeint_size.f a = some (a.natAbs : Int) := by
  obtain ⟨h1, h2⟩ := h
  unfold safeint_size.f
  by_cases hn : a < 0
  · rw [if_pos hn]
    congr 1
    rw [wrap_u64, wrap_u64]
    omega
  · rw [if_neg hn]
    congr 1
    rw [wrap_u64]
    omega
theorem safeint_Mul.signed (n : Int) (b : Bool) (h0 : 0 ≤ n) (h1 : n < 18446744073709551616) : safeint_signed.f 1 n b = some (if b = true then (if n ≤ 9223372036854775808 then (-n, true) else (0, false)) else (if n ≤ 9223372036854775807 then (n, true) else (0, false))) := by
  unfold safeint_signed.f
  cases b
  · simp only [safeint_signed.j0]
    by_cases hn : n ≤ 9223372036854775807
    · have hw : wrap64 n = n := wrap64_id ⟨by omega, by omega⟩
      simp [hn, hw]
    · simp [hn]
  · simp only [safeint_signed.j0]
    by_cases hn : n ≤ 9223372036854775808
    · have hw : wrap64 (IntKind.u64.wrap (-n)) = -n := by
        rw [wrap_u64]
        unfold wrap64
        omega
      simp [hn, hw]
    · simp [hn]
theorem safeint_Mul.natAbs (a b : Int) : ((a.natAbs : Int) * (b.natAbs : Int)) = if ((decide (a < 0)) != (decide (b < 0))) = true then -(a * b) else a * b := by
  rcases Int.lt_or_le a 0 with ha | ha <;> rcases Int.lt_or_le b 0 with hb | hb
  · simp [ha, hb, Int.ofNat_natAbs_of_nonpos (Int.le_of_lt ha), Int.ofNat_natAbs_of_nonpos (Int.le_of_lt hb), Int.neg_mul_neg]
  · simp [ha, Int.not_lt.mpr hb, Int.ofNat_natAbs_of_nonpos (Int.le_of_lt ha), Int.natAbs_of_nonneg hb, Int.neg_mul]
  · simp [hb, Int.not_lt.mpr ha, Int.ofNat_natAbs_of_nonpos (Int.le_of_lt hb), Int.natAbs_of_nonneg ha, Int.mul_neg]
  · simp [Int.not_lt.mpr ha, Int.not_lt.mpr hb, Int.natAbs_of_nonneg hb, Int.natAbs_of_nonneg ha]
theorem safeint_Mul.halves (n : Int) (h0 : 0 ≤ n) : (n / 18446744073709551616 = 0 → n % 18446744073709551616 = n) ∧ (n / 18446744073709551616 ≠ 0 → 18446744073709551616 ≤ n) := by omega
set_option maxHeartbeats 8000000 in
set_option maxRecDepth 100000 in
theorem safeint_Mul.calls (a0 : Int) (a1 : Int) (r1 : Int) (r2 : Bool) (w : World) (h : safeint_Mul.f a0 a1 = some (r1, r2)) :
    Calls Try.prog 38 #[.int .i64 a0, .int .i64 a1] w fun e w' => e = .returned (.tuple #[.int .i64 r1, .bool r2]) ∧ Below w.heap.size w w' := by
  have hg : in64 a0 ∧ in64 a1 := by
    unfold safeint_Mul.f at h
    split at h
    · assumption
    · cases h
  unfold safeint_Mul.f at h
  rw [if_pos hg] at h
  have s0 := Aside0.mk (safeint_Mul.size a0 hg.1)
  have s1 := Aside0.mk (safeint_Mul.size a1 hg.2)
  have b0 : (a0.natAbs : Int) < 18446744073709551616 := by have := hg.1; unfold in64 at this; omega
  have b1 : (a1.natAbs : Int) < 18446744073709551616 := by have := hg.2; unfold in64 at this; omega
  have hn : (0 : Int) ≤ (a0.natAbs : Int) * (a1.natAbs : Int) := Int.mul_nonneg (by omega) (by omega)
  have hv := safeint_Mul.natAbs a0 a1
  have B0 := Aside0.mk b0
  have B1 := Aside0.mk b1
  have HH := Aside0.mk h
  clear hg h b0 b1
  obtain ⟨p, hp⟩ : ∃ p : Int, p = (a0.natAbs : Int) * (a1.natAbs : Int) := ⟨_, rfl⟩
  rw [← hp] at hn hv
  have HP := Aside0.mk hp
  have HN := Aside0.mk hn
  have hh := safeint_Mul.halves p hn
  clear hp
  by_cases hz : p / 18446744073709551616 = 0
  · have hl := hh.1 hz
    have hz' : (p / 18446744073709551616 == 0) = true := beq_iff_eq.mpr hz
    have hz2 : (p / 18446744073709551616 != 0) = false := bne_eq_false_iff_eq.mpr hz
    have HL := Aside0.mk hl
    have HS := Aside0.mk (safeint_Mul.signed p ((decide (a0 < 0)) != (decide (a1 < 0))) hn (by omega))
    have HV := Aside0.mk hv
    clear hz hl hh hv hn
    go_enter Try.func38, Try.ntmps38
    go_wp2_with (fail)
    refine (safeint_size.calls a0 _ _ s0.out).mono ?_
    rintro e w1 ⟨rfl, hd1⟩
    go_wp2_with (fail)
    refine (safeint_size.calls a1 _ _ s1.out).mono ?_
    rintro e w2 ⟨rfl, hd2⟩
    go_wp2_with (fail)
    refine (safeint_times.raw _ _ _ (by omega) B0.out (by omega) B1.out).mono ?_
    rintro e w3 ⟨rfl, hb3⟩
    rw [← HP.out]
    go_wp2_with (fail)
    rw [HL.out, ← bne]
    have hs : safeint_signed.f 1 p ((decide (a0 < 0)) != (decide (a1 < 0))) = some (r1, r2) := by
      have hv := HV.out
      have hh := Option.some.inj HH.out
      rw [HS.out, ← hh]
      congr 1
      cases hb : ((decide (a0 < 0)) != (decide (a1 < 0)))
      · rw [hb] at hv
        simp only [Bool.false_eq_true, if_false] at hv ⊢
        rw [← hv]
        by_cases hc : p ≤ 9223372036854775807
        · rw [if_pos hc, if_pos (show in64 p from ⟨by have := HN.out; omega, hc⟩)]
        · rw [if_neg hc, if_neg (fun h : in64 p => hc h.2)]
      · rw [hb] at hv
        simp only [if_true] at hv ⊢
        have hv' : a0 * a1 = -p := by omega
        rw [hv']
        by_cases hc : p ≤ 9223372036854775808
        · rw [if_pos hc, if_pos (show in64 (-p) from ⟨by omega, by have := HN.out; omega⟩)]
        · rw [if_neg hc, if_neg (fun h : in64 (-p) => hc (by have := h.1; omega))]
    refine (safeint_signed.calls 1 _ _ r1 r2 _ hs).mono ?_
    rintro e w4 ⟨rfl, hd4⟩
    clear hs
    go_wp2
    go_ret2
    exact ⟨rfl, below_step (below_step (hd1.below) (below_step hd2.below (below_step hb3 (below_alloc (Below.refl _ _) _)))) hd4.below⟩
  · have hl := hh.2 hz
    have hz' : (p / 18446744073709551616 == 0) = false := beq_eq_false_iff_ne.mpr hz
    have hz2 : (p / 18446744073709551616 != 0) = true := bne_iff_ne.mpr hz
    have HL := Aside0.mk hl
    have HV := Aside0.mk hv
    clear hz hl hh hv hn
    go_enter Try.func38, Try.ntmps38
    go_wp2_with (fail)
    refine (safeint_size.calls a0 _ _ s0.out).mono ?_
    rintro e w1 ⟨rfl, hd1⟩
    go_wp2_with (fail)
    refine (safeint_size.calls a1 _ _ s1.out).mono ?_
    rintro e w2 ⟨rfl, hd2⟩
    go_wp2_with (fail)
    refine (safeint_times.raw _ _ _ (by omega) B0.out (by omega) B1.out).mono ?_
    rintro e w3 ⟨rfl, hb3⟩
    rw [← HP.out]
    go_wp2
    go_ret2
    have hv := HV.out
    have hh := Option.some.inj HH.out
    have hn : ¬ in64 (a0 * a1) := by
      unfold in64
      split at hv <;> have := HL.out <;> omega
    rw [if_neg hn] at hh
    cases hh
    exact ⟨rfl, below_step (hd1.below) (below_step hd2.below (below_step hb3 (below_alloc (Below.refl _ _) _)))⟩

end Go.Proofs.Ytojpjknjoikdgaa.Z
