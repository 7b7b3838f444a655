/- The machine's side: plain Lean functions for the Go functions, each with its contract. Written by a program of this session (wip/xprint.py). -/
import Derived.Test.YtckefohfahphpaaZx0
import Derived.Test.YtckefohfahphpaaZx3
import Derived.Test.YtckefohfahphpaaZx14
namespace Go.Proofs.Ytckefohfahphpaa.Z
open Go.RowKit Go.Proofs.YtckefohfahphpaaW.PrintWords Go.Proofs.YtckefohfahphpaaW.PrintLast Go.Proofs.YtckefohfahphpaaW.PrintMore
attribute [local go_sem] max2_int min2_int max_two min_two max_three min_three max_four min_four   -- for this text's walks alone
set_option linter.unusedVariables false
set_option linter.unusedSimpArgs false

/-! ### matrix_Echelon: function 15, by hand -/
def matrix_Echelon.f (k : Nat) (a : List (List Int)) : Option (List (List Int) × Int) := (matrix_Valid.f k a).bind fun v => if v = true then (matrix_reduce.f k a).bind fun r => some (r.1.1, r.2) else some ([], 2)
theorem matrix_Echelon.mono (a : List (List Int)) (k : Nat) : LeO (matrix_Echelon.f k a) (matrix_Echelon.f (k + 1) a) := by
  unfold matrix_Echelon.f
  exact LeO.bind (matrix_Valid.mono _ _) (fun _ => LeO.ite (LeO.bind (matrix_reduce.mono _ _) (fun _ => LeO.refl _)) (LeO.refl _))
set_option maxHeartbeats 8000000 in
set_option maxRecDepth 100000 in
theorem matrix_Echelon.calls (k : Nat) (A0 : Option Addr) (c0 : Nat) (l0 : List (List Int)) (r1 : List (List Int)) (r2 : Int) (w : World) (hr0 : Kd.C (Kd.slice 2 (Kd.int .i64)) w A0 l0.length l0) (hc0 : l0.length ≤ c0) (h : matrix_Echelon.f k l0 = some (r1, r2)) :
    Calls Try.prog 15 #[.slice A0 l0.length c0] w fun e w' => ∃ v0_ : Value, e = .returned (.tuple #[v0_, .int .i64 r2]) ∧ Kd.N (Kd.slice 2 (Kd.int .i64)) 33 w' w.heap.size (fun k_ => (w.heap.size ≤ k_)) v0_ r1 ∧ Below w.heap.size w w' := by
  unfold matrix_Echelon.f at h
  obtain ⟨v, hv, h⟩ := Option.bind_eq_some_iff.mp h
  have HV := Aside0.mk hv
  have HR := Aside0.mk hr0
  have HC := Aside0.mk hc0
  cases v
  · have hE : ([] : List (List Int)) = r1 ∧ (2 : Int) = r2 := by simpa using h
    obtain ⟨rfl, rfl⟩ := hE
    clear hr0 hc0 h hv
    go_enter Try.func15, Try.ntmps15
    go_wp2_with (fail)
    refine (matrix_Valid.calls k _ _ l0 false _ HR.out HC.out HV.out).mono ?_
    rintro e w1 ⟨rfl, hd⟩
    have HD := Aside0.mk hd
    clear hd
    go_wp2
    go_ret2
    exact ⟨_, rfl, Kd.N_nil _ _ _ _ _, HD.out.below⟩
  · simp only [if_true] at h
    obtain ⟨⟨⟨rows, cols⟩, e2⟩, hred, h⟩ := Option.bind_eq_some_iff.mp h
    obtain ⟨rfl, rfl⟩ : rows = r1 ∧ e2 = r2 := by simpa using h
    clear h
    have HRED := Aside0.mk hred
    clear hr0 hc0 hv hred
    by_cases he : e2 = 0
    · subst he
      go_enter Try.func15, Try.ntmps15
      go_wp2_with (fail)
      refine (matrix_Valid.calls k _ _ l0 true _ HR.out HC.out HV.out).mono ?_
      rintro e w1 ⟨rfl, hd⟩
      have HD := Aside0.mk hd.below
      clear hd
      go_wp2_with (fail)
      refine (matrix_reduce.calls k _ _ l0 rows cols 0 _ (Kd.C_below HR.out HD.out) HC.out HRED.out).mono ?_
      rintro e3 w3 ⟨p, rfl, hB, hz⟩
      obtain ⟨cv, rv, rfl, hT⟩ := hz rfl
      have HB := Aside0.mk (below_step HD.out hB)
      have HT := Aside0.mk hT
      have hc1 := hT.c1
      obtain ⟨Ar, cr, rfl⟩ := Kd.R_slice hT.row
      have HLE := Aside0.mk HD.out.size
      clear hB hz hT
      go_wp2
      go_ret2
      refine ⟨_, rfl, Kd.R_N (Kd.R_mono (Kd.R_lower (Kd.R_bound HT.out.row) HLE.out) (fun k hk => Nat.le_trans HLE.out hk.2.1)), HB.out⟩
    · obtain ⟨rfl, rfl⟩ := reduce_bad HRED.out he
      have he3 : (e2 == 0) = false := beq_eq_false_iff_ne.mpr he
      have he4 : (e2 != 0) = true := bne_iff_ne.mpr he
      go_enter Try.func15, Try.ntmps15
      go_wp2_with (fail)
      refine (matrix_Valid.calls k _ _ l0 true _ HR.out HC.out HV.out).mono ?_
      rintro e w1 ⟨rfl, hd⟩
      have HD := Aside0.mk hd.below
      clear hd
      go_wp2_with (fail)
      refine (matrix_reduce.calls k _ _ l0 _ _ e2 _ (Kd.C_below HR.out HD.out) HC.out HRED.out).mono ?_
      rintro e3 w3 ⟨p, rfl, hB, hz⟩
      have HB := Aside0.mk (below_step HD.out hB)
      clear hB hz
      go_wp2
      go_ret2
      exact ⟨_, rfl, Kd.N_nil _ _ _ _ _, HB.out⟩

end Go.Proofs.Ytckefohfahphpaa.Z
