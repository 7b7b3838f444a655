/- The machine's side: plain Lean functions for the Go functions, each with its contract. Written by a program of this session (wip/xprint.py). -/
import Derived.Test.YtckefohfahphpaaZx0
import Derived.Test.YtckefohfahphpaaZx1
import Derived.Test.YtckefohfahphpaaZx9
import Derived.Test.YtckefohfahphpaaZx17
import Derived.Test.YtckefohfahphpaaZx28
namespace Go.Proofs.Ytckefohfahphpaa.Z
open Go.RowKit Go.Proofs.YtckefohfahphpaaW.PrintWords Go.Proofs.YtckefohfahphpaaW.PrintLast Go.Proofs.YtckefohfahphpaaW.PrintMore
attribute [local go_sem] max2_int min2_int max_two min_two max_three min_three max_four min_four   -- for this text's walks alone
set_option linter.unusedVariables false
set_option linter.unusedSimpArgs false

/-! ### vector_Combine: function 48, by hand -/
def comb (i k x y : Int) : Option (Int × Bool) := (safeint_Mul.f x i).bind fun p => if p.2 = true then ((safeint_Mul.f y k).bind fun q => if q.2 = true then safeint_Add.f p.1 q.1 else some (0, false)) else some (0, false)
set_option maxHeartbeats 8000000 in
set_option maxRecDepth 100000 in
theorem vector_Combine.clo (gi gk : Nat) (i k : Int) (x y : Int) (r1 : Int) (r2 : Bool) (w : World) (hi : w.cell? ⟨gi, 0, none⟩ = some (.int .i64 i)) (hk : w.cell? ⟨gk, 0, none⟩ = some (.int .i64 k)) (h : comb i k x y = some (r1, r2)) :
    Calls Try.prog 55 #[.int .i64 x, .int .i64 y, .pointer (some ⟨gi, 0, none⟩), .pointer (some ⟨gk, 0, none⟩)] w fun e w' => e = .returned (.tuple #[.int .i64 r1, .bool r2]) ∧ Below w.heap.size w w' := by
  unfold comb at h
  obtain ⟨⟨p1, p2⟩, hp, h⟩ := Option.bind_eq_some_iff.mp h
  have HP := Aside0.mk hp
  have hbk := World.block_lt_of_cell? w _ hk
  have HBK := Aside0.mk hbk
  clear hp hbk
  cases p2
  · have HH := Aside0.mk h
    clear h
    go_enter Try.func55, Try.ntmps55
    go_wp2_with (fail)
    refine (safeint_Mul.calls x i p1 false _ HP.out).mono ?_
    rintro e w1 ⟨rfl, hB⟩
    have HB := Aside0.mk hB
    clear hB hk hi
    go_wp2
    go_ret2
    have hh := HH.out
    simp at hh
    obtain ⟨rfl, rfl⟩ := hh
    exact ⟨rfl, HB.out⟩
  · simp only [if_true] at h
    obtain ⟨⟨q1, q2⟩, hq, h⟩ := Option.bind_eq_some_iff.mp h
    have HQ := Aside0.mk hq
    have HH := Aside0.mk h
    clear h hq
    cases q2
    · go_enter Try.func55, Try.ntmps55
      go_wp2_with (fail)
      refine (safeint_Mul.calls x i p1 true _ HP.out).mono ?_
      rintro e w1 ⟨rfl, hB⟩
      replace hk := (hB.cell HBK.out).trans hk
      have HB := Aside0.mk hB
      clear hB hi
      go_wp2_with (fail)
      refine (safeint_Mul.calls y k q1 false _ HQ.out).mono ?_
      rintro e w2 ⟨rfl, hB2⟩
      have HB2 := Aside0.mk hB2
      clear hB2 hk
      go_wp2
      go_ret2
      have hh := HH.out
      simp at hh
      obtain ⟨rfl, rfl⟩ := hh
      exact ⟨rfl, below_step HB.out HB2.out⟩
    · go_enter Try.func55, Try.ntmps55
      go_wp2_with (fail)
      refine (safeint_Mul.calls x i p1 true _ HP.out).mono ?_
      rintro e w1 ⟨rfl, hB⟩
      replace hk := (hB.cell HBK.out).trans hk
      have HB := Aside0.mk hB
      clear hB hi
      go_wp2_with (fail)
      refine (safeint_Mul.calls y k q1 true _ HQ.out).mono ?_
      rintro e w2 ⟨rfl, hB2⟩
      have HB2 := Aside0.mk hB2
      clear hB2 hk
      go_wp2_with (fail)
      refine (safeint_Add.calls p1 q1 r1 r2 _ (by have := HH.out; simpa using this)).mono ?_
      rintro e w3 ⟨rfl, hB3⟩
      have HB3 := Aside0.mk hB3
      clear hB3
      go_wp2
      go_ret2
      exact ⟨rfl, below_step (below_step HB.out HB2.out) HB3.out.below⟩
def vector_Combine.f (a : List Int) (i : Int) (b : List Int) (k : Int) : Option (List Int × Int) := each_f (comb i k) a b
set_option maxHeartbeats 8000000 in
set_option maxRecDepth 100000 in
theorem vector_Combine.calls (A0 : Option Addr) (c0 : Nat) (l0 : List Int) (a1 : Int) (A2 : Option Addr) (c2 : Nat) (l2 : List Int) (a3 : Int) (r1 : List Int) (r2 : Int) (w : World) (hr0 : Kd.C (Kd.int .i64) w A0 l0.length l0) (hc0 : l0.length ≤ c0) (hr2 : Kd.C (Kd.int .i64) w A2 l2.length l2) (hc2 : l2.length ≤ c2) (h : vector_Combine.f l0 a1 l2 a3 = some (r1, r2)) :
    Calls Try.prog 48 #[.slice A0 l0.length c0, .int .i64 a1, .slice A2 l2.length c2, .int .i64 a3] w fun e w' => ∃ v0_ : Value, e = .returned (.tuple #[v0_, .int .i64 r2]) ∧ Kd.R (Kd.int .i64) 2 w' w.heap.size (fun _ => True) v0_ r1 ∧ Below w.heap.size w w' := by
  have HR0 := Aside0.mk hr0
  have HC0 := Aside0.mk hc0
  have HR2 := Aside0.mk hr2
  have HC2 := Aside0.mk hc2
  have HH := Aside0.mk h
  clear hr0 hc0 hr2 hc2 h
  have hmf : ∀ (fn : Fn) (first cap : Array Value) (w : World), (Instr.makeFunc fn first cap).run Try.prog w = .ok (.func fn first cap) w := fun _ _ _ _ => rfl
  go_enter Try.func48, Try.ntmps48
  go_wp2_with (fail)
  have hb1 : Below w.heap.size w ((w.alloc (Obj.cells #[Value.int IntKind.i64 a1] 2)).alloc (Obj.cells #[Value.int IntKind.i64 a3] 2)) := below_alloc (below_alloc (Below.refl _ _) _) _
  have hc1 : ((w.alloc (Obj.cells #[Value.int IntKind.i64 a1] 2)).alloc (Obj.cells #[Value.int IntKind.i64 a3] 2)).cell? ⟨w.heap.size, 0, none⟩ = some (.int .i64 a1) := by rw [World.cell?_alloc_past _ _ _ (by simp), World.cell?_alloc_at _ _ _ _ rfl]; rfl
  have hc3 : ((w.alloc (Obj.cells #[Value.int IntKind.i64 a1] 2)).alloc (Obj.cells #[Value.int IntKind.i64 a3] 2)).cell? ⟨w.heap.size + 1, 0, none⟩ = some (.int .i64 a3) := by rw [World.cell?_alloc_at _ _ _ _ (by simp)]; rfl
  refine (vector_each.calls 55 #[.pointer (some ⟨w.heap.size, 0, none⟩), .pointer (some ⟨w.heap.size + 1, 0, none⟩)] (comb a1 a3) A0 c0 l0 A2 c2 l2 r1 r2 _ (Kd.C_alloc (Kd.C_alloc HR0.out _) _) HC0.out (Kd.C_alloc (Kd.C_alloc HR2.out _) _) HC2.out Try.func55 (by kernel_rfl) rfl
    (fun x y q1 q2 W hW hg => vector_Combine.clo w.heap.size (w.heap.size + 1) a1 a3 x y q1 q2 W ((hW.cell (World.block_lt_of_cell? _ _ hc1)).trans hc1) ((hW.cell (World.block_lt_of_cell? _ _ hc3)).trans hc3) hg) HH.out).mono ?_
  rintro e w1 ⟨v0, rfl, hR, hB⟩
  have HR := Aside0.mk (Kd.R_lower hR hb1.size)
  have HB := Aside0.mk (below_step hb1 hB)
  clear hR hB hb1 hc1 hc3 HR0 HC0 HR2 HC2 HH
  go_wp2
  go_ret2
  exact ⟨_, rfl, HR.out, HB.out⟩

end Go.Proofs.Ytckefohfahphpaa.Z
