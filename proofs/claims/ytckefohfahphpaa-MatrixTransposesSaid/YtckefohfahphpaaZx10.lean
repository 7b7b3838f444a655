/- The machine's side: plain Lean functions for the Go functions, each with its contract. Written by a program of this session (wip/xprint.py). -/
import Derived.Test.YtckefohfahphpaaZx0
import Derived.Test.YtckefohfahphpaaZx1
import Derived.Test.YtckefohfahphpaaZx9
import Derived.Test.YtckefohfahphpaaZx17
namespace Go.Proofs.Ytckefohfahphpaa.Z
open Go.RowKit Go.Proofs.YtckefohfahphpaaW.PrintWords Go.Proofs.YtckefohfahphpaaW.PrintLast Go.Proofs.YtckefohfahphpaaW.PrintMore
attribute [local go_sem] max2_int min2_int max_two min_two max_three min_three max_four min_four   -- for this text's walks alone
set_option linter.unusedVariables false
set_option linter.unusedSimpArgs false

/-! ### vector_Scale: function 46, by hand -/
set_option maxHeartbeats 8000000 in
set_option maxRecDepth 100000 in
theorem vector_Scale.clo (g : Nat) (k : Int) (x y : Int) (r1 : Int) (r2 : Bool) (w : World) (hk : w.cell? ⟨g, 0, none⟩ = some (.int .i64 k)) (h : safeint_Mul.f x k = some (r1, r2)) :
    Calls Try.prog 54 #[.int .i64 x, .int .i64 y, .pointer (some ⟨g, 0, none⟩)] w fun e w' => e = .returned (.tuple #[.int .i64 r1, .bool r2]) ∧ Below w.heap.size w w' := by
  have HH := Aside0.mk h
  clear h
  go_enter Try.func54, Try.ntmps54
  go_wp2_with (fail)
  refine (safeint_Mul.calls x k r1 r2 _ HH.out).mono ?_
  rintro e w1 ⟨rfl, hB⟩
  have HB := Aside0.mk hB
  clear hB hk
  go_wp2
  go_ret2
  exact ⟨rfl, HB.out⟩
def vector_Scale.f (a : List Int) (k : Int) : Option (List Int × Int) := each_f (fun x _ => safeint_Mul.f x k) a a
set_option maxHeartbeats 8000000 in
set_option maxRecDepth 100000 in
theorem vector_Scale.calls (A0 : Option Addr) (c0 : Nat) (l0 : List Int) (a1 : Int) (r1 : List Int) (r2 : Int) (w : World) (hr0 : Kd.C (Kd.int .i64) w A0 l0.length l0) (hc0 : l0.length ≤ c0) (h : vector_Scale.f l0 a1 = some (r1, r2)) :
    Calls Try.prog 46 #[.slice A0 l0.length c0, .int .i64 a1] w fun e w' => ∃ v0_ : Value, e = .returned (.tuple #[v0_, .int .i64 r2]) ∧ Kd.R (Kd.int .i64) 2 w' w.heap.size (fun _ => True) v0_ r1 ∧ Below w.heap.size w w' := by
  have HR0 := Aside0.mk hr0
  have HC0 := Aside0.mk hc0
  have HH := Aside0.mk h
  clear hr0 hc0 h
  have hmf : ∀ (fn : Fn) (first cap : Array Value) (w : World), (Instr.makeFunc fn first cap).run Try.prog w = .ok (.func fn first cap) w := fun _ _ _ _ => rfl
  go_enter Try.func46, Try.ntmps46
  go_wp2_with (fail)
  have hb1 : Below w.heap.size w (w.alloc (Obj.cells #[Value.int IntKind.i64 a1] 2)) := below_alloc (Below.refl _ _) _
  have hcell : (w.alloc (Obj.cells #[Value.int IntKind.i64 a1] 2)).cell? ⟨w.heap.size, 0, none⟩ = some (.int .i64 a1) := by rw [World.cell?_alloc_at _ _ _ _ rfl]; rfl
  refine (vector_each.calls 54 #[.pointer (some ⟨w.heap.size, 0, none⟩)] (fun x _ => safeint_Mul.f x a1) A0 c0 l0 A0 c0 l0 r1 r2 _ (Kd.C_alloc HR0.out _) HC0.out (Kd.C_alloc HR0.out _) HC0.out Try.func54 (by kernel_rfl) rfl
    (fun x y q1 q2 W hW hg => vector_Scale.clo w.heap.size a1 x y q1 q2 W ((hW.cell (World.block_lt_of_cell? _ _ hcell)).trans hcell) hg) HH.out).mono ?_
  rintro e w1 ⟨v0, rfl, hR, hB⟩
  have HR := Aside0.mk (Kd.R_lower hR hb1.size)
  have HB := Aside0.mk (below_step hb1 hB)
  clear hR hB hb1 hcell HR0 HC0 HH
  go_wp2
  go_ret2
  exact ⟨_, rfl, HR.out, HB.out⟩

end Go.Proofs.Ytckefohfahphpaa.Z
