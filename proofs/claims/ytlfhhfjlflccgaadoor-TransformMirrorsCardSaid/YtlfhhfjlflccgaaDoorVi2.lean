/- An interpreter for the model's code on plain Lean data, and the proof that what it tells of a call is so. Written in this work (wip/vi). -/
import Derived.Test.YtlfhhfjlflccgaaDoorVi1
import Derived.Calls
import Derived.Orders
import Derived.Scope
import Derived.Laws.World
import Derived.Below
import Derived.KernelRfl
import Derived.Laws.AppendOwn
import Derived.Laws.MakeOwn
import Derived.Laws.Closers25b
import Derived.Laws.RangeAny
import Derived.Laws.Slices
import Derived.Laws.Tables
import Derived.Laws.Small
import Derived.Laws.CopyRow
import Derived.Laws.StructEq
import Derived.Deep.MidRow
import Derived.Lib.OthersKept
import Derived.Laws.BytesArg
import Derived.OpenShut
import Derived.DataReads
import Derived.ChangeSlices
import Derived.WideShapes
namespace Go.VI
open Go
set_option linter.unusedVariables false
theorem wrap_i64 {x : Int} (h : inI .i64 x) : IntKind.i64.wrap x = x := by
 obtain ⟨h1, h2⟩ := h
 have e1 : IntKind.i64.min = -9223372036854775808 := rfl
 have e2 : IntKind.i64.max = 9223372036854775807 := rfl
 rw [e1] at h1
 rw [e2] at h2
 simp only [IntKind.wrap, IntKind.bits, IntKind.signed]
 simp
 split <;> omega
theorem inI_i64 {x : Int} : inI .i64 x ↔ -9223372036854775808 ≤ x ∧ x ≤ 9223372036854775807 := by
 have e1 : IntKind.i64.min = -9223372036854775808 := rfl
 have e2 : IntKind.i64.max = 9223372036854775807 := rfl
 unfold inI
 rw [e1, e2]
theorem wrap_u64 {x : Int} (h : 0 ≤ x ∧ x ≤ 18446744073709551615) : IntKind.u64.wrap x = x := by
 simp only [IntKind.wrap, IntKind.bits, IntKind.signed]
 simp
 omega
theorem inI_u64 {x : Int} : inI .u64 x ↔ 0 ≤ x ∧ x ≤ 18446744073709551615 := by
 have e1 : IntKind.u64.min = 0 := rfl
 have e2 : IntKind.u64.max = 18446744073709551615 := rfl
 unfold inI
 rw [e1, e2]
theorem wrap_next {j n : Nat} (h : j < n) (hn : n ≤ maxLen) : IntKind.i64.wrap ((j : Int) + 1) = (j : Int) + 1 := by
 unfold maxLen at hn
 exact wrap_i64 (inI_i64.2 (by omega))
theorem le_fuel {n N : Nat} (hn : n ≤ maxLen) (hN : 18446744073709551616 ≤ N) : n < N := by unfold maxLen at hn; omega
theorem succ_cast (j : Nat) : ((j + 1 : Nat) : Int) = (j : Int) + 1 := by omega
theorem set_mid {α : Type} (pre rest : List α) (x y : α) {j : Nat} (h : pre.length = j) : (pre ++ x :: rest).set j y = pre ++ y :: rest := by
 subst h
 simp
theorem drop_step {α : Type} {a l : List α} {x : α} {j : Nat} (h : x :: l = a.drop j) : ∃ hj : j < a.length, a[j] = x ∧ l = a.drop (j + 1) := by
 have hj : j < a.length := by
  have := congrArg List.length h
  simp at this
  omega
 rw [List.drop_eq_getElem_cons hj] at h
 obtain ⟨h1, h2⟩ := List.cons.inj h
 exact ⟨hj, h1.symm, h2⟩
theorem d_lt {j n : Nat} (h : j < n) : decide ((j : Int) < (n : Int)) = true := decide_eq_true (Int.ofNat_lt.2 h)
theorem d_0 (j : Nat) : decide ((0 : Int) ≤ (j : Int)) = true := decide_eq_true (Int.natCast_nonneg j)
theorem getD_at {α : Type} {a : List α} {j : Nat} (h : j < a.length) (z : α) : a.getD (Int.toNat (j : Int)) z = a[j] := by
 rw [Int.toNat_natCast]
 exact (List.getElem_eq_getD z).symm
theorem getD_n {α : Type} {a : List α} {j : Nat} (h : j < a.length) (z : α) : a.getD j z = a[j] := (List.getElem_eq_getD z).symm
theorem bne_len {m n : Nat} : ((m : Int) != (n : Int)) = !(Nat.beq m n) := by
 by_cases h : m = n
 ·
  subst h
  simp [Nat.beq_refl]
 ·
  have : Nat.beq m n = false := by
   cases hb : Nat.beq m n
   ·
    rfl
   ·
    exact absurd (Nat.eq_of_beq_eq_true hb) h
  rw [this]
  simp only [bne_iff_ne, ne_eq, Bool.not_false]
  omega
theorem beq_t {m n : Nat} (h : m = n) : Nat.beq m n = true := by rw [h]; exact Nat.beq_refl n
theorem beq_f {m n : Nat} (h : m ≠ n) : Nat.beq m n = false := by
 cases hb : Nat.beq m n
 ·
  rfl
 ·
  exact absurd (Nat.eq_of_beq_eq_true hb) h
theorem condK {α β : Type} (b : Bool) (k : α → β) (x y : α) : cond b (k x) (k y) = k (cond b x y) := by cases b <;> rfl
end Go.VI
