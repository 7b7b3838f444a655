/- An interpreter for the model's code on plain Lean data, and the proof that what it tells of a call is so. Written in this work (wip/vi). -/
import Derived.Test.YtlfhhfjlflccgaaDoorVi1
import Derived.Calls
import Derived.Orders
import Derived.Scope
import Derived.Laws.World
import Derived.Below
import Derived.KernelRfl
import Derived.Laws.AppendOwn
import Derived.Laws.MakeOwn
import Derived.Laws.Closers25b
import Derived.Laws.RangeAny
import Derived.Laws.Slices
import Derived.Laws.Tables
import Derived.Laws.Small
import Derived.Laws.CopyRow
import Derived.Laws.StructEq
import Derived.Deep.MidRow
import Derived.Lib.OthersKept
import Derived.Laws.BytesArg
import Derived.OpenShut
import Derived.DataReads
import Derived.ChangeSlices
import Derived.WideShapes
namespace Go.VI
open Go
set_option linter.unusedVariables false
theorem wrap_i64 {x : Int} (h : inI .i64 x) : IntKind.i64.wrap x = x := by
 obtain ⟨h1, h2⟩ := h
 have e1 : IntKind.i64.min = -9223372036854775808 := rfl
 have e2 : IntKind.i64.max = 9223372036854775807 := rfl
 rw [e1] at h1
 rw [e2] at h2
 simp only [IntKind.wrap, IntKind.bits, IntKind.signed]
 simp
 split <;> omega
theorem inI_i64 {x : Int} : inI .i64 x ↔ -9223372036854775808 ≤ x ∧ x ≤ 9223372036854775807 := by
 have e1 : IntKind.i64.min = -9223372036854775808 := rfl
 have e2 : IntKind.i64.max = 9223372036854775807 := rfl
 unfold inI
 rw [e1, e2]
theorem wrap_u64 {x : Int} (h : 0 ≤ x ∧ x ≤ 18446744073709551615) : IntKind.u64.wrap x = x := by
 simp only [IntKind.wrap, IntKind.bits, IntKind.signed]
 simp
 omega
theorem inI_u64 {x : Int} : inI .u64 x ↔ 0 ≤ x ∧ x ≤ 18446744073709551615 := by
 have e1 : IntKind.u64.min = 0 := rfl
 have e2 : IntKind.u64.max = 18446744073709551615 := rfl
 unfold inI
 rw [e1, e2]
theorem wrap_next {j n : Nat} (h : j < n) (hn : n ≤ maxLen) : IntKind.i64.wrap ((j : Int) + 1) = (j : Int) + 1 := by
 unfold maxLen at hn
 exact wrap_i64 (inI_i64.2 (by omega))
theorem le_fuel {n N : Nat} (hn : n ≤ maxLen) (hN : 18446744073709551616 ≤ N) : n < N := by unfold maxLen at hn; omega
theorem succ_cast (j : Nat) : ((j + 1 : Nat) : Int) = (j : Int) + 1 := by omega
theorem set_mid {α : Type} (pre rest : List α) (x y : α) {j : Nat} (h : pre.length = j) : (pre ++ x :: rest).set j y = pre ++ y :: rest := by
 subst h
 simp
theorem drop_step {α : Type} {a l : List α} {x : α} {j : Nat} (h : x :: l = a.drop j) : ∃ hj : j < a.length, a[j] = x ∧ l = a.drop (j + 1) := by
 have hj : j < a.length := by
  have := congrArg List.length h
  simp at this
  omega
 rw [List.drop_eq_getElem_cons hj] at h
 obtain ⟨h1, h2⟩ := List.cons.inj h
 exact ⟨hj, h1.symm, h2⟩
theorem d_lt {j n : Nat} (h : j < n) : decide ((j : Int) < (n : Int)) = true := decide_eq_true (Int.ofNat_lt.2 h)
theorem d_0 (j : Nat) : decide ((0 : Int) ≤ (j : Int)) = true := decide_eq_true (Int.natCast_nonneg j)
theorem getD_at {α : Type} {a : List α} {j : Nat} (h : j < a.length) (z : α) : a.getD (Int.toNat (j : Int)) z = a[j] := by
 rw [Int.toNat_natCast]
 exact (List.getElem_eq_getD z).symm
theorem getD_n {α : Type} {a : List α} {j : Nat} (h : j < a.length) (z : α) : a.getD j z = a[j] := (List.getElem_eq_getD z).symm
theorem bne_len {m n : Nat} : ((m : Int) != (n : Int)) = !(Nat.beq m n) := by
 by_cases h : m = n
 ·
  subst h
  simp [Nat.beq_refl]
 ·
  have : Nat.beq m n = false := by
   cases hb : Nat.beq m n
   ·
    rfl
   ·
    exact absurd (Nat.eq_of_beq_eq_true hb) h
  rw [this]
  simp only [bne_iff_ne, ne_eq, Bool.not_false]
  omega
theorem beq_t {m n : Nat} (h : m = n) : Nat.beq m n = true := by rw [h]; exact Nat.beq_refl n
theorem beq_f {m n : Nat} (h : m ≠ n) : Nat.beq m n = false := by
 cases hb : Nat.beq m n
 ·
  rfl
 ·
  exact absurd (Nat.eq_of_beq_eq_true hb) h
structure AtL {X : Type} (xs : List X) (j : Nat) (hj : j < xs.length) : Prop where
 a : decide ((j : Int) < (xs.length : Int)) = true
 b : decide ((0 : Int) ≤ (j : Int)) = true
 c : ∀ z, xs.getD (Int.toNat (j : Int)) z = xs[j]
 d : ∀ z, xs.getD (0 + Int.toNat (j : Int)) z = xs[j]
 e : IntKind.i64.wrap ((j : Int) + 1) = (j : Int) + 1
theorem at_of {X : Type} {xs : List X} (hl : xs.length ≤ maxLen) {j : Nat} (hj : j < xs.length) : AtL xs j hj :=
 ⟨d_lt hj, d_0 j, getD_at hj, fun z => by rw [Nat.zero_add]; exact getD_at hj z, wrap_next hj hl⟩
theorem rng0 {X ρ : Type} (xs : List X) (hl : xs.length ≤ maxLen) (F : Nat → Int → ρ) (G : List X → Int → ρ)
  (h1 : ∀ (n j : Nat) (hj : j < xs.length), AtL xs j hj → F n ((j : Int) + 1) = G (xs.drop (j + 1)) ((j : Int) + 1) → F (n + 1) (j : Int) = G (xs[j] :: xs.drop (j + 1)) (j : Int))
  (h2 : ∀ (n j : Nat), decide ((j : Int) < (xs.length : Int)) = false → F (n + 1) (j : Int) = G [] (j : Int)) : ∀ (n j : Nat), xs.length < n + j → j ≤ xs.length → F n (j : Int) = G (xs.drop j) (j : Int)
 | 0, j, h, hj => absurd h (by omega)
 | n + 1, j, h, hj => by
  by_cases hlt : j < xs.length
  ·
   rw [List.drop_eq_getElem_cons hlt]
   exact h1 n j hlt (at_of hl hlt) (rng0 xs hl F G h1 h2 n (j + 1) (by omega) (by omega))
  ·
   rw [List.drop_eq_nil_of_le (by omega)]
   exact h2 n j (decide_eq_false (fun hc => hlt (Int.ofNat_lt.1 hc)))
theorem rng1 {X ρ σ0 : Type} (xs : List X) (hl : xs.length ≤ maxLen) (F : Nat → Int → σ0 → ρ) (G : List X → Int → σ0 → ρ)
  (h1 : ∀ (n j : Nat) (hj : j < xs.length), AtL xs j hj → (∀ (s0 : σ0), F n ((j : Int) + 1) s0 = G (xs.drop (j + 1)) ((j : Int) + 1) s0) → ∀ (s0 : σ0), F (n + 1) (j : Int) s0 = G (xs[j] :: xs.drop (j + 1)) (j : Int) s0)
  (h2 : ∀ (n j : Nat), decide ((j : Int) < (xs.length : Int)) = false → ∀ (s0 : σ0), F (n + 1) (j : Int) s0 = G [] (j : Int) s0) (n j : Nat) (s0 : σ0) (a : xs.length < n + j) (b : j ≤ xs.length) : F n (j : Int) s0 = G (xs.drop j) (j : Int) s0 :=
 congrFun (rng0 xs hl F G (fun n j hj e ih => funext fun s0 => h1 n j hj e (fun s0 => congrFun ih s0) s0) (fun n j e => funext fun s0 => h2 n j e s0) n j a b) s0
theorem rng2 {X ρ σ0 σ1 : Type} (xs : List X) (hl : xs.length ≤ maxLen) (F : Nat → Int → σ0 → σ1 → ρ) (G : List X → Int → σ0 → σ1 → ρ)
  (h1 : ∀ (n j : Nat) (hj : j < xs.length), AtL xs j hj → (∀ (s0 : σ0) (s1 : σ1), F n ((j : Int) + 1) s0 s1 = G (xs.drop (j + 1)) ((j : Int) + 1) s0 s1) → ∀ (s0 : σ0) (s1 : σ1), F (n + 1) (j : Int) s0 s1 = G (xs[j] :: xs.drop (j + 1)) (j : Int) s0 s1)
  (h2 : ∀ (n j : Nat), decide ((j : Int) < (xs.length : Int)) = false → ∀ (s0 : σ0) (s1 : σ1), F (n + 1) (j : Int) s0 s1 = G [] (j : Int) s0 s1) (n j : Nat) (s0 : σ0) (s1 : σ1) (a : xs.length < n + j) (b : j ≤ xs.length) : F n (j : Int) s0 s1 = G (xs.drop j) (j : Int) s0 s1 :=
 congrFun (congrFun (rng0 xs hl F G (fun n j hj e ih => funext fun s0 => funext fun s1 => h1 n j hj e (fun s0 s1 => congrFun (congrFun ih s0) s1) s0 s1) (fun n j e => funext fun s0 => funext fun s1 => h2 n j e s0 s1) n j a b) s0) s1
end Go.VI
