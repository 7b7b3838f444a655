/- What the functions that SemiflowCovers calls compute: printed out of the interpreter's normal forms (wip/vi/vigen.py) and proved. -/
import Derived.Test.YtongghfemdngdaaVSemiflowCovers0
import Derived.Test.YtongghfemdngdaaProg
set_option linter.unusedVariables false
set_option linter.unusedSimpArgs false
set_option maxRecDepth 100000
set_option maxHeartbeats 4000000
noncomputable section
namespace Go.VI
open Go Go.Proofs
namespace vector_Prim
def an90 : Ann := [(3, [0, 4, 10, 11, 12], [0, 2, 3, 4]), (11, [4, 7, 28, 29, 30], [7])]
def L0.sh : Sh := { sl := [(0, SV.a (SA.d (K.int IntKind.i64).sl)), (4, SV.a (SA.d (K.int IntKind.i64))), (10, SV.a (SA.d (K.int IntKind.i64).sl)), (11, SV.a (SA.d (K.int IntKind.i64))), (12, SV.a (SA.d (K.int IntKind.i64)))], os := [], nx := 0 }
def L0.x0 : Sh := { sl := [(0, SV.a (SA.d (K.int IntKind.i64).sl)), (2, SV.a (SA.fx (Atom.sl 0 0 none))), (3, SV.a (SA.d (K.int IntKind.i64))), (4, SV.a (SA.d (K.int IntKind.i64)))], os := [(0, SO.row (K.int IntKind.i64) 0)], nx := 1 }
def L0.x1 : Sh := { sl := [(0, SV.a (SA.d (K.int IntKind.i64).sl)), (2, SV.j), (3, SV.j), (4, SV.a (SA.d (K.int IntKind.i64)))], os := [], nx := 0 }
def L0.st {α : Type} (N : Nat) (x2 : (List Int)) (x3 : Int) (φ : (Int → Int → Option α)) (x1 : Int) (x4 : Int) (k0 : (Int → Int → (List Int) → Option α)) (k1 : (Int → Option α)) : Option α :=
 cond (decide (x4 < x3)) (cond (decide (0 ≤ x4) && decide (x4 < (↑x2.length : Int))) (cond (x2.getD x4.toNat 0 == -9223372036854775808) (k0 (3) (x1) ([])) (φ ((safeint_Gcd.spec x1 (x2.getD x4.toNat (0 : Int))).fst) (IntKind.i64.wrap (x4 + 1)))) (none)) (k1 (x1))
def L0.f {α : Type} (N : Nat) (c1 : (List Int)) (c2 : Int) : Nat → Int → Int → (Int → Int → (List Int) → Option α) → (Int → Option α) → Option α
 | 0, _, _, _, _ => none
 | n + 1, d0, d1, k0, k1 => L0.st N c1 c2 (fun e0 e1 => L0.f N c1 c2 n e0 e1 k0 k1) d0 d1 k0 k1
def L0.up (d : L0.sh.T) (e0 : Int) (e1 : Int) : L0.sh.T := ((d.1.1, (e0, (d.1.2.2.1, (d.1.2.2.2.1, (e1, ()))))), ())
def L0.k0 {α : Type} (d : L0.sh.T) (K : Cont α) : (Int → Int → (List Int) → Option α) := fun y0 y1 y2 => K (Exit.ret) (L0.x0.enc ((d.1.1, ((), (y0, (y1, ())))), (y2, ())))
def L0.k1 {α : Type} (d : L0.sh.T) (K : Cont α) : (Int → Option α) := fun y0 => K (Exit.exit 0) (L0.x1.enc ((d.1.1, ((), ((), (y0, ())))), ()))
def L0.F {α : Type} (N : Nat) (d : L0.sh.T) (K : Cont α) : Option α := L0.f N d.1.2.2.1 d.1.2.2.2.1 N d.1.2.1 d.1.2.2.2.2.1 (L0.k0 d K) (L0.k1 d K)
def L1.sh : Sh := { sl := [(4, SV.a (SA.d (K.int IntKind.i64))), (7, SV.a (SA.fx (Atom.sl 0 0 none))), (28, SV.a (SA.d (K.int IntKind.i64).sl)), (29, SV.a (SA.d (K.int IntKind.i64))), (30, SV.a (SA.d (K.int IntKind.i64)))], os := [(0, SO.row (K.int IntKind.i64) 0)], nx := 1 }
def L1.x0 : Sh := { sl := [(7, SV.a (SA.fx (Atom.sl 0 0 none)))], os := [(0, SO.row (K.int IntKind.i64) 0)], nx := 1 }
def L1.st {α : Type} (N : Nat) (x9 : Int) (x10 : (List Int)) (x11 : Int) (φ : (Int → (List Int) → Option α)) (x12 : Int) (x13 : (List Int)) (k0 : ((List Int) → Option α)) : Option α :=
 cond (decide (x12 < x11)) (cond (decide (0 ≤ x12) && decide (x12 < (↑x10.length : Int))) (cond (decide (0 < x9)) (cond (!decide (x9 = 0)) (cond (decide (0 ≤ x12) && decide (x12 < (↑x13.length : Int))) (φ (IntKind.i64.wrap (x12 + 1)) (x13.set (0 + x12.toNat) (IntKind.i64.wrap (Int.tdiv (x10.getD x12.toNat (0 : Int)) x9)))) (none)) (none)) (φ (IntKind.i64.wrap (x12 + 1)) (x13))) (none)) (k0 (x13))
def L1.f {α : Type} (N : Nat) (c0 : Int) (c1 : (List Int)) (c2 : Int) : Nat → Int → (List Int) → ((List Int) → Option α) → Option α
 | 0, _, _, _ => none
 | n + 1, d0, d1, k0 => L1.st N c0 c1 c2 (fun e0 e1 => L1.f N c0 c1 c2 n e0 e1 k0) d0 d1 k0
def L1.up (d : L1.sh.T) (e0 : Int) (e1 : (List Int)) : L1.sh.T := ((d.1.1, ((), (d.1.2.2.1, (d.1.2.2.2.1, (e0, ()))))), (e1, ()))
def L1.k0 {α : Type} (d : L1.sh.T) (K : Cont α) : ((List Int) → Option α) := fun y0 => K (Exit.exit 2) (L1.x0.enc (((), ()), (y0, ())))
def L1.F {α : Type} (N : Nat) (d : L1.sh.T) (K : Cont α) : Option α := L1.f N d.1.1 d.1.2.2.1 d.1.2.2.2.1 N d.1.2.2.2.2.1 d.2.1 (L1.k0 d K)
def ents90 {α : Type} (N : Nat) : List (SmE α) := [⟨0, 50, 3, [⟨L0.sh, L0.F N⟩]⟩, ⟨0, 50, 11, [⟨L1.sh, L1.F N⟩]⟩]
def C (N : Nat) : Ctx := ⟨tys, [(105, safeint_Gcd.fent)], [], N⟩
def L0.B {α : Type} (N : Nat) : Env → Cont α → Option α := evC tys 45 0 (evCall (C N) 50) (evCallQ (C N)) N an90 (smL (ents90 N) 0 50) (loopOf 3 Try.f90)
theorem L0.r {α : Type} (N : Nat) (φ : Env → Option α) (K : Cont α) (d : L0.sh.T) : L0.B N (L0.sh.enc d) (contL φ K (Env.norm 0 [0, 4, 10, 11, 12]) (Env.norm 0 [0, 2, 3, 4])) = L0.st N d.1.2.2.1 d.1.2.2.2.1 (fun e0 e1 => φ (L0.sh.enc (L0.up d e0 e1))) d.1.2.1 d.1.2.2.2.2.1 (L0.k0 d K) (L0.k1 d K) := by kernel_rfl
theorem L0.e {α : Type} (N : Nat) : ∀ (n : Nat) (d : L0.sh.T) (K : Cont α), evL (L0.B N) (Env.norm 0 [0, 4, 10, 11, 12]) (Env.norm 0 [0, 2, 3, 4]) n (L0.sh.enc d) K = L0.f N d.1.2.2.1 d.1.2.2.2.1 n d.1.2.1 d.1.2.2.2.2.1 (L0.k0 d K) (L0.k1 d K)
 | 0, d, K => rfl
 | n + 1, d, K => evL_contL.trans ((L0.r N _ K d).trans (congrArg (fun φ => L0.st N d.1.2.2.1 d.1.2.2.2.1 φ d.1.2.1 d.1.2.2.2.2.1 (L0.k0 d K) (L0.k1 d K)) (funext fun e0 => funext fun e1 => L0.e N n (L0.up d e0 e1) K)))
def L1.B {α : Type} (N : Nat) : Env → Cont α → Option α := evC tys 45 0 (evCall (C N) 50) (evCallQ (C N)) N an90 (smL (ents90 N) 0 50) (loopOf 11 Try.f90)
theorem L1.r {α : Type} (N : Nat) (φ : Env → Option α) (K : Cont α) (d : L1.sh.T) : L1.B N (L1.sh.enc d) (contL φ K (Env.norm 0 [4, 7, 28, 29, 30]) (Env.norm 0 [7])) = L1.st N d.1.1 d.1.2.2.1 d.1.2.2.2.1 (fun e0 e1 => φ (L1.sh.enc (L1.up d e0 e1))) d.1.2.2.2.2.1 d.2.1 (L1.k0 d K) := by kernel_rfl
theorem L1.e {α : Type} (N : Nat) : ∀ (n : Nat) (d : L1.sh.T) (K : Cont α), evL (L1.B N) (Env.norm 0 [4, 7, 28, 29, 30]) (Env.norm 0 [7]) n (L1.sh.enc d) K = L1.f N d.1.1 d.1.2.2.1 d.1.2.2.2.1 n d.1.2.2.2.2.1 d.2.1 (L1.k0 d K)
 | 0, d, K => rfl
 | n + 1, d, K => evL_contL.trans ((L1.r N _ K d).trans (congrArg (fun φ => L1.st N d.1.1 d.1.2.2.1 d.1.2.2.2.1 φ d.1.2.2.2.2.1 d.2.1 (L1.k0 d K)) (funext fun e0 => funext fun e1 => L1.e N n (L1.up d e0 e1) K)))
theorem ents90_ok {α : Type} (N : Nat) : AllP (EntOk (C N) Try.f90 an90 (ents90 (α := α) N)) (ents90 N) := ⟨entOk_of (b0 := loopOf 3 Try.f90) (li0 := [0, 4, 10, 11, 12]) (lx0 := [0, 2, 3, 4]) (by kernel_rfl) (by kernel_rfl) ⟨fun d K => L0.e N N d K, trivial⟩, entOk_of (b0 := loopOf 11 Try.f90) (li0 := [4, 7, 28, 29, 30]) (lx0 := [7]) (by kernel_rfl) (by kernel_rfl) ⟨fun d K => L1.e N N d K, trivial⟩, trivial⟩
def g {α : Type} (N : Nat) (a0 : List Int) (kr : ((List Int) → Int → Option α)) : Option α :=
 L0.f N (a0) ((↑a0.length : Int)) N (0) (0) (fun x5 x6 x7 => kr (x7) (x5)) (fun x8 => cond (decide (0 ≤ (↑a0.length : Int)) && decide ((↑a0.length : Int) ≤ (↑a0.length : Int)) && decide ((↑a0.length : Int) ≤ 1073741824)) (L1.f N (x8) (a0) ((↑a0.length : Int)) N (0) (List.replicate (↑a0.length : Int).toNat (0 : Int)) (fun x14 => kr (x14) (0))) (none))
theorem eq (N : Nat) (a0 : List Int) : evF (C N) 50 Try.f90 an90 (smL (ents90 N) 0 50) [(((.int .i64) : K), true), ((.int .i64 : K), false)] [⟨.sl (.int .i64), a0⟩] = g N a0 (fun r0 r1 => some [.own (K.int IntKind.i64) r0, .dat (K.int IntKind.i64) r1]) := by kernel_rfl
theorem ctxOk (N : Nat) : CtxOk P (C N) := ctxOk_of tysOk mixedOk ⟨safeint_Gcd.ok, trivial⟩ trivial
theorem calls (N : Nat) (a0 : List Int) {rs : List Rs} (h : g N a0 (fun r0 r1 => some [.own (K.int IntKind.i64) r0, .dat (K.int IntKind.i64) r1]) = some rs) : CallsTo P 90 [⟨.sl (.int .i64), a0⟩] rs := evF_calls' (ctxOk N) (by rfl) (ents90_ok N) ((eq N a0).trans h)
def L0.l {α : Type} (N : Nat) (x2 : (List Int)) (k0 : (Int → Int → (List Int) → Option α)) (k1 : (Int → Option α)) : List Int → Int → Int → Option α
 | [], x4, x1 => k1 (x1)
 | x :: l, x4, x1 => (cond (x == -9223372036854775808) (k0 (3) (x1) ([])) (L0.l N x2 k0 k1 l (x4 + 1) ((safeint_Gcd.spec x1 x).fst)))
theorem L0.rng {α : Type} {N : Nat} (x2 : (List Int)) (hl : x2.length ≤ maxLen) (k0 : (Int → Int → (List Int) → Option α)) (k1 : (Int → Option α)) : ∀ (n j : Nat) (x1 : Int), x2.length < n + j → j ≤ x2.length → L0.f N x2 (x2.length : Int) n x1 (j : Int) k0 k1 = L0.l N x2 k0 k1 (x2.drop j) (j : Int) x1 :=
 rng1 x2 hl (fun n i x1 => L0.f N x2 (x2.length : Int) n x1 i k0 k1) (fun l i x1 => L0.l N x2 k0 k1 l i x1) (fun n j hj h ih x1 => by simp only [L0.f, L0.st, L0.l, h.a, h.b, h.c, h.d, h.e, Bool.true_and, Bool.and_true, Bool.and_self, cond_true, ih] <;> rfl) (fun n j h x1 => by simp only [L0.f, L0.st, L0.l, h, cond_false])
def L1.l {α : Type} (N : Nat) (x9 : Int) (x10 : (List Int)) (k0 : ((List Int) → Option α)) : List Int → Int → (List Int) → Option α
 | [], x12, x13 => k0 (x13)
 | x :: l, x12, x13 => (cond (decide (0 < x9)) (cond (!decide (x9 = 0)) (cond (decide (0 ≤ x12) && decide (x12 < (↑x13.length : Int))) (L1.l N x9 x10 k0 l (x12 + 1) (x13.set (0 + x12.toNat) (IntKind.i64.wrap (Int.tdiv x x9)))) (none)) (none)) (L1.l N x9 x10 k0 l (x12 + 1) (x13)))
theorem L1.rng {α : Type} {N : Nat} (x9 : Int) (x10 : (List Int)) (hl : x10.length ≤ maxLen) (k0 : ((List Int) → Option α)) : ∀ (n j : Nat) (x13 : (List Int)), x10.length < n + j → j ≤ x10.length → L1.f N x9 x10 (x10.length : Int) n (j : Int) x13 k0 = L1.l N x9 x10 k0 (x10.drop j) (j : Int) x13 :=
 rng1 x10 hl (fun n i x13 => L1.f N x9 x10 (x10.length : Int) n i x13 k0) (fun l i x13 => L1.l N x9 x10 k0 l i x13) (fun n j hj h ih x13 => by simp only [L1.f, L1.st, L1.l, h.a, h.b, h.c, h.d, h.e, Bool.true_and, Bool.and_true, Bool.and_self, cond_true, ih] <;> rfl) (fun n j h x13 => by simp only [L1.f, L1.st, L1.l, h, cond_false])
end vector_Prim
theorem gcd_small {g : Nat} {x : Int} (hg : (g : Int) ≤ 9223372036854775807) (hx : -9223372036854775808 < x ∧ x ≤ 9223372036854775807) : (Int.gcd g x : Int) ≤ 9223372036854775807 := by
 by_cases h0 : g = 0
 ·
  subst h0
  rw [show (Int.gcd ((0 : Nat) : Int) x) = x.natAbs by simp]
  omega
 ·
  have h1 : Int.gcd (g : Int) x ≤ g := by
   have := Int.gcd_le_natAbs_left (a := (g : Int)) x (by omega)
   simpa using this
  omega
theorem vector_Prim.L0.law {α : Type} {N : Nat} (x2 : List Int) (k0 : Int → Int → List Int → Option α) (k1 : Int → Option α) (r : Option α) (hk : ∀ z, k0 3 z [] = r) : ∀ (l : List Int) (j : Int) (g : Nat), (∀ x ∈ l, -9223372036854775808 ≤ x ∧ x ≤ 9223372036854775807) → (g : Int) ≤ 9223372036854775807 →
  vector_Prim.L0.l N x2 k0 k1 l j (g : Int) = cond (l.any fun x => x == -9223372036854775808) r (k1 (l.foldl (fun g x => Int.gcd g x) g : Nat))
 | [], j, g, _, _ => rfl
 | x :: l, j, g, hl, hg => by
  have hx := hl x (by simp)
  rw [vector_Prim.L0.l, List.any_cons, List.foldl_cons]
  cases he : x == -9223372036854775808
  ·
   have hne : x ≠ -9223372036854775808 := by simpa using he
   have h1 := gcd_small (g := g) (x := x) hg (by omega)
   have h2 : (safeint_Gcd.spec (g : Int) x).1 = (Int.gcd g x : Int) := by
    unfold safeint_Gcd.spec
    rw [chk_t (by omega)]
   rw [cond_false, h2, Bool.false_or]
   exact vector_Prim.L0.law x2 k0 k1 r hk l _ _ (fun y hy => hl y (by simp [hy])) h1
  ·
   rw [cond_true, hk]
   rfl
theorem vector_Prim.L1.law {α : Type} {N : Nat} (g : Nat) (x10 : List Int) (k0 : List Int → Option α) : ∀ (l : List Int) (j : Nat) (pre : List Int), pre.length = j → (∀ x ∈ l, -9223372036854775808 < x ∧ x ≤ 9223372036854775807) →
  vector_Prim.L1.l N (g : Int) x10 k0 l (j : Int) (pre ++ List.replicate l.length 0) = k0 (pre ++ l.map fun x => x.tdiv (g : Int))
 | [], j, pre, _, _ => by simp [vector_Prim.L1.l]
 | x :: l, j, pre, hp, hl => by
  have hx := hl x (by simp)
  have e1 : decide ((j : Int) < ((pre ++ List.replicate (x :: l).length (0 : Int)).length : Int)) = true := d_lt (by simp; omega)
  have ih := fun y => vector_Prim.L1.law (N := N) g x10 k0 l (j + 1) (pre ++ [y]) (by simp [hp]) (fun z hz => hl z (by simp [hz]))
  simp only [List.append_assoc, List.singleton_append] at ih
  rw [vector_Prim.L1.l, e1]
  by_cases hg : g = 0
  ·
   subst hg
   have := ih 0
   simp only [Int.ofNat_zero, Int.lt_irrefl, decide_false, cond_false, List.length_cons, List.replicate_succ, ← succ_cast, Int.tdiv_zero] at this ⊢
   rw [this]
   simp
  ·
   rw [decide_eq_true (by omega : (0 : Int) < (g : Int)), decide_eq_false (by omega : ¬ (g : Int) = 0), d_0]
   have hw : IntKind.i64.wrap (x.tdiv (g : Int)) = x.tdiv (g : Int) := by
    have : (x.tdiv (g : Int)).natAbs ≤ x.natAbs := by rw [Int.natAbs_tdiv]; exact Nat.div_le_self _ _
    exact wrap_i64 (inI_i64.2 (by omega))
   simp only [Bool.not_false, cond_true, Bool.and_self, Nat.zero_add, Int.toNat_natCast, List.length_cons, List.replicate_succ, hw]
   rw [set_mid pre _ 0 _ hp, ← succ_cast, ih]
   simp
theorem vector_Prim.law {α : Type} {N : Nat} (hN : 18446744073709551616 ≤ N) (a0 : List Int) (w0 : K.wf (.sl (.int .i64)) a0) (hp : vector_Prim.pre a0 = true) (kr : ((List Int) → Int → Option α)) : vector_Prim.g N a0 kr = kr (vector_Prim.spec a0).1 (vector_Prim.spec a0).2 := by
 unfold vector_Prim.g vector_Prim.spec primS
 simp only [vector_Prim.pre, bigL, decide_eq_true_eq] at hp
 have hr : ∀ x ∈ a0, -9223372036854775808 ≤ x ∧ x ≤ 9223372036854775807 := fun x hx => inI_i64.1 (w0.2 x hx)
 refine (vector_Prim.L0.rng (N := N) _ (w0.1) _ _ N 0 _ (by have := le_fuel (w0.1) hN; omega) (Nat.zero_le _)).trans ?_
 rw [List.drop_zero]
 refine (vector_Prim.L0.law (N := N) a0 _ _ (kr [] 3) (fun _ => rfl) a0 0 0 hr (by decide)).trans ?_
 cases ha : a0.any fun x => x == -9223372036854775808
 ·
  simp only [cond_false]
  have e1 : decide ((a0.length : Int) ≤ 1073741824) = true := decide_eq_true (by omega)
  simp only [d_0, e1, Int.le_refl, decide_true, Bool.and_self, cond_true, Int.toNat_natCast]
  refine (vector_Prim.L1.rng (N := N) _ _ (w0.1) _ N 0 _ (by have := le_fuel (w0.1) hN; omega) (Nat.zero_le _)).trans ?_
  rw [List.drop_zero]
  refine (vector_Prim.L1.law (N := N) (gcdL a0) a0 _ a0 0 [] rfl fun x hx => ?_).trans rfl
  have h1 := hr x hx
  have h2 := List.any_eq_false.1 ha x hx
  simp at h2
  omega
 ·
  rfl
theorem vector_Prim.ok : FentOk P 90 vector_Prim.fent := fentOk_of (by kernel_rfl) fun ds hk => by
 obtain ⟨a0, l0, rfl, h0⟩ := ds_cons hk
 obtain rfl := ds0 h0
 exact ⟨vector_Prim.pre a0, [.own (.int .i64) (vector_Prim.spec a0).1, .dat (.int .i64) (vector_Prim.spec a0).2], fun h hw => vector_Prim.calls 18446744073709551616 a0 (vector_Prim.law (Nat.le_refl _) a0 hw.1 h _), fun α k => rfl⟩
end Go.VI
namespace Go.VI
open Go Go.Proofs
namespace semiflow_join
def an64 : Ann := []
def ents64 {α : Type} (N : Nat) : List (SmE α) := []
def C (N : Nat) : Ctx := ⟨tys, [(89, vector_Combine.fent), (90, vector_Prim.fent)], [], N⟩
theorem ents64_ok {α : Type} (N : Nat) : AllP (EntOk (C N) Try.f64 an64 (ents64 (α := α) N)) (ents64 N) := trivial
def g {α : Type} (N : Nat) (a0 : List Int × Int) (a1 : List Int × Int) (a2 : Int) (kr : ((List Int × Int) → Int → Option α)) : Option α :=
 cond (decide (0 ≤ a2) && decide (a2 < (↑(List.length a0.fst) : Int))) (cond (decide (0 ≤ a2) && decide (a2 < (↑(List.length a1.fst) : Int))) (cond (IntKind.i64.wrap (0 - List.getD a1.fst a2.toNat (0 : Int)) == List.getD a1.fst a2.toNat (0 : Int)) (kr (([], 0)) (3)) (cond (vector_Combine.pre a0.fst (IntKind.i64.wrap (0 - List.getD a1.fst a2.toNat (0 : Int))) a1.fst (List.getD a0.fst a2.toNat (0 : Int))) (lt (vector_Combine.spec a0.fst (IntKind.i64.wrap (0 - List.getD a1.fst a2.toNat (0 : Int))) a1.fst (List.getD a0.fst a2.toNat (0 : Int))) fun v0 => cond (v0.snd != 0) (kr (([], 0)) (v0.snd)) (cond (vector_Prim.pre v0.fst) (kr (((vector_Prim.spec v0.fst).fst, a0.snd)) ((vector_Prim.spec v0.fst).snd)) (none))) (none))) (none)) (none)
theorem eq (N : Nat) (a0 : List Int × Int) (a1 : List Int × Int) (a2 : Int) : evF (C N) 50 Try.f64 an64 (smL (ents64 N) 0 50) [((.st (.pr (.sl (.int .i64)) (.int .i64)) : K), false), ((.int .i64 : K), false)] [⟨.st (.pr (.sl (.int .i64)) (.int .i64)), a0⟩, ⟨.st (.pr (.sl (.int .i64)) (.int .i64)), a1⟩, ⟨.int .i64, a2⟩] = g N a0 a1 a2 (fun r0 r1 => some [.dat (((K.int IntKind.i64).sl.pr (K.int IntKind.i64)).st) r0, .dat (K.int IntKind.i64) r1]) := by kernel_rfl
theorem ctxOk (N : Nat) : CtxOk P (C N) := ctxOk_of tysOk mixedOk ⟨vector_Combine.ok, vector_Prim.ok, trivial⟩ trivial
theorem calls (N : Nat) (a0 : List Int × Int) (a1 : List Int × Int) (a2 : Int) {rs : List Rs} (h : g N a0 a1 a2 (fun r0 r1 => some [.dat (((K.int IntKind.i64).sl.pr (K.int IntKind.i64)).st) r0, .dat (K.int IntKind.i64) r1]) = some rs) : CallsTo P 64 [⟨.st (.pr (.sl (.int .i64)) (.int .i64)), a0⟩, ⟨.st (.pr (.sl (.int .i64)) (.int .i64)), a1⟩, ⟨.int .i64, a2⟩] rs := evF_calls' (ctxOk N) (by rfl) (ents64_ok N) ((eq N a0 a1 a2).trans h)
end semiflow_join
theorem semiflow_join.law {α : Type} {N : Nat} (hN : 18446744073709551616 ≤ N) (a0 : List Int × Int) (a1 : List Int × Int) (a2 : Int) (w0 : K.wf (.st (.pr (.sl (.int .i64)) (.int .i64))) a0) (w1 : K.wf (.st (.pr (.sl (.int .i64)) (.int .i64))) a1) (w2 : K.wf (.int .i64) a2) (hp : semiflow_join.pre a0 a1 a2 = true) (kr : ((List Int × Int) → Int → Option α)) : semiflow_join.g N a0 a1 a2 kr = kr (semiflow_join.spec a0 a1 a2).1 (semiflow_join.spec a0 a1 a2).2 := by
 unfold semiflow_join.g semiflow_join.spec joinS
 simp only [semiflow_join.pre, Bool.and_eq_true] at hp
 obtain ⟨⟨⟨h1, h2⟩, h3⟩, h4⟩ := hp
 have hl : (combS a0.1 (-(a1.1.getD a2.toNat 0)) a1.1 (a0.1.getD a2.toNat 0)).1.length ≤ a0.1.length := by
  have : ∀ (xs ys q : List Int) (i k : Int), combL i k xs ys = some q → q.length ≤ xs.length := fun xs => by
   induction xs with
   | nil => intro ys q i k h; cases ys <;> (simp only [combL, Option.some.injEq] at h; subst h; simp)
   | cons x xs ih =>
    intro ys q i k h
    cases ys with
    | nil => simp only [combL, Option.some.injEq] at h; subst h; simp
    | cons y ys =>
     simp only [combL] at h
     split at h
     ·
      cases hq : combL i k xs ys with
      | none => rw [hq] at h; cases h
      | some r =>
       rw [hq] at h
       simp only [Option.map_some, Option.some.injEq] at h
       subst h
       have := ih ys r i k hq
       simp; omega
     ·
      cases h
  unfold combS
  cases Nat.beq a0.1.length a1.1.length
  ·
   simp
  ·
   simp only [cond_true]
   cases hq : combL (-(a1.1.getD a2.toNat 0)) (a0.1.getD a2.toNat 0) a0.1 a1.1 with
   | none => simp
   | some q => exact this _ _ _ _ _ hq
 have hm : List.getD a1.1 a2.toNat 0 ∈ a1.1 := by
  have := of_decide_eq_true h3
  have := of_decide_eq_true h1
  have hj : a2.toNat < a1.1.length := by omega
  rw [getD_n hj]
  exact List.getElem_mem hj
 have hy := inI_i64.1 (w1.1.2 _ hm)
 rw [h1, h2, h3]
 simp only [Bool.and_self, cond_true]
 generalize hyy : List.getD a1.1 a2.toNat 0 = y at *
 by_cases hy0 : y = 0 ∨ y = -9223372036854775808
 ·
  have e1 : (IntKind.i64.wrap (0 - y) == y) = true := by
   rcases hy0 with rfl | rfl <;> decide
  have e2 : (decide (y = 0) || decide (y = -9223372036854775808)) = true := by simpa using hy0
  rw [e1, e2]
  rfl
 ·
  have hne : y ≠ 0 ∧ y ≠ -9223372036854775808 := ⟨fun h => hy0 (.inl h), fun h => hy0 (.inr h)⟩
  have ew : IntKind.i64.wrap (0 - y) = -y := by rw [wrap_i64 (inI_i64.2 (by omega))]; omega
  have e1 : (-y == y) = false := by simp; omega
  have e2 : (decide (y = 0) || decide (y = -9223372036854775808)) = false := by simpa using hne
  have hb : a0.1.length ≤ 1073741824 := by simpa [bigL] using h4
  have e3 : vector_Prim.pre (combS a0.1 (-y) a1.1 (a0.1.getD a2.toNat 0)).1 = true := by unfold vector_Prim.pre bigL; exact decide_eq_true (by omega)
  have e4 : vector_Combine.pre a0.1 (-y) a1.1 (a0.1.getD a2.toNat 0) = true := h4
  simp only [lt, ew, e1, e2, e4, cond_false, cond_true, vector_Combine.spec, vector_Prim.spec, e3, bne]
  cases (combS a0.1 (-y) a1.1 (a0.1.getD a2.toNat 0)).2 == 0 <;> rfl
theorem semiflow_join.ok : FentOk P 64 semiflow_join.fent := fentOk_of (by kernel_rfl) fun ds hk => by
 obtain ⟨a0, l0, rfl, h0⟩ := ds_cons hk
 obtain ⟨a1, l1, rfl, h1⟩ := ds_cons h0
 obtain ⟨a2, l2, rfl, h2⟩ := ds_cons h1
 obtain rfl := ds0 h2
 exact ⟨semiflow_join.pre a0 a1 a2, [.dat (.st (.pr (.sl (.int .i64)) (.int .i64))) (semiflow_join.spec a0 a1 a2).1, .dat (.int .i64) (semiflow_join.spec a0 a1 a2).2], fun h hw => semiflow_join.calls 18446744073709551616 a0 a1 a2 (semiflow_join.law (Nat.le_refl _) a0 a1 a2 hw.1 hw.2.1 hw.2.2.1 h _), fun α k => rfl⟩
end Go.VI
namespace Go.VI
open Go Go.Proofs
namespace semiflow_step
def an38 : Ann := []
def an60 : Ann := [(2, [0, 1, 3, 11, 12, 13, 2047], [6, 2047])]
def an61 : Ann := []
def an62 : Ann := []
def an63 : Ann := []
def L0.sh : Sh := { sl := [(0, SV.a (SA.d (K.int IntKind.i64))), (1, SV.a (SA.fx (Atom.fn 61 [2]))), (3, SV.a (SA.fx (Atom.box 1 0))), (11, SV.a (SA.d ((K.int IntKind.i64).sl.pr (K.int IntKind.i64)).st.sl)), (12, SV.a (SA.d (K.int IntKind.i64))), (13, SV.a (SA.d (K.int IntKind.i64))), (2047, SV.j)], os := [(4, SO.row ((K.int IntKind.i64).sl.pr (K.int IntKind.i64)).st 0), (3, SO.box [SA.fx (Atom.fn 60 [0, 1])]), (2, SO.box [SA.fx (Atom.sl 4 0 none)]), (1, SO.box [SA.d (K.int IntKind.i64)]), (0, SO.box [SA.d ((K.int IntKind.i64).sl.pr (K.int IntKind.i64)).st.sl])], nx := 6 }
def L0.x0 : Sh := { sl := [(6, SV.j), (2047, SV.j)], os := [(4, SO.row ((K.int IntKind.i64).sl.pr (K.int IntKind.i64)).st 0), (3, SO.box [SA.fx (Atom.fn 60 [0, 1])]), (2, SO.box [SA.fx (Atom.sl 4 0 none)]), (1, SO.box [SA.d (K.int IntKind.i64)]), (0, SO.box [SA.d ((K.int IntKind.i64).sl.pr (K.int IntKind.i64)).st.sl])], nx := 6 }
def L0.st {α : Type} (N : Nat) (x0 : Int) (x1 : (List (List Int × Int))) (x2 : Int) (x5 : Int) (φ : (Int → (List (List Int × Int)) → Option α)) (x3 : Int) (x4 : (List (List Int × Int))) (k0 : ((List (List Int × Int)) → Option α)) : Option α :=
 cond (decide (x3 < x2)) (cond (decide (0 ≤ x3) && decide (x3 < (↑x1.length : Int))) (cond (decide (0 ≤ x5) && decide (x5 < (↑(List.length (x1.getD x3.toNat ([], 0)).fst) : Int))) (cond (List.getD (x1.getD x3.toNat ([], 0)).fst x5.toNat 0 == 0) (cond (x0 == 0) (cond ((x4.length + 1).ble mxl) (φ (IntKind.i64.wrap (x3 + 1)) (x4 ++ [x1.getD x3.toNat ([], 0)])) (none)) (cond (decide (0 < List.getD (x1.getD x3.toNat ([], 0)).fst x5.toNat (0 : Int))) (cond (decide (0 < x0)) (cond ((x4.length + 1).ble mxl) (φ (IntKind.i64.wrap (x3 + 1)) (x4 ++ [x1.getD x3.toNat ([], 0)])) (none)) (cond (decide (List.getD (x1.getD x3.toNat ([], 0)).fst x5.toNat 0 < 0)) (cond (decide (x0 < 0)) (cond ((x4.length + 1).ble mxl) (φ (IntKind.i64.wrap (x3 + 1)) (x4 ++ [x1.getD x3.toNat ([], 0)])) (none)) (φ (IntKind.i64.wrap (x3 + 1)) (x4))) (φ (IntKind.i64.wrap (x3 + 1)) (x4)))) (cond (decide (List.getD (x1.getD x3.toNat ([], 0)).fst x5.toNat 0 < 0)) (cond (decide (x0 < 0)) (cond ((x4.length + 1).ble mxl) (φ (IntKind.i64.wrap (x3 + 1)) (x4 ++ [x1.getD x3.toNat ([], 0)])) (none)) (φ (IntKind.i64.wrap (x3 + 1)) (x4))) (φ (IntKind.i64.wrap (x3 + 1)) (x4))))) (cond (decide (0 < List.getD (x1.getD x3.toNat ([], 0)).fst x5.toNat (0 : Int))) (cond (decide (0 < x0)) (cond ((x4.length + 1).ble mxl) (φ (IntKind.i64.wrap (x3 + 1)) (x4 ++ [x1.getD x3.toNat ([], 0)])) (none)) (cond (decide (List.getD (x1.getD x3.toNat ([], 0)).fst x5.toNat 0 < 0)) (cond (decide (x0 < 0)) (cond ((x4.length + 1).ble mxl) (φ (IntKind.i64.wrap (x3 + 1)) (x4 ++ [x1.getD x3.toNat ([], 0)])) (none)) (φ (IntKind.i64.wrap (x3 + 1)) (x4))) (φ (IntKind.i64.wrap (x3 + 1)) (x4)))) (cond (decide (List.getD (x1.getD x3.toNat ([], 0)).fst x5.toNat 0 < 0)) (cond (decide (x0 < 0)) (cond ((x4.length + 1).ble mxl) (φ (IntKind.i64.wrap (x3 + 1)) (x4 ++ [x1.getD x3.toNat ([], 0)])) (none)) (φ (IntKind.i64.wrap (x3 + 1)) (x4))) (φ (IntKind.i64.wrap (x3 + 1)) (x4))))) (none)) (none)) (k0 (x4))
def L0.f {α : Type} (N : Nat) (c0 : Int) (c1 : (List (List Int × Int))) (c2 : Int) (c3 : Int) : Nat → Int → (List (List Int × Int)) → ((List (List Int × Int)) → Option α) → Option α
 | 0, _, _, _ => none
 | n + 1, d0, d1, k0 => L0.st N c0 c1 c2 c3 (fun e0 e1 => L0.f N c0 c1 c2 c3 n e0 e1 k0) d0 d1 k0
def L0.up (d : L0.sh.T) (e0 : Int) (e1 : (List (List Int × Int))) : L0.sh.T := ((d.1.1, ((), ((), (d.1.2.2.2.1, (d.1.2.2.2.2.1, (e0, ((), ()))))))), (e1, (((), ()), (((), ()), ((d.2.2.2.2.1.1, ()), ((d.2.2.2.2.2.1.1, ()), ()))))))
def L0.k0 {α : Type} (d : L0.sh.T) (K : Cont α) : ((List (List Int × Int)) → Option α) := fun y0 => K (Exit.exit 0) (L0.x0.enc (((), ((), ())), (y0, (((), ()), (((), ()), ((d.2.2.2.2.1.1, ()), ((d.2.2.2.2.2.1.1, ()), ())))))))
def L0.F {α : Type} (N : Nat) (d : L0.sh.T) (K : Cont α) : Option α := L0.f N d.1.1 d.1.2.2.2.1 d.1.2.2.2.2.1 d.2.2.2.2.1.1 N d.1.2.2.2.2.2.1 d.2.1 (L0.k0 d K)
def L1.sh : Sh := { sl := [(0, SV.a (SA.d (K.int IntKind.i64))), (1, SV.a (SA.fx (Atom.fn 63 [8, 1, 2]))), (3, SV.a (SA.fx (Atom.box 1 0))), (11, SV.a (SA.d ((K.int IntKind.i64).sl.pr (K.int IntKind.i64)).st.sl)), (12, SV.a (SA.d (K.int IntKind.i64))), (13, SV.a (SA.d (K.int IntKind.i64))), (2047, SV.j)], os := [(8, SO.box [SA.d (K.int IntKind.i64).sl, SA.d (K.int IntKind.i64)]), (7, SO.box [SA.d (K.int IntKind.i64).sl, SA.d (K.int IntKind.i64)]), (4, SO.row ((K.int IntKind.i64).sl.pr (K.int IntKind.i64)).st 9), (3, SO.box [SA.fx (Atom.fn 60 [0, 1])]), (2, SO.box [SA.fx (Atom.sl 4 9 none)]), (1, SO.box [SA.d (K.int IntKind.i64)]), (0, SO.box [SA.d ((K.int IntKind.i64).sl.pr (K.int IntKind.i64)).st.sl])], nx := 10 }
def L1.x0 : Sh := { sl := [(6, SV.a (SA.d (K.int IntKind.i64))), (2047, SV.j)], os := [(8, SO.box [SA.d (K.int IntKind.i64).sl, SA.d (K.int IntKind.i64)]), (7, SO.box [SA.d (K.int IntKind.i64).sl, SA.d (K.int IntKind.i64)]), (4, SO.row ((K.int IntKind.i64).sl.pr (K.int IntKind.i64)).st 9), (3, SO.box [SA.fx (Atom.fn 60 [0, 1])]), (2, SO.box [SA.fx (Atom.sl 4 9 none)]), (1, SO.box [SA.d (K.int IntKind.i64)]), (0, SO.box [SA.d ((K.int IntKind.i64).sl.pr (K.int IntKind.i64)).st.sl])], nx := 10 }
def L1.x1 : Sh := { sl := [(6, SV.j), (2047, SV.j)], os := [(8, SO.box [SA.d (K.int IntKind.i64).sl, SA.d (K.int IntKind.i64)]), (7, SO.box [SA.d (K.int IntKind.i64).sl, SA.d (K.int IntKind.i64)]), (4, SO.row ((K.int IntKind.i64).sl.pr (K.int IntKind.i64)).st 9), (3, SO.box [SA.fx (Atom.fn 60 [0, 1])]), (2, SO.box [SA.fx (Atom.sl 4 9 none)]), (1, SO.box [SA.d (K.int IntKind.i64)]), (0, SO.box [SA.d ((K.int IntKind.i64).sl.pr (K.int IntKind.i64)).st.sl])], nx := 10 }
def L1.st {α : Type} (N : Nat) (x15 : Int) (x16 : (List (List Int × Int))) (x17 : Int) (x19 : (List Int)) (x20 : Int) (x24 : Int) (φ : (Int → (List (List Int × Int)) → Option α)) (x18 : Int) (x23 : (List (List Int × Int))) (k0 : (Int → (List (List Int × Int)) → Option α)) (k1 : ((List (List Int × Int)) → Option α)) : Option α :=
 cond (decide (x18 < x17)) (cond (decide (0 ≤ x18) && decide (x18 < (↑x16.length : Int))) (cond (decide (0 ≤ x24) && decide (x24 < (↑(List.length (x16.getD x18.toNat ([], 0)).fst) : Int))) (cond (List.getD (x16.getD x18.toNat ([], 0)).fst x24.toNat 0 == 0) (cond (x15 == 0) (cond (semiflow_join.pre (x19, x20) (x16.getD x18.toNat ([], 0)) x24) (lt (semiflow_join.spec (x19, x20) (x16.getD x18.toNat ([], 0)) x24) fun v0 => cond ((x23.length + 1).ble mxl) (cond (v0.snd == 0) (cond (decide (2000 < (↑(List.length (x23 ++ [v0.fst])) : Int))) (k0 (14) (x23 ++ [v0.fst])) (cond (v0.snd != 0) (k0 (v0.snd) (x23 ++ [v0.fst])) (φ (IntKind.i64.wrap (x18 + 1)) (x23 ++ [v0.fst])))) (cond (v0.snd != 0) (k0 (v0.snd) (x23 ++ [v0.fst])) (φ (IntKind.i64.wrap (x18 + 1)) (x23 ++ [v0.fst])))) (none)) (none)) (cond (decide (0 < List.getD (x16.getD x18.toNat ([], 0)).fst x24.toNat (0 : Int))) (cond (decide (0 < x15)) (cond (semiflow_join.pre (x19, x20) (x16.getD x18.toNat ([], 0)) x24) (lt (semiflow_join.spec (x19, x20) (x16.getD x18.toNat ([], 0)) x24) fun v1 => cond ((x23.length + 1).ble mxl) (cond (v1.snd == 0) (cond (decide (2000 < (↑(List.length (x23 ++ [v1.fst])) : Int))) (k0 (14) (x23 ++ [v1.fst])) (cond (v1.snd != 0) (k0 (v1.snd) (x23 ++ [v1.fst])) (φ (IntKind.i64.wrap (x18 + 1)) (x23 ++ [v1.fst])))) (cond (v1.snd != 0) (k0 (v1.snd) (x23 ++ [v1.fst])) (φ (IntKind.i64.wrap (x18 + 1)) (x23 ++ [v1.fst])))) (none)) (none)) (cond (decide (List.getD (x16.getD x18.toNat ([], 0)).fst x24.toNat 0 < 0)) (cond (decide (x15 < 0)) (cond (semiflow_join.pre (x19, x20) (x16.getD x18.toNat ([], 0)) x24) (lt (semiflow_join.spec (x19, x20) (x16.getD x18.toNat ([], 0)) x24) fun v2 => cond ((x23.length + 1).ble mxl) (cond (v2.snd == 0) (cond (decide (2000 < (↑(List.length (x23 ++ [v2.fst])) : Int))) (k0 (14) (x23 ++ [v2.fst])) (cond (v2.snd != 0) (k0 (v2.snd) (x23 ++ [v2.fst])) (φ (IntKind.i64.wrap (x18 + 1)) (x23 ++ [v2.fst])))) (cond (v2.snd != 0) (k0 (v2.snd) (x23 ++ [v2.fst])) (φ (IntKind.i64.wrap (x18 + 1)) (x23 ++ [v2.fst])))) (none)) (none)) (φ (IntKind.i64.wrap (x18 + 1)) (x23))) (φ (IntKind.i64.wrap (x18 + 1)) (x23)))) (cond (decide (List.getD (x16.getD x18.toNat ([], 0)).fst x24.toNat 0 < 0)) (cond (decide (x15 < 0)) (cond (semiflow_join.pre (x19, x20) (x16.getD x18.toNat ([], 0)) x24) (lt (semiflow_join.spec (x19, x20) (x16.getD x18.toNat ([], 0)) x24) fun v3 => cond ((x23.length + 1).ble mxl) (cond (v3.snd == 0) (cond (decide (2000 < (↑(List.length (x23 ++ [v3.fst])) : Int))) (k0 (14) (x23 ++ [v3.fst])) (cond (v3.snd != 0) (k0 (v3.snd) (x23 ++ [v3.fst])) (φ (IntKind.i64.wrap (x18 + 1)) (x23 ++ [v3.fst])))) (cond (v3.snd != 0) (k0 (v3.snd) (x23 ++ [v3.fst])) (φ (IntKind.i64.wrap (x18 + 1)) (x23 ++ [v3.fst])))) (none)) (none)) (φ (IntKind.i64.wrap (x18 + 1)) (x23))) (φ (IntKind.i64.wrap (x18 + 1)) (x23))))) (cond (decide (0 < List.getD (x16.getD x18.toNat ([], 0)).fst x24.toNat (0 : Int))) (cond (decide (0 < x15)) (cond (semiflow_join.pre (x19, x20) (x16.getD x18.toNat ([], 0)) x24) (lt (semiflow_join.spec (x19, x20) (x16.getD x18.toNat ([], 0)) x24) fun v4 => cond ((x23.length + 1).ble mxl) (cond (v4.snd == 0) (cond (decide (2000 < (↑(List.length (x23 ++ [v4.fst])) : Int))) (k0 (14) (x23 ++ [v4.fst])) (cond (v4.snd != 0) (k0 (v4.snd) (x23 ++ [v4.fst])) (φ (IntKind.i64.wrap (x18 + 1)) (x23 ++ [v4.fst])))) (cond (v4.snd != 0) (k0 (v4.snd) (x23 ++ [v4.fst])) (φ (IntKind.i64.wrap (x18 + 1)) (x23 ++ [v4.fst])))) (none)) (none)) (cond (decide (List.getD (x16.getD x18.toNat ([], 0)).fst x24.toNat 0 < 0)) (cond (decide (x15 < 0)) (cond (semiflow_join.pre (x19, x20) (x16.getD x18.toNat ([], 0)) x24) (lt (semiflow_join.spec (x19, x20) (x16.getD x18.toNat ([], 0)) x24) fun v5 => cond ((x23.length + 1).ble mxl) (cond (v5.snd == 0) (cond (decide (2000 < (↑(List.length (x23 ++ [v5.fst])) : Int))) (k0 (14) (x23 ++ [v5.fst])) (cond (v5.snd != 0) (k0 (v5.snd) (x23 ++ [v5.fst])) (φ (IntKind.i64.wrap (x18 + 1)) (x23 ++ [v5.fst])))) (cond (v5.snd != 0) (k0 (v5.snd) (x23 ++ [v5.fst])) (φ (IntKind.i64.wrap (x18 + 1)) (x23 ++ [v5.fst])))) (none)) (none)) (φ (IntKind.i64.wrap (x18 + 1)) (x23))) (φ (IntKind.i64.wrap (x18 + 1)) (x23)))) (cond (decide (List.getD (x16.getD x18.toNat ([], 0)).fst x24.toNat 0 < 0)) (cond (decide (x15 < 0)) (cond (semiflow_join.pre (x19, x20) (x16.getD x18.toNat ([], 0)) x24) (lt (semiflow_join.spec (x19, x20) (x16.getD x18.toNat ([], 0)) x24) fun v6 => cond ((x23.length + 1).ble mxl) (cond (v6.snd == 0) (cond (decide (2000 < (↑(List.length (x23 ++ [v6.fst])) : Int))) (k0 (14) (x23 ++ [v6.fst])) (cond (v6.snd != 0) (k0 (v6.snd) (x23 ++ [v6.fst])) (φ (IntKind.i64.wrap (x18 + 1)) (x23 ++ [v6.fst])))) (cond (v6.snd != 0) (k0 (v6.snd) (x23 ++ [v6.fst])) (φ (IntKind.i64.wrap (x18 + 1)) (x23 ++ [v6.fst])))) (none)) (none)) (φ (IntKind.i64.wrap (x18 + 1)) (x23))) (φ (IntKind.i64.wrap (x18 + 1)) (x23))))) (none)) (none)) (k1 (x23))
def L1.f {α : Type} (N : Nat) (c0 : Int) (c1 : (List (List Int × Int))) (c2 : Int) (c3 : (List Int)) (c4 : Int) (c7 : Int) : Nat → Int → (List (List Int × Int)) → (Int → (List (List Int × Int)) → Option α) → ((List (List Int × Int)) → Option α) → Option α
 | 0, _, _, _, _ => none
 | n + 1, d0, d1, k0, k1 => L1.st N c0 c1 c2 c3 c4 c7 (fun e0 e1 => L1.f N c0 c1 c2 c3 c4 c7 n e0 e1 k0 k1) d0 d1 k0 k1
def L1.up (d : L1.sh.T) (e0 : Int) (e1 : (List (List Int × Int))) : L1.sh.T := ((d.1.1, ((), ((), (d.1.2.2.2.1, (d.1.2.2.2.2.1, (e0, ((), ()))))))), ((d.2.1.1, (d.2.1.2.1, ())), ((d.2.2.1.1, (d.2.2.1.2.1, ())), (e1, (((), ()), (((), ()), ((d.2.2.2.2.2.2.1.1, ()), ((d.2.2.2.2.2.2.2.1.1, ()), ()))))))))
def L1.k0 {α : Type} (d : L1.sh.T) (K : Cont α) : (Int → (List (List Int × Int)) → Option α) := fun y0 y1 => K (Exit.ret) (L1.x0.enc ((y0, ((), ())), ((d.2.1.1, (d.2.1.2.1, ())), ((d.2.2.1.1, (d.2.2.1.2.1, ())), (y1, (((), ()), (((), ()), ((d.2.2.2.2.2.2.1.1, ()), ((d.2.2.2.2.2.2.2.1.1, ()), ())))))))))
def L1.k1 {α : Type} (d : L1.sh.T) (K : Cont α) : ((List (List Int × Int)) → Option α) := fun y0 => K (Exit.exit 0) (L1.x1.enc (((), ((), ())), ((d.2.1.1, (d.2.1.2.1, ())), ((d.2.2.1.1, (d.2.2.1.2.1, ())), (y0, (((), ()), (((), ()), ((d.2.2.2.2.2.2.1.1, ()), ((d.2.2.2.2.2.2.2.1.1, ()), ())))))))))
def L1.F {α : Type} (N : Nat) (d : L1.sh.T) (K : Cont α) : Option α := L1.f N d.1.1 d.1.2.2.2.1 d.1.2.2.2.2.1 d.2.1.1 d.2.1.2.1 d.2.2.2.2.2.2.1.1 N d.1.2.2.2.2.2.1 d.2.2.2.1 (L1.k0 d K) (L1.k1 d K)
def L2.sh : Sh := { sl := [(0, SV.a (SA.d (K.int IntKind.i64))), (1, SV.a (SA.fx (Atom.fn 62 [3, 1, 2]))), (3, SV.a (SA.fx (Atom.box 1 0))), (11, SV.a (SA.d ((K.int IntKind.i64).sl.pr (K.int IntKind.i64)).st.sl)), (12, SV.a (SA.d (K.int IntKind.i64))), (13, SV.a (SA.d (K.int IntKind.i64))), (2047, SV.j)], os := [(4, SO.row ((K.int IntKind.i64).sl.pr (K.int IntKind.i64)).st 6), (3, SO.box [SA.fx (Atom.fn 60 [0, 1])]), (2, SO.box [SA.fx (Atom.sl 4 6 none)]), (1, SO.box [SA.d (K.int IntKind.i64)]), (0, SO.box [SA.d ((K.int IntKind.i64).sl.pr (K.int IntKind.i64)).st.sl])], nx := 7 }
def L2.x0 : Sh := { sl := [(6, SV.a (SA.d (K.int IntKind.i64))), (2047, SV.j)], os := [(4, SO.row ((K.int IntKind.i64).sl.pr (K.int IntKind.i64)).st 6), (3, SO.box [SA.fx (Atom.fn 60 [0, 1])]), (2, SO.box [SA.fx (Atom.sl 4 6 none)]), (1, SO.box [SA.d (K.int IntKind.i64)]), (0, SO.box [SA.d ((K.int IntKind.i64).sl.pr (K.int IntKind.i64)).st.sl])], nx := 7 }
def L2.x1 : Sh := { sl := [(6, SV.j), (2047, SV.j)], os := [(4, SO.row ((K.int IntKind.i64).sl.pr (K.int IntKind.i64)).st 6), (3, SO.box [SA.fx (Atom.fn 60 [0, 1])]), (2, SO.box [SA.fx (Atom.sl 4 6 none)]), (1, SO.box [SA.d (K.int IntKind.i64)]), (0, SO.box [SA.d ((K.int IntKind.i64).sl.pr (K.int IntKind.i64)).st.sl])], nx := 7 }
def L2.st {α : Type} (N : Nat) (x8 : Int) (x9 : (List (List Int × Int))) (x10 : Int) (x13 : Int) (x14 : (List (List Int × Int))) (φ : (Int → (List (List Int × Int)) → Option α)) (x11 : Int) (x12 : (List (List Int × Int))) (k0 : (Int → (List (List Int × Int)) → Option α)) (k1 : ((List (List Int × Int)) → Option α)) : Option α :=
 cond (decide (x11 < x10)) (cond (decide (0 ≤ x11) && decide (x11 < (↑x9.length : Int))) (cond (decide (0 ≤ x13) && decide (x13 < (↑(List.length (x9.getD x11.toNat ([], 0)).fst) : Int))) (cond (List.getD (x9.getD x11.toNat ([], 0)).fst x13.toNat 0 == 0) (cond (x8 == 0) (L1.f N (-1) (x14) ((↑x14.length : Int)) ((x9.getD x11.toNat ([], 0)).fst) ((x9.getD x11.toNat ([], 0)).snd) (x13) N (0) (x12) (fun x26 x27 => cond (x26 != 0) (k0 (x26) (x27)) (φ (IntKind.i64.wrap (x11 + 1)) (x27))) (fun x28 => φ (IntKind.i64.wrap (x11 + 1)) (x28))) (cond (decide (0 < List.getD (x9.getD x11.toNat ([], 0)).fst x13.toNat (0 : Int))) (cond (decide (0 < x8)) (L1.f N (-1) (x14) ((↑x14.length : Int)) ((x9.getD x11.toNat ([], 0)).fst) ((x9.getD x11.toNat ([], 0)).snd) (x13) N (0) (x12) (fun x29 x30 => cond (x29 != 0) (k0 (x29) (x30)) (φ (IntKind.i64.wrap (x11 + 1)) (x30))) (fun x31 => φ (IntKind.i64.wrap (x11 + 1)) (x31))) (cond (decide (List.getD (x9.getD x11.toNat ([], 0)).fst x13.toNat 0 < 0)) (cond (decide (x8 < 0)) (L1.f N (-1) (x14) ((↑x14.length : Int)) ((x9.getD x11.toNat ([], 0)).fst) ((x9.getD x11.toNat ([], 0)).snd) (x13) N (0) (x12) (fun x32 x33 => cond (x32 != 0) (k0 (x32) (x33)) (φ (IntKind.i64.wrap (x11 + 1)) (x33))) (fun x34 => φ (IntKind.i64.wrap (x11 + 1)) (x34))) (φ (IntKind.i64.wrap (x11 + 1)) (x12))) (φ (IntKind.i64.wrap (x11 + 1)) (x12)))) (cond (decide (List.getD (x9.getD x11.toNat ([], 0)).fst x13.toNat 0 < 0)) (cond (decide (x8 < 0)) (L1.f N (-1) (x14) ((↑x14.length : Int)) ((x9.getD x11.toNat ([], 0)).fst) ((x9.getD x11.toNat ([], 0)).snd) (x13) N (0) (x12) (fun x35 x36 => cond (x35 != 0) (k0 (x35) (x36)) (φ (IntKind.i64.wrap (x11 + 1)) (x36))) (fun x37 => φ (IntKind.i64.wrap (x11 + 1)) (x37))) (φ (IntKind.i64.wrap (x11 + 1)) (x12))) (φ (IntKind.i64.wrap (x11 + 1)) (x12))))) (cond (decide (0 < List.getD (x9.getD x11.toNat ([], 0)).fst x13.toNat (0 : Int))) (cond (decide (0 < x8)) (L1.f N (-1) (x14) ((↑x14.length : Int)) ((x9.getD x11.toNat ([], 0)).fst) ((x9.getD x11.toNat ([], 0)).snd) (x13) N (0) (x12) (fun x38 x39 => cond (x38 != 0) (k0 (x38) (x39)) (φ (IntKind.i64.wrap (x11 + 1)) (x39))) (fun x40 => φ (IntKind.i64.wrap (x11 + 1)) (x40))) (cond (decide (List.getD (x9.getD x11.toNat ([], 0)).fst x13.toNat 0 < 0)) (cond (decide (x8 < 0)) (L1.f N (-1) (x14) ((↑x14.length : Int)) ((x9.getD x11.toNat ([], 0)).fst) ((x9.getD x11.toNat ([], 0)).snd) (x13) N (0) (x12) (fun x41 x42 => cond (x41 != 0) (k0 (x41) (x42)) (φ (IntKind.i64.wrap (x11 + 1)) (x42))) (fun x43 => φ (IntKind.i64.wrap (x11 + 1)) (x43))) (φ (IntKind.i64.wrap (x11 + 1)) (x12))) (φ (IntKind.i64.wrap (x11 + 1)) (x12)))) (cond (decide (List.getD (x9.getD x11.toNat ([], 0)).fst x13.toNat 0 < 0)) (cond (decide (x8 < 0)) (L1.f N (-1) (x14) ((↑x14.length : Int)) ((x9.getD x11.toNat ([], 0)).fst) ((x9.getD x11.toNat ([], 0)).snd) (x13) N (0) (x12) (fun x44 x45 => cond (x44 != 0) (k0 (x44) (x45)) (φ (IntKind.i64.wrap (x11 + 1)) (x45))) (fun x46 => φ (IntKind.i64.wrap (x11 + 1)) (x46))) (φ (IntKind.i64.wrap (x11 + 1)) (x12))) (φ (IntKind.i64.wrap (x11 + 1)) (x12))))) (none)) (none)) (k1 (x12))
def L2.f {α : Type} (N : Nat) (c0 : Int) (c1 : (List (List Int × Int))) (c2 : Int) (c3 : Int) (c4 : (List (List Int × Int))) : Nat → Int → (List (List Int × Int)) → (Int → (List (List Int × Int)) → Option α) → ((List (List Int × Int)) → Option α) → Option α
 | 0, _, _, _, _ => none
 | n + 1, d0, d1, k0, k1 => L2.st N c0 c1 c2 c3 c4 (fun e0 e1 => L2.f N c0 c1 c2 c3 c4 n e0 e1 k0 k1) d0 d1 k0 k1
def L2.up (d : L2.sh.T) (e0 : Int) (e1 : (List (List Int × Int))) : L2.sh.T := ((d.1.1, ((), ((), (d.1.2.2.2.1, (d.1.2.2.2.2.1, (e0, ((), ()))))))), (e1, (((), ()), (((), ()), ((d.2.2.2.2.1.1, ()), ((d.2.2.2.2.2.1.1, ()), ()))))))
def L2.k0 {α : Type} (d : L2.sh.T) (K : Cont α) : (Int → (List (List Int × Int)) → Option α) := fun y0 y1 => K (Exit.ret) (L2.x0.enc ((y0, ((), ())), (y1, (((), ()), (((), ()), ((d.2.2.2.2.1.1, ()), ((d.2.2.2.2.2.1.1, ()), ())))))))
def L2.k1 {α : Type} (d : L2.sh.T) (K : Cont α) : ((List (List Int × Int)) → Option α) := fun y0 => K (Exit.exit 0) (L2.x1.enc (((), ((), ())), (y0, (((), ()), (((), ()), ((d.2.2.2.2.1.1, ()), ((d.2.2.2.2.2.1.1, ()), ())))))))
def L2.F {α : Type} (N : Nat) (d : L2.sh.T) (K : Cont α) : Option α := L2.f N d.1.1 d.1.2.2.2.1 d.1.2.2.2.2.1 d.2.2.2.2.1.1 d.2.2.2.2.2.1.1 N d.1.2.2.2.2.2.1 d.2.1 (L2.k0 d K) (L2.k1 d K)
def ents38 {α : Type} (N : Nat) : List (SmE α) := []
def ents60 {α : Type} (N : Nat) : List (SmE α) := [⟨4, 49, 2, [⟨L0.sh, L0.F N⟩]⟩, ⟨9, 47, 2, [⟨L1.sh, L1.F N⟩]⟩, ⟨6, 49, 2, [⟨L2.sh, L2.F N⟩]⟩]
def ents61 {α : Type} (N : Nat) : List (SmE α) := []
def ents62 {α : Type} (N : Nat) : List (SmE α) := []
def ents63 {α : Type} (N : Nat) : List (SmE α) := []
def C (N : Nat) : Ctx := ⟨tys, [(65, semiflow_minimal.fent), (64, semiflow_join.fent)], [(60, ⟨Try.f60, an60, fun α lo d r => smL (ents60 N) lo d r⟩), (61, ⟨Try.f61, an61, fun α lo d r => smL (ents61 N) lo d r⟩), (62, ⟨Try.f62, an62, fun α lo d r => smL (ents62 N) lo d r⟩), (63, ⟨Try.f63, an63, fun α lo d r => smL (ents63 N) lo d r⟩)], N⟩
def L0.B {α : Type} (N : Nat) : Env → Cont α → Option α := evC tys 51 4 (evCall (C N) 49) (evCallQ (C N)) N an60 (smL (ents60 N) 4 49) (loopOf 2 Try.f60)
theorem L0.r {α : Type} (N : Nat) (φ : Env → Option α) (K : Cont α) (d : L0.sh.T) : L0.B N (L0.sh.enc d) (contL φ K (Env.norm 4 [0, 1, 3, 11, 12, 13, 2047]) (Env.norm 4 [6, 2047])) = L0.st N d.1.1 d.1.2.2.2.1 d.1.2.2.2.2.1 d.2.2.2.2.1.1 (fun e0 e1 => φ (L0.sh.enc (L0.up d e0 e1))) d.1.2.2.2.2.2.1 d.2.1 (L0.k0 d K) := by kernel_rfl
theorem L0.e {α : Type} (N : Nat) : ∀ (n : Nat) (d : L0.sh.T) (K : Cont α), evL (L0.B N) (Env.norm 4 [0, 1, 3, 11, 12, 13, 2047]) (Env.norm 4 [6, 2047]) n (L0.sh.enc d) K = L0.f N d.1.1 d.1.2.2.2.1 d.1.2.2.2.2.1 d.2.2.2.2.1.1 n d.1.2.2.2.2.2.1 d.2.1 (L0.k0 d K)
 | 0, d, K => rfl
 | n + 1, d, K => evL_contL.trans ((L0.r N _ K d).trans (congrArg (fun φ => L0.st N d.1.1 d.1.2.2.2.1 d.1.2.2.2.2.1 d.2.2.2.2.1.1 φ d.1.2.2.2.2.2.1 d.2.1 (L0.k0 d K)) (funext fun e0 => funext fun e1 => L0.e N n (L0.up d e0 e1) K)))
def L1.B {α : Type} (N : Nat) : Env → Cont α → Option α := evC tys 51 9 (evCall (C N) 47) (evCallQ (C N)) N an60 (smL (ents60 N) 9 47) (loopOf 2 Try.f60)
theorem L1.r {α : Type} (N : Nat) (φ : Env → Option α) (K : Cont α) (d : L1.sh.T) : L1.B N (L1.sh.enc d) (contL φ K (Env.norm 9 [0, 1, 3, 11, 12, 13, 2047]) (Env.norm 9 [6, 2047])) = L1.st N d.1.1 d.1.2.2.2.1 d.1.2.2.2.2.1 d.2.1.1 d.2.1.2.1 d.2.2.2.2.2.2.1.1 (fun e0 e1 => φ (L1.sh.enc (L1.up d e0 e1))) d.1.2.2.2.2.2.1 d.2.2.2.1 (L1.k0 d K) (L1.k1 d K) := by kernel_rfl
theorem L1.e {α : Type} (N : Nat) : ∀ (n : Nat) (d : L1.sh.T) (K : Cont α), evL (L1.B N) (Env.norm 9 [0, 1, 3, 11, 12, 13, 2047]) (Env.norm 9 [6, 2047]) n (L1.sh.enc d) K = L1.f N d.1.1 d.1.2.2.2.1 d.1.2.2.2.2.1 d.2.1.1 d.2.1.2.1 d.2.2.2.2.2.2.1.1 n d.1.2.2.2.2.2.1 d.2.2.2.1 (L1.k0 d K) (L1.k1 d K)
 | 0, d, K => rfl
 | n + 1, d, K => evL_contL.trans ((L1.r N _ K d).trans (congrArg (fun φ => L1.st N d.1.1 d.1.2.2.2.1 d.1.2.2.2.2.1 d.2.1.1 d.2.1.2.1 d.2.2.2.2.2.2.1.1 φ d.1.2.2.2.2.2.1 d.2.2.2.1 (L1.k0 d K) (L1.k1 d K)) (funext fun e0 => funext fun e1 => L1.e N n (L1.up d e0 e1) K)))
def L2.B {α : Type} (N : Nat) : Env → Cont α → Option α := evC tys 51 6 (evCall (C N) 49) (evCallQ (C N)) N an60 (smL (ents60 N) 6 49) (loopOf 2 Try.f60)
theorem L2.r {α : Type} (N : Nat) (φ : Env → Option α) (K : Cont α) (d : L2.sh.T) : L2.B N (L2.sh.enc d) (contL φ K (Env.norm 6 [0, 1, 3, 11, 12, 13, 2047]) (Env.norm 6 [6, 2047])) = L2.st N d.1.1 d.1.2.2.2.1 d.1.2.2.2.2.1 d.2.2.2.2.1.1 d.2.2.2.2.2.1.1 (fun e0 e1 => φ (L2.sh.enc (L2.up d e0 e1))) d.1.2.2.2.2.2.1 d.2.1 (L2.k0 d K) (L2.k1 d K) := by kernel_rfl
theorem L2.e {α : Type} (N : Nat) : ∀ (n : Nat) (d : L2.sh.T) (K : Cont α), evL (L2.B N) (Env.norm 6 [0, 1, 3, 11, 12, 13, 2047]) (Env.norm 6 [6, 2047]) n (L2.sh.enc d) K = L2.f N d.1.1 d.1.2.2.2.1 d.1.2.2.2.2.1 d.2.2.2.2.1.1 d.2.2.2.2.2.1.1 n d.1.2.2.2.2.2.1 d.2.1 (L2.k0 d K) (L2.k1 d K)
 | 0, d, K => rfl
 | n + 1, d, K => evL_contL.trans ((L2.r N _ K d).trans (congrArg (fun φ => L2.st N d.1.1 d.1.2.2.2.1 d.1.2.2.2.2.1 d.2.2.2.2.1.1 d.2.2.2.2.2.1.1 φ d.1.2.2.2.2.2.1 d.2.1 (L2.k0 d K) (L2.k1 d K)) (funext fun e0 => funext fun e1 => L2.e N n (L2.up d e0 e1) K)))
theorem ents38_ok {α : Type} (N : Nat) : AllP (EntOk (C N) Try.f38 an38 (ents38 (α := α) N)) (ents38 N) := trivial
theorem ents60_ok {α : Type} (N : Nat) : AllP (EntOk (C N) Try.f60 an60 (ents60 (α := α) N)) (ents60 N) := ⟨entOk_of (b0 := loopOf 2 Try.f60) (li0 := [0, 1, 3, 11, 12, 13, 2047]) (lx0 := [6, 2047]) (by kernel_rfl) (by kernel_rfl) ⟨fun d K => L0.e N N d K, trivial⟩, entOk_of (b0 := loopOf 2 Try.f60) (li0 := [0, 1, 3, 11, 12, 13, 2047]) (lx0 := [6, 2047]) (by kernel_rfl) (by kernel_rfl) ⟨fun d K => L1.e N N d K, trivial⟩, entOk_of (b0 := loopOf 2 Try.f60) (li0 := [0, 1, 3, 11, 12, 13, 2047]) (lx0 := [6, 2047]) (by kernel_rfl) (by kernel_rfl) ⟨fun d K => L2.e N N d K, trivial⟩, trivial⟩
theorem ents61_ok {α : Type} (N : Nat) : AllP (EntOk (C N) Try.f61 an61 (ents61 (α := α) N)) (ents61 N) := trivial
theorem ents62_ok {α : Type} (N : Nat) : AllP (EntOk (C N) Try.f62 an62 (ents62 (α := α) N)) (ents62 N) := trivial
theorem ents63_ok {α : Type} (N : Nat) : AllP (EntOk (C N) Try.f63 an63 (ents63 (α := α) N)) (ents63 N) := trivial
def g {α : Type} (N : Nat) (a0 : List (List Int × Int)) (a1 : Int) (kr : ((List (List Int × Int)) → Int → Option α)) : Option α :=
 L0.f N (0) (a0) ((↑a0.length : Int)) (a1) N (0) ([]) (fun x7 => L2.f N (1) (a0) ((↑a0.length : Int)) (a1) (a0) N (0) (x7) (fun x47 x48 => cond (x47 != 0) (kr ([]) (x47)) (cond (semiflow_minimal.pre x48) (kr ((semiflow_minimal.spec x48)) (0)) (none))) (fun x49 => cond (semiflow_minimal.pre x49) (kr ((semiflow_minimal.spec x49)) (0)) (none)))
theorem eq (N : Nat) (a0 : List (List Int × Int)) (a1 : Int) : evF (C N) 50 Try.f38 an38 (smL (ents38 N) 0 50) [((.sl (.st (.pr (.sl (.int .i64)) (.int .i64))) : K), false), ((.int .i64 : K), false)] [⟨.sl (.st (.pr (.sl (.int .i64)) (.int .i64))), a0⟩, ⟨.int .i64, a1⟩] = g N a0 a1 (fun r0 r1 => some [.dat (((K.int IntKind.i64).sl.pr (K.int IntKind.i64)).st.sl) r0, .dat (K.int IntKind.i64) r1]) := by kernel_rfl
theorem ctxOk (N : Nat) : CtxOk P (C N) := ctxOk_of tysOk mixedOk ⟨semiflow_minimal.ok, semiflow_join.ok, trivial⟩ ⟨⟨⟨by rfl, by kernel_rfl⟩, fun α lo d c hc => smL_ok (ents60_ok N) lo d hc⟩, ⟨⟨by rfl, by kernel_rfl⟩, fun α lo d c hc => smL_ok (ents61_ok N) lo d hc⟩, ⟨⟨by rfl, by kernel_rfl⟩, fun α lo d c hc => smL_ok (ents62_ok N) lo d hc⟩, ⟨⟨by rfl, by kernel_rfl⟩, fun α lo d c hc => smL_ok (ents63_ok N) lo d hc⟩, trivial⟩
theorem calls (N : Nat) (a0 : List (List Int × Int)) (a1 : Int) {rs : List Rs} (h : g N a0 a1 (fun r0 r1 => some [.dat (((K.int IntKind.i64).sl.pr (K.int IntKind.i64)).st.sl) r0, .dat (K.int IntKind.i64) r1]) = some rs) : CallsTo P 38 [⟨.sl (.st (.pr (.sl (.int .i64)) (.int .i64))), a0⟩, ⟨.int .i64, a1⟩] rs := evF_calls' (ctxOk N) (by rfl) (ents38_ok N) ((eq N a0 a1).trans h)
def L0.l {α : Type} (N : Nat) (x0 : Int) (x1 : (List (List Int × Int))) (x5 : Int) (k0 : ((List (List Int × Int)) → Option α)) : List (List Int × Int) → Int → (List (List Int × Int)) → Option α
 | [], x3, x4 => k0 (x4)
 | x :: l, x3, x4 => (cond (decide (0 ≤ x5) && decide (x5 < (↑(List.length x.fst) : Int))) (cond (List.getD x.fst x5.toNat 0 == 0) (cond (x0 == 0) (cond ((x4.length + 1).ble mxl) (L0.l N x0 x1 x5 k0 l (x3 + 1) (x4 ++ [x])) (none)) (cond (decide (0 < List.getD x.fst x5.toNat (0 : Int))) (cond (decide (0 < x0)) (cond ((x4.length + 1).ble mxl) (L0.l N x0 x1 x5 k0 l (x3 + 1) (x4 ++ [x])) (none)) (cond (decide (List.getD x.fst x5.toNat 0 < 0)) (cond (decide (x0 < 0)) (cond ((x4.length + 1).ble mxl) (L0.l N x0 x1 x5 k0 l (x3 + 1) (x4 ++ [x])) (none)) (L0.l N x0 x1 x5 k0 l (x3 + 1) (x4))) (L0.l N x0 x1 x5 k0 l (x3 + 1) (x4)))) (cond (decide (List.getD x.fst x5.toNat 0 < 0)) (cond (decide (x0 < 0)) (cond ((x4.length + 1).ble mxl) (L0.l N x0 x1 x5 k0 l (x3 + 1) (x4 ++ [x])) (none)) (L0.l N x0 x1 x5 k0 l (x3 + 1) (x4))) (L0.l N x0 x1 x5 k0 l (x3 + 1) (x4))))) (cond (decide (0 < List.getD x.fst x5.toNat (0 : Int))) (cond (decide (0 < x0)) (cond ((x4.length + 1).ble mxl) (L0.l N x0 x1 x5 k0 l (x3 + 1) (x4 ++ [x])) (none)) (cond (decide (List.getD x.fst x5.toNat 0 < 0)) (cond (decide (x0 < 0)) (cond ((x4.length + 1).ble mxl) (L0.l N x0 x1 x5 k0 l (x3 + 1) (x4 ++ [x])) (none)) (L0.l N x0 x1 x5 k0 l (x3 + 1) (x4))) (L0.l N x0 x1 x5 k0 l (x3 + 1) (x4)))) (cond (decide (List.getD x.fst x5.toNat 0 < 0)) (cond (decide (x0 < 0)) (cond ((x4.length + 1).ble mxl) (L0.l N x0 x1 x5 k0 l (x3 + 1) (x4 ++ [x])) (none)) (L0.l N x0 x1 x5 k0 l (x3 + 1) (x4))) (L0.l N x0 x1 x5 k0 l (x3 + 1) (x4))))) (none))
theorem L0.rng {α : Type} {N : Nat} (x0 : Int) (x1 : (List (List Int × Int))) (x5 : Int) (hl : x1.length ≤ maxLen) (k0 : ((List (List Int × Int)) → Option α)) : ∀ (n j : Nat) (x4 : (List (List Int × Int))), x1.length < n + j → j ≤ x1.length → L0.f N x0 x1 (x1.length : Int) x5 n (j : Int) x4 k0 = L0.l N x0 x1 x5 k0 (x1.drop j) (j : Int) x4 :=
 rng1 x1 hl (fun n i x4 => L0.f N x0 x1 (x1.length : Int) x5 n i x4 k0) (fun l i x4 => L0.l N x0 x1 x5 k0 l i x4) (fun n j hj h ih x4 => by simp only [L0.f, L0.st, L0.l, h.a, h.b, h.c, h.d, h.e, Bool.true_and, Bool.and_true, Bool.and_self, cond_true, ih] <;> rfl) (fun n j h x4 => by simp only [L0.f, L0.st, L0.l, h, cond_false])
def L1.l {α : Type} (N : Nat) (x15 : Int) (x16 : (List (List Int × Int))) (x19 : (List Int)) (x20 : Int) (x24 : Int) (k0 : (Int → (List (List Int × Int)) → Option α)) (k1 : ((List (List Int × Int)) → Option α)) : List (List Int × Int) → Int → (List (List Int × Int)) → Option α
 | [], x18, x23 => k1 (x23)
 | x :: l, x18, x23 => (cond (decide (0 ≤ x24) && decide (x24 < (↑(List.length x.fst) : Int))) (cond (List.getD x.fst x24.toNat 0 == 0) (cond (x15 == 0) (cond (semiflow_join.pre (x19, x20) x x24) (lt (semiflow_join.spec (x19, x20) x x24) fun v0 => cond ((x23.length + 1).ble mxl) (cond (v0.snd == 0) (cond (decide (2000 < (↑(List.length (x23 ++ [v0.fst])) : Int))) (k0 (14) (x23 ++ [v0.fst])) (cond (v0.snd != 0) (k0 (v0.snd) (x23 ++ [v0.fst])) (L1.l N x15 x16 x19 x20 x24 k0 k1 l (x18 + 1) (x23 ++ [v0.fst])))) (cond (v0.snd != 0) (k0 (v0.snd) (x23 ++ [v0.fst])) (L1.l N x15 x16 x19 x20 x24 k0 k1 l (x18 + 1) (x23 ++ [v0.fst])))) (none)) (none)) (cond (decide (0 < List.getD x.fst x24.toNat (0 : Int))) (cond (decide (0 < x15)) (cond (semiflow_join.pre (x19, x20) x x24) (lt (semiflow_join.spec (x19, x20) x x24) fun v1 => cond ((x23.length + 1).ble mxl) (cond (v1.snd == 0) (cond (decide (2000 < (↑(List.length (x23 ++ [v1.fst])) : Int))) (k0 (14) (x23 ++ [v1.fst])) (cond (v1.snd != 0) (k0 (v1.snd) (x23 ++ [v1.fst])) (L1.l N x15 x16 x19 x20 x24 k0 k1 l (x18 + 1) (x23 ++ [v1.fst])))) (cond (v1.snd != 0) (k0 (v1.snd) (x23 ++ [v1.fst])) (L1.l N x15 x16 x19 x20 x24 k0 k1 l (x18 + 1) (x23 ++ [v1.fst])))) (none)) (none)) (cond (decide (List.getD x.fst x24.toNat 0 < 0)) (cond (decide (x15 < 0)) (cond (semiflow_join.pre (x19, x20) x x24) (lt (semiflow_join.spec (x19, x20) x x24) fun v2 => cond ((x23.length + 1).ble mxl) (cond (v2.snd == 0) (cond (decide (2000 < (↑(List.length (x23 ++ [v2.fst])) : Int))) (k0 (14) (x23 ++ [v2.fst])) (cond (v2.snd != 0) (k0 (v2.snd) (x23 ++ [v2.fst])) (L1.l N x15 x16 x19 x20 x24 k0 k1 l (x18 + 1) (x23 ++ [v2.fst])))) (cond (v2.snd != 0) (k0 (v2.snd) (x23 ++ [v2.fst])) (L1.l N x15 x16 x19 x20 x24 k0 k1 l (x18 + 1) (x23 ++ [v2.fst])))) (none)) (none)) (L1.l N x15 x16 x19 x20 x24 k0 k1 l (x18 + 1) (x23))) (L1.l N x15 x16 x19 x20 x24 k0 k1 l (x18 + 1) (x23)))) (cond (decide (List.getD x.fst x24.toNat 0 < 0)) (cond (decide (x15 < 0)) (cond (semiflow_join.pre (x19, x20) x x24) (lt (semiflow_join.spec (x19, x20) x x24) fun v3 => cond ((x23.length + 1).ble mxl) (cond (v3.snd == 0) (cond (decide (2000 < (↑(List.length (x23 ++ [v3.fst])) : Int))) (k0 (14) (x23 ++ [v3.fst])) (cond (v3.snd != 0) (k0 (v3.snd) (x23 ++ [v3.fst])) (L1.l N x15 x16 x19 x20 x24 k0 k1 l (x18 + 1) (x23 ++ [v3.fst])))) (cond (v3.snd != 0) (k0 (v3.snd) (x23 ++ [v3.fst])) (L1.l N x15 x16 x19 x20 x24 k0 k1 l (x18 + 1) (x23 ++ [v3.fst])))) (none)) (none)) (L1.l N x15 x16 x19 x20 x24 k0 k1 l (x18 + 1) (x23))) (L1.l N x15 x16 x19 x20 x24 k0 k1 l (x18 + 1) (x23))))) (cond (decide (0 < List.getD x.fst x24.toNat (0 : Int))) (cond (decide (0 < x15)) (cond (semiflow_join.pre (x19, x20) x x24) (lt (semiflow_join.spec (x19, x20) x x24) fun v4 => cond ((x23.length + 1).ble mxl) (cond (v4.snd == 0) (cond (decide (2000 < (↑(List.length (x23 ++ [v4.fst])) : Int))) (k0 (14) (x23 ++ [v4.fst])) (cond (v4.snd != 0) (k0 (v4.snd) (x23 ++ [v4.fst])) (L1.l N x15 x16 x19 x20 x24 k0 k1 l (x18 + 1) (x23 ++ [v4.fst])))) (cond (v4.snd != 0) (k0 (v4.snd) (x23 ++ [v4.fst])) (L1.l N x15 x16 x19 x20 x24 k0 k1 l (x18 + 1) (x23 ++ [v4.fst])))) (none)) (none)) (cond (decide (List.getD x.fst x24.toNat 0 < 0)) (cond (decide (x15 < 0)) (cond (semiflow_join.pre (x19, x20) x x24) (lt (semiflow_join.spec (x19, x20) x x24) fun v5 => cond ((x23.length + 1).ble mxl) (cond (v5.snd == 0) (cond (decide (2000 < (↑(List.length (x23 ++ [v5.fst])) : Int))) (k0 (14) (x23 ++ [v5.fst])) (cond (v5.snd != 0) (k0 (v5.snd) (x23 ++ [v5.fst])) (L1.l N x15 x16 x19 x20 x24 k0 k1 l (x18 + 1) (x23 ++ [v5.fst])))) (cond (v5.snd != 0) (k0 (v5.snd) (x23 ++ [v5.fst])) (L1.l N x15 x16 x19 x20 x24 k0 k1 l (x18 + 1) (x23 ++ [v5.fst])))) (none)) (none)) (L1.l N x15 x16 x19 x20 x24 k0 k1 l (x18 + 1) (x23))) (L1.l N x15 x16 x19 x20 x24 k0 k1 l (x18 + 1) (x23)))) (cond (decide (List.getD x.fst x24.toNat 0 < 0)) (cond (decide (x15 < 0)) (cond (semiflow_join.pre (x19, x20) x x24) (lt (semiflow_join.spec (x19, x20) x x24) fun v6 => cond ((x23.length + 1).ble mxl) (cond (v6.snd == 0) (cond (decide (2000 < (↑(List.length (x23 ++ [v6.fst])) : Int))) (k0 (14) (x23 ++ [v6.fst])) (cond (v6.snd != 0) (k0 (v6.snd) (x23 ++ [v6.fst])) (L1.l N x15 x16 x19 x20 x24 k0 k1 l (x18 + 1) (x23 ++ [v6.fst])))) (cond (v6.snd != 0) (k0 (v6.snd) (x23 ++ [v6.fst])) (L1.l N x15 x16 x19 x20 x24 k0 k1 l (x18 + 1) (x23 ++ [v6.fst])))) (none)) (none)) (L1.l N x15 x16 x19 x20 x24 k0 k1 l (x18 + 1) (x23))) (L1.l N x15 x16 x19 x20 x24 k0 k1 l (x18 + 1) (x23))))) (none))
theorem L1.rng {α : Type} {N : Nat} (x15 : Int) (x16 : (List (List Int × Int))) (x19 : (List Int)) (x20 : Int) (x24 : Int) (hl : x16.length ≤ maxLen) (k0 : (Int → (List (List Int × Int)) → Option α)) (k1 : ((List (List Int × Int)) → Option α)) : ∀ (n j : Nat) (x23 : (List (List Int × Int))), x16.length < n + j → j ≤ x16.length → L1.f N x15 x16 (x16.length : Int) x19 x20 x24 n (j : Int) x23 k0 k1 = L1.l N x15 x16 x19 x20 x24 k0 k1 (x16.drop j) (j : Int) x23 :=
 rng1 x16 hl (fun n i x23 => L1.f N x15 x16 (x16.length : Int) x19 x20 x24 n i x23 k0 k1) (fun l i x23 => L1.l N x15 x16 x19 x20 x24 k0 k1 l i x23) (fun n j hj h ih x23 => by simp only [L1.f, L1.st, L1.l, h.a, h.b, h.c, h.d, h.e, Bool.true_and, Bool.and_true, Bool.and_self, cond_true, ih] <;> rfl) (fun n j h x23 => by simp only [L1.f, L1.st, L1.l, h, cond_false])
def L2.l {α : Type} (N : Nat) (x8 : Int) (x9 : (List (List Int × Int))) (x13 : Int) (x14 : (List (List Int × Int))) (k0 : (Int → (List (List Int × Int)) → Option α)) (k1 : ((List (List Int × Int)) → Option α)) : List (List Int × Int) → Int → (List (List Int × Int)) → Option α
 | [], x11, x12 => k1 (x12)
 | x :: l, x11, x12 => (cond (decide (0 ≤ x13) && decide (x13 < (↑(List.length x.fst) : Int))) (cond (List.getD x.fst x13.toNat 0 == 0) (cond (x8 == 0) (L1.f N (-1) (x14) ((↑x14.length : Int)) (x.fst) (x.snd) (x13) N (0) (x12) (fun x26 x27 => cond (x26 != 0) (k0 (x26) (x27)) (L2.l N x8 x9 x13 x14 k0 k1 l (x11 + 1) (x27))) (fun x28 => L2.l N x8 x9 x13 x14 k0 k1 l (x11 + 1) (x28))) (cond (decide (0 < List.getD x.fst x13.toNat (0 : Int))) (cond (decide (0 < x8)) (L1.f N (-1) (x14) ((↑x14.length : Int)) (x.fst) (x.snd) (x13) N (0) (x12) (fun x29 x30 => cond (x29 != 0) (k0 (x29) (x30)) (L2.l N x8 x9 x13 x14 k0 k1 l (x11 + 1) (x30))) (fun x31 => L2.l N x8 x9 x13 x14 k0 k1 l (x11 + 1) (x31))) (cond (decide (List.getD x.fst x13.toNat 0 < 0)) (cond (decide (x8 < 0)) (L1.f N (-1) (x14) ((↑x14.length : Int)) (x.fst) (x.snd) (x13) N (0) (x12) (fun x32 x33 => cond (x32 != 0) (k0 (x32) (x33)) (L2.l N x8 x9 x13 x14 k0 k1 l (x11 + 1) (x33))) (fun x34 => L2.l N x8 x9 x13 x14 k0 k1 l (x11 + 1) (x34))) (L2.l N x8 x9 x13 x14 k0 k1 l (x11 + 1) (x12))) (L2.l N x8 x9 x13 x14 k0 k1 l (x11 + 1) (x12)))) (cond (decide (List.getD x.fst x13.toNat 0 < 0)) (cond (decide (x8 < 0)) (L1.f N (-1) (x14) ((↑x14.length : Int)) (x.fst) (x.snd) (x13) N (0) (x12) (fun x35 x36 => cond (x35 != 0) (k0 (x35) (x36)) (L2.l N x8 x9 x13 x14 k0 k1 l (x11 + 1) (x36))) (fun x37 => L2.l N x8 x9 x13 x14 k0 k1 l (x11 + 1) (x37))) (L2.l N x8 x9 x13 x14 k0 k1 l (x11 + 1) (x12))) (L2.l N x8 x9 x13 x14 k0 k1 l (x11 + 1) (x12))))) (cond (decide (0 < List.getD x.fst x13.toNat (0 : Int))) (cond (decide (0 < x8)) (L1.f N (-1) (x14) ((↑x14.length : Int)) (x.fst) (x.snd) (x13) N (0) (x12) (fun x38 x39 => cond (x38 != 0) (k0 (x38) (x39)) (L2.l N x8 x9 x13 x14 k0 k1 l (x11 + 1) (x39))) (fun x40 => L2.l N x8 x9 x13 x14 k0 k1 l (x11 + 1) (x40))) (cond (decide (List.getD x.fst x13.toNat 0 < 0)) (cond (decide (x8 < 0)) (L1.f N (-1) (x14) ((↑x14.length : Int)) (x.fst) (x.snd) (x13) N (0) (x12) (fun x41 x42 => cond (x41 != 0) (k0 (x41) (x42)) (L2.l N x8 x9 x13 x14 k0 k1 l (x11 + 1) (x42))) (fun x43 => L2.l N x8 x9 x13 x14 k0 k1 l (x11 + 1) (x43))) (L2.l N x8 x9 x13 x14 k0 k1 l (x11 + 1) (x12))) (L2.l N x8 x9 x13 x14 k0 k1 l (x11 + 1) (x12)))) (cond (decide (List.getD x.fst x13.toNat 0 < 0)) (cond (decide (x8 < 0)) (L1.f N (-1) (x14) ((↑x14.length : Int)) (x.fst) (x.snd) (x13) N (0) (x12) (fun x44 x45 => cond (x44 != 0) (k0 (x44) (x45)) (L2.l N x8 x9 x13 x14 k0 k1 l (x11 + 1) (x45))) (fun x46 => L2.l N x8 x9 x13 x14 k0 k1 l (x11 + 1) (x46))) (L2.l N x8 x9 x13 x14 k0 k1 l (x11 + 1) (x12))) (L2.l N x8 x9 x13 x14 k0 k1 l (x11 + 1) (x12))))) (none))
theorem L2.rng {α : Type} {N : Nat} (x8 : Int) (x9 : (List (List Int × Int))) (x13 : Int) (x14 : (List (List Int × Int))) (hl : x9.length ≤ maxLen) (k0 : (Int → (List (List Int × Int)) → Option α)) (k1 : ((List (List Int × Int)) → Option α)) : ∀ (n j : Nat) (x12 : (List (List Int × Int))), x9.length < n + j → j ≤ x9.length → L2.f N x8 x9 (x9.length : Int) x13 x14 n (j : Int) x12 k0 k1 = L2.l N x8 x9 x13 x14 k0 k1 (x9.drop j) (j : Int) x12 :=
 rng1 x9 hl (fun n i x12 => L2.f N x8 x9 (x9.length : Int) x13 x14 n i x12 k0 k1) (fun l i x12 => L2.l N x8 x9 x13 x14 k0 k1 l i x12) (fun n j hj h ih x12 => by simp only [L2.f, L2.st, L2.l, h.a, h.b, h.c, h.d, h.e, Bool.true_and, Bool.and_true, Bool.and_self, cond_true, ih] <;> rfl) (fun n j h x12 => by simp only [L2.f, L2.st, L2.l, h, cond_false])
end semiflow_step
theorem combL_len {i k : Int} : ∀ {xs ys q : List Int}, xs.length = ys.length → combL i k xs ys = some q → q.length = xs.length
 | [], ys, q, _, h => by cases ys <;> (simp only [combL, Option.some.injEq] at h; subst h; rfl)
 | x :: xs, [], q, hl, h => by simp at hl
 | x :: xs, y :: ys, q, hl, h => by
  simp only [combL] at h
  split at h
  ·
   cases hq : combL i k xs ys with
   | none => rw [hq] at h; cases h
   | some r =>
    rw [hq] at h
    simp only [Option.map_some, Option.some.injEq] at h
    subst h
    simp [combL_len (by simpa using hl) hq]
  ·
   cases h
theorem primS_len {l : List Int} (h : (primS l).2 = 0) : (primS l).1.length = l.length := by
 unfold primS at h ⊢
 cases hc : l.any fun x => x == -9223372036854775808
 ·
  simp
 ·
  rw [hc] at h; cases h
theorem joinS_len {p q : RowT} {j : Int} (hl : p.1.length = q.1.length) (h : (joinS p q j).2 = 0) : (joinS p q j).1.1.length = p.1.length ∧ (joinS p q j).1.2 = p.2 := by
 unfold joinS at h ⊢
 cases hy : (decide (q.1.getD j.toNat 0 = 0) || decide (q.1.getD j.toNat 0 = -9223372036854775808))
 ·
  rw [hy] at h
  simp only [cond_false] at h ⊢
  cases hc : (combS p.1 (-(q.1.getD j.toNat 0)) q.1 (p.1.getD j.toNat 0)).2 == 0
  ·
   rw [hc] at h
   simp only [cond_false] at h
   rw [h] at hc; cases hc
  ·
   rw [hc] at h
   simp only [cond_true] at h ⊢
   refine ⟨?_, trivial⟩
   rw [primS_len h]
   unfold combS at hc ⊢
   rw [beq_t hl] at hc ⊢
   simp only [cond_true] at hc ⊢
   cases hq : combL (-(q.1.getD j.toNat 0)) (p.1.getD j.toNat 0) p.1 q.1 with
   | none => rw [hq] at hc; cases hc
   | some r => exact combL_len hl hq
 ·
  rw [hy] at h; cases h
def rowOk (m : Nat) (k : Int) (r : RowT) : Prop := r.1.length = m ∧ r.2 = k
theorem pairS_ok {j : Int} {p : RowT} {m : Nat} {k : Int} (hp : rowOk m k p) : ∀ (l acc : List RowT), (∀ r ∈ l, rowOk m k r) → (∀ r ∈ acc, rowOk m k r) → (pairS j p acc l).2 = 0 → (∀ r ∈ (pairS j p acc l).1, rowOk m k r) ∧ (pairS j p acc l).1.length ≤ max acc.length 2000
 | [], acc, _, h, _ => ⟨h, by rw [pairS]; exact Nat.le_max_left _ _⟩
 | q :: l, acc, hl, h, he => by
  have hq := hl q (by simp)
  have hl' : ∀ r ∈ l, rowOk m k r := fun r hr => hl r (by simp [hr])
  rw [pairS] at he ⊢
  cases hn : decide (q.1.getD j.toNat 0 < 0)
  ·
   rw [hn] at he
   exact pairS_ok hp l acc hl' h he
  ·
   rw [hn] at he
   simp only [cond_true] at he ⊢
   cases hj : (joinS p q j).2 == 0
   ·
    rw [hj] at he
    simp only [cond_false] at he
    rw [he] at hj; cases hj
   ·
    rw [hj] at he
    simp only [cond_true] at he ⊢
    by_cases hb : 2000 < acc.length + 1
    ·
     rw [decide_eq_true hb] at he; cases he
    ·
     rw [decide_eq_false hb] at he
     rw [decide_eq_false hb]
     simp only [cond_false] at he ⊢
     have hlen := joinS_len (hp.1.trans hq.1.symm) (beq0.1 hj)
     obtain ⟨h1, h2⟩ := pairS_ok hp l (acc ++ [(joinS p q j).1]) hl' (fun r hr => by
      rcases List.mem_append.1 hr with hr | hr
      ·
       exact h r hr
      ·
       rw [List.mem_singleton.1 hr]
       exact ⟨hlen.1.trans hp.1, hlen.2.trans hp.2⟩) he
     refine ⟨h1, ?_⟩
     simp only [List.length_append, List.length_singleton] at h2
     omega
theorem semiflow_step.L0.law {α : Type} {N : Nat} (x1 : List RowT) (j : Int) (k0 : List RowT → Option α) : ∀ (l : List RowT) (i : Int) (acc : List RowT), (∀ r ∈ l, 0 ≤ j ∧ j < (r.1.length : Int)) → acc.length + l.length ≤ 1073741824 → semiflow_step.L0.l N 0 x1 j k0 l i acc = k0 (acc ++ zeroS j l)
 | [], i, acc, _, _ => by simp [semiflow_step.L0.l, zeroS]
 | x :: l, i, acc, h, hl => by
  obtain ⟨h1, h2⟩ := h x (by simp)
  simp only [List.length_cons] at hl
  have i1 := semiflow_step.L0.law (N := N) x1 j k0 l (i + 1) acc (fun r hr => h r (by simp [hr])) (by omega)
  have i2 := semiflow_step.L0.law (N := N) x1 j k0 l (i + 1) (acc ++ [x]) (fun r hr => h r (by simp [hr])) (by simp; omega)
  rw [semiflow_step.L0.l, decide_eq_true h1, decide_eq_true h2, i1, i2, ble1 _ (by omega)]
  unfold zeroS
  rw [List.filter_cons]
  have z1 : ((0 : Int) == 0) = true := rfl
  have z2 : decide ((0 : Int) < 0) = false := rfl
  simp only [z1, z2, Bool.and_self, cond_true, cond_false, Bool.cond_self]
  cases List.getD x.1 j.toNat 0 == 0
  ·
   rfl
  ·
   simp
theorem semiflow_step.L1.law {α : Type} {N : Nat} (x16 : List RowT) (p : RowT) (j : Int) {m : Nat} (hp : p.1.length = m) (hm : m ≤ 1073741824) (hj : 0 ≤ j ∧ j < (m : Int)) (k0 : Int → List RowT → Option α) (k1 : List RowT → Option α) : ∀ (l : List RowT) (i : Int) (acc : List RowT), (∀ r ∈ l, r.1.length = m) → acc.length + l.length ≤ 1073741824 →
  semiflow_step.L1.l N (-1) x16 p.1 p.2 j k0 k1 l i acc = cond ((pairS j p acc l).2 == 0) (k1 (pairS j p acc l).1) (k0 (pairS j p acc l).2 (pairS j p acc l).1)
 | [], i, acc, _, _ => rfl
 | x :: l, i, acc, h, hl => by
  have hx := h x (by simp)
  simp only [List.length_cons] at hl
  have i1 := semiflow_step.L1.law (N := N) x16 p j hp hm hj k0 k1 l (i + 1) acc (fun r hr => h r (by simp [hr])) (by omega)
  have i2 := semiflow_step.L1.law (N := N) x16 p j hp hm hj k0 k1 l (i + 1) (acc ++ [(joinS p x j).1]) (fun r hr => h r (by simp [hr])) (by simp; omega)
  have hpre : semiflow_join.pre (p.1, p.2) x j = true := by
   unfold semiflow_join.pre bigL
   simp only [hp, hx, Bool.and_eq_true, decide_eq_true_eq]
   omega
  have hsp : semiflow_join.spec (p.1, p.2) x j = joinS p x j := rfl
  rw [semiflow_step.L1.l, decide_eq_true hj.1, decide_eq_true (show j < (x.1.length : Int) by omega), pairS]
  simp only [lt, hpre, hsp, ble1 acc (show acc.length + 1 ≤ 1073741824 by omega), i1, i2]
  have z1 : ((-1 : Int) == 0) = false := rfl
  have z2 : decide ((0 : Int) < -1) = false := rfl
  have z3 : decide ((-1 : Int) < 0) = true := rfl
  have e4 : decide ((2000 : Int) < (((acc ++ [(joinS p x j).1]).length : Nat) : Int)) = decide (2000 < acc.length + 1) := by
   rw [List.length_append, List.length_singleton]
   by_cases h9 : 2000 < acc.length + 1
   ·
    rw [decide_eq_true h9, decide_eq_true (by omega)]
   ·
    rw [decide_eq_false h9, decide_eq_false (by omega)]
  simp only [z1, z2, z3, e4, Bool.and_self, cond_true, cond_false, bne]
  generalize List.getD x.1 j.toNat 0 = c
  by_cases hc : c < 0
  ·
   rw [decide_eq_true hc, decide_eq_false (show ¬ 0 < c by omega), show (c == 0) = false by simp; omega]
   simp only [cond_true, cond_false]
   cases he : (joinS p x j).2 == 0
   ·
    simp only [he, cond_false, Bool.not_false, cond_true]
   ·
    simp only [cond_true, Bool.not_true, cond_false]
    cases decide (2000 < acc.length + 1) <;> rfl
  ·
   rw [decide_eq_false hc]
   simp only [cond_false, Bool.cond_self]
theorem semiflow_step.L2.law {α : Type} {N : Nat} (hN : 18446744073709551616 ≤ N) (x9 all : List RowT) (j : Int) {m : Nat} {k : Int} (hall : ∀ r ∈ all, rowOk m k r) (hlen : all.length ≤ 1000000) (hm : m ≤ 1073741824) (hj : 0 ≤ j ∧ j < (m : Int)) (k0 : Int → List RowT → Option α) (k1 : List RowT → Option α) : ∀ (l : List RowT) (i : Int) (acc : List RowT), (∀ r ∈ l, rowOk m k r) → (∀ r ∈ acc, rowOk m k r) → acc.length ≤ 1000000 →
  semiflow_step.L2.l N 1 x9 j all k0 k1 l i acc = cond ((pairsS j all acc l).2 == 0) (k1 (pairsS j all acc l).1) (k0 (pairsS j all acc l).2 (pairsS j all acc l).1)
 | [], i, acc, _, _, _ => rfl
 | x :: l, i, acc, h, ha, hacc => by
  have hx := h x (by simp)
  have hl' : ∀ r ∈ l, rowOk m k r := fun r hr => h r (by simp [hr])
  have i1 := semiflow_step.L2.law (N := N) hN x9 all j hall hlen hm hj k0 k1 l (i + 1) acc hl' ha hacc
  have hw : all.length ≤ maxLen := by unfold maxLen; omega
  have run : ∀ (K0 : Int → List RowT → Option α) (K1 : List RowT → Option α), semiflow_step.L1.f N (-1) all (all.length : Int) x.1 x.2 j N 0 acc K0 K1 = cond ((pairS j x acc all).2 == 0) (K1 (pairS j x acc all).1) (K0 (pairS j x acc all).2 (pairS j x acc all).1) := fun K0 K1 => by
   refine (semiflow_step.L1.rng (N := N) (-1) all x.1 x.2 j hw K0 K1 N 0 acc (by have := le_fuel hw hN; omega) (Nat.zero_le _)).trans ?_
   rw [List.drop_zero]
   exact semiflow_step.L1.law all x j hx.1 hm hj K0 K1 all _ acc (fun r hr => (hall r hr).1) (by omega)
  rw [semiflow_step.L2.l, decide_eq_true hj.1, decide_eq_true (show j < (x.1.length : Int) by rw [hx.1]; exact hj.2), pairsS]
  simp only [run, i1]
  have z1 : ((1 : Int) == 0) = false := rfl
  have z2 : decide ((0 : Int) < 1) = true := rfl
  have z3 : decide ((1 : Int) < 0) = false := rfl
  simp only [z1, z2, z3, Bool.and_self, cond_true, cond_false, bne, Bool.cond_self]
  generalize List.getD x.1 j.toNat 0 = c
  by_cases hc : 0 < c
  ·
   rw [decide_eq_true hc]
   simp only [cond_true, cond_false]
   cases he : (pairS j x acc all).2 == 0
   ·
    simp only [he, cond_false, Bool.not_false, cond_true]
   ·
    simp only [cond_true]
    obtain ⟨b1, b2⟩ := pairS_ok (j := j) hx all acc hall ha (beq0.1 he)
    exact semiflow_step.L2.law (N := N) hN x9 all j hall hlen hm hj k0 k1 l (i + 1) _ hl' b1 (by omega)
  ·
   rw [decide_eq_false hc]
   simp only [cond_false, Bool.cond_self]
theorem pairsS_ok {j : Int} {all : List RowT} {m : Nat} {k : Int} (hall : ∀ r ∈ all, rowOk m k r) : ∀ (l acc : List RowT), (∀ r ∈ l, rowOk m k r) → (∀ r ∈ acc, rowOk m k r) → (pairsS j all acc l).2 = 0 → (∀ r ∈ (pairsS j all acc l).1, rowOk m k r) ∧ (pairsS j all acc l).1.length ≤ max acc.length 2000
 | [], acc, _, h, _ => ⟨h, by rw [pairsS]; exact Nat.le_max_left _ _⟩
 | p :: l, acc, hl, h, he => by
  have hl' : ∀ r ∈ l, rowOk m k r := fun r hr => hl r (by simp [hr])
  rw [pairsS] at he ⊢
  cases hn : decide (0 < p.1.getD j.toNat 0)
  ·
   rw [hn] at he
   exact pairsS_ok hall l acc hl' h he
  ·
   rw [hn] at he
   simp only [cond_true] at he ⊢
   cases hj : (pairS j p acc all).2 == 0
   ·
    rw [hj] at he
    simp only [cond_false] at he
    rw [he] at hj; cases hj
   ·
    rw [hj] at he
    simp only [cond_true] at he ⊢
    obtain ⟨b1, b2⟩ := pairS_ok (j := j) (hl p (by simp)) all acc hall h (beq0.1 hj)
    obtain ⟨c1, c2⟩ := pairsS_ok hall l _ hl' b1 he
    exact ⟨c1, by omega⟩
theorem semiflow_step.law {α : Type} {N : Nat} (hN : 18446744073709551616 ≤ N) (a0 : List (List Int × Int)) (a1 : Int) (w0 : K.wf (.sl (.st (.pr (.sl (.int .i64)) (.int .i64)))) a0) (w1 : K.wf (.int .i64) a1) (hp : semiflow_step.pre a0 a1 = true) (kr : ((List (List Int × Int)) → Int → Option α)) : semiflow_step.g N a0 a1 kr = kr (semiflow_step.spec a0 a1).1 (semiflow_step.spec a0 a1).2 := by
 unfold semiflow_step.g semiflow_step.spec stepS
 simp only [semiflow_step.pre, Bool.and_eq_true, decide_eq_true_eq, List.all_eq_true] at hp
 obtain ⟨⟨h1, h2⟩, h3⟩ := hp
 cases a0 with
 | nil =>
  have e1 := semiflow_step.L0.rng (N := N) 0 [] a1 w0.1 (fun x7 => semiflow_step.L2.f N 1 [] (([] : List RowT).length : Int) a1 [] N 0 x7 (fun x47 x48 => cond (x47 != 0) (kr [] x47) (cond (semiflow_minimal.pre x48) (kr (semiflow_minimal.spec x48) 0) none)) (fun x49 => cond (semiflow_minimal.pre x49) (kr (semiflow_minimal.spec x49) 0) none)) N 0 [] (by simp; omega) (Nat.zero_le _)
  refine e1.trans ?_
  rw [List.drop_zero, semiflow_step.L0.l]
  refine (semiflow_step.L2.rng (N := N) 1 [] a1 [] w0.1 _ _ N 0 [] (by simp; omega) (Nat.zero_le _)).trans ?_
  rfl
 | cons r0 rest =>
  generalize he : r0 :: rest = a0 at *
  have hd : a0.headD ([], 0) = r0 := by rw [← he]; rfl
  rw [hd] at h3
  have h0 := h3 r0 (by rw [← he]; simp)
  have hrow : ∀ r ∈ a0, rowOk r0.1.length r0.2 r := fun r hr => ⟨(h3 r hr).1.1.1, (h3 r hr).1.1.2⟩
  have hsup := h0.2
  have hb : r0.1.length ≤ 1073741824 := by
   simp only [semiflow_row_support.pre, bigL, Bool.and_eq_true, decide_eq_true_eq] at hsup
   exact hsup.2
  have hj : 0 ≤ a1 ∧ a1 < (r0.1.length : Int) := ⟨h2, h0.1.2⟩
  have hmin : ∀ l : List RowT, (∀ r ∈ l, rowOk r0.1.length r0.2 r) → l.length ≤ 1000000 → semiflow_minimal.pre l = true := fun l hl hlen => by
   unfold semiflow_minimal.pre bigL
   simp only [Bool.and_eq_true, decide_eq_true_eq, List.all_eq_true]
   refine ⟨by omega, fun r hr => ?_⟩
   obtain ⟨a, b⟩ := hl r hr
   unfold semiflow_row_support.pre bigL at hsup ⊢
   rw [a, b]
   exact hsup
  refine (semiflow_step.L0.rng (N := N) _ _ _ (w0.1) _ N 0 _ (by have := le_fuel (w0.1) hN; omega) (Nat.zero_le _)).trans ?_
  rw [List.drop_zero]
  refine (semiflow_step.L0.law (N := N) a0 a1 _ a0 _ [] (fun r hr => ⟨h2, (h3 r hr).1.2⟩) (by simp; omega)).trans ?_
  rw [List.nil_append]
  refine (semiflow_step.L2.rng (N := N) 1 a0 a1 a0 w0.1 _ _ N 0 _ (by have := le_fuel w0.1 hN; omega) (Nat.zero_le _)).trans ?_
  rw [List.drop_zero]
  have hz : ∀ r ∈ zeroS a1 a0, rowOk r0.1.length r0.2 r := fun r hr => hrow r (List.mem_filter.1 hr).1
  have hzl : (zeroS a1 a0).length ≤ a0.length := List.length_filter_le _ _
  refine (semiflow_step.L2.law (N := N) hN a0 a0 a1 hrow h1 hb hj _ _ a0 _ _ hrow hz (by omega)).trans ?_
  cases hp : (pairsS a1 a0 (zeroS a1 a0) a0).2 == 0
  ·
   simp only [bne, hp, cond_false, Bool.not_false, cond_true]
  ·
   obtain ⟨b1, b2⟩ := pairsS_ok (j := a1) hrow a0 _ hrow hz (beq0.1 hp)
   simp only [cond_true]
   rw [hmin _ b1 (by omega)]
   rfl
theorem semiflow_step.ok : FentOk P 38 semiflow_step.fent := fentOk_of (by kernel_rfl) fun ds hk => by
 obtain ⟨a0, l0, rfl, h0⟩ := ds_cons hk
 obtain ⟨a1, l1, rfl, h1⟩ := ds_cons h0
 obtain rfl := ds0 h1
 exact ⟨semiflow_step.pre a0 a1, [.dat (.sl (.st (.pr (.sl (.int .i64)) (.int .i64)))) (semiflow_step.spec a0 a1).1, .dat (.int .i64) (semiflow_step.spec a0 a1).2], fun h hw => semiflow_step.calls 18446744073709551616 a0 a1 (semiflow_step.law (Nat.le_refl _) a0 a1 hw.1 hw.2.1 h _), fun α k => rfl⟩
end Go.VI
namespace Go.VI
open Go Go.Proofs
namespace vector_Compare
def an66 : Ann := [(2, [0, 1, 5], [0, 1, 4])]
def L0.sh : Sh := { sl := [(0, SV.a (SA.d (K.int IntKind.i64).sl)), (1, SV.a (SA.d (K.int IntKind.i64).sl)), (5, SV.a (SA.d (K.int IntKind.i64)))], os := [], nx := 0 }
def L0.x0 : Sh := { sl := [(0, SV.a (SA.d (K.int IntKind.i64).sl)), (1, SV.a (SA.d (K.int IntKind.i64).sl)), (4, SV.a (SA.d (K.int IntKind.i64)))], os := [], nx := 0 }
def L0.x1 : Sh := { sl := [(0, SV.a (SA.d (K.int IntKind.i64).sl)), (1, SV.a (SA.d (K.int IntKind.i64).sl)), (4, SV.j)], os := [], nx := 0 }
def L0.st {α : Type} (N : Nat) (x0 : (List Int)) (x1 : (List Int)) (φ : (Int → Option α)) (x2 : Int) (k0 : (Int → Option α)) (k1 : Option α) : Option α :=
 cond (decide (x2 < (↑x0.length : Int))) (cond (decide (x2 < (↑x1.length : Int))) (cond (decide (0 ≤ x2) && decide (x2 < (↑x0.length : Int))) (cond (decide (0 ≤ x2) && decide (x2 < (↑x1.length : Int))) (cond (decide (x0.getD x2.toNat 0 < x1.getD x2.toNat (0 : Int))) (k0 (-1)) (cond (decide (0 ≤ x2) && decide (x2 < (↑x0.length : Int))) (cond (decide (0 ≤ x2) && decide (x2 < (↑x1.length : Int))) (cond (decide (x1.getD x2.toNat 0 < x0.getD x2.toNat (0 : Int))) (k0 (1)) (φ (IntKind.i64.wrap (x2 + 1)))) (none)) (none))) (none)) (none)) (k1 )) (k1 )
def L0.f {α : Type} (N : Nat) (c0 : (List Int)) (c1 : (List Int)) : Nat → Int → (Int → Option α) → Option α → Option α
 | 0, _, _, _ => none
 | n + 1, d0, k0, k1 => L0.st N c0 c1 (fun e0 => L0.f N c0 c1 n e0 k0 k1) d0 k0 k1
def L0.up (d : L0.sh.T) (e0 : Int) : L0.sh.T := ((d.1.1, (d.1.2.1, (e0, ()))), ())
def L0.k0 {α : Type} (d : L0.sh.T) (K : Cont α) : (Int → Option α) := fun y0 => K (Exit.ret) (L0.x0.enc ((d.1.1, (d.1.2.1, (y0, ()))), ()))
def L0.k1 {α : Type} (d : L0.sh.T) (K : Cont α) : Option α := K (Exit.exit 0) (L0.x1.enc ((d.1.1, (d.1.2.1, ((), ()))), ()))
def L0.F {α : Type} (N : Nat) (d : L0.sh.T) (K : Cont α) : Option α := L0.f N d.1.1 d.1.2.1 N d.1.2.2.1 (L0.k0 d K) (L0.k1 d K)
def ents66 {α : Type} (N : Nat) : List (SmE α) := [⟨0, 50, 2, [⟨L0.sh, L0.F N⟩]⟩]
def C (N : Nat) : Ctx := ⟨tys, [], [], N⟩
def L0.B {α : Type} (N : Nat) : Env → Cont α → Option α := evC tys 48 0 (evCall (C N) 50) (evCallQ (C N)) N an66 (smL (ents66 N) 0 50) (loopOf 2 Try.f66)
theorem L0.r {α : Type} (N : Nat) (φ : Env → Option α) (K : Cont α) (d : L0.sh.T) : L0.B N (L0.sh.enc d) (contL φ K (Env.norm 0 [0, 1, 5]) (Env.norm 0 [0, 1, 4])) = L0.st N d.1.1 d.1.2.1 (fun e0 => φ (L0.sh.enc (L0.up d e0))) d.1.2.2.1 (L0.k0 d K) (L0.k1 d K) := by kernel_rfl
theorem L0.e {α : Type} (N : Nat) : ∀ (n : Nat) (d : L0.sh.T) (K : Cont α), evL (L0.B N) (Env.norm 0 [0, 1, 5]) (Env.norm 0 [0, 1, 4]) n (L0.sh.enc d) K = L0.f N d.1.1 d.1.2.1 n d.1.2.2.1 (L0.k0 d K) (L0.k1 d K)
 | 0, d, K => rfl
 | n + 1, d, K => evL_contL.trans ((L0.r N _ K d).trans (congrArg (fun φ => L0.st N d.1.1 d.1.2.1 φ d.1.2.2.1 (L0.k0 d K) (L0.k1 d K)) (funext fun e0 => L0.e N n (L0.up d e0) K)))
theorem ents66_ok {α : Type} (N : Nat) : AllP (EntOk (C N) Try.f66 an66 (ents66 (α := α) N)) (ents66 N) := ⟨entOk_of (b0 := loopOf 2 Try.f66) (li0 := [0, 1, 5]) (lx0 := [0, 1, 4]) (by kernel_rfl) (by kernel_rfl) ⟨fun d K => L0.e N N d K, trivial⟩, trivial⟩
def g {α : Type} (N : Nat) (a0 : List Int) (a1 : List Int) (kr : (Int → Option α)) : Option α :=
 L0.f N (a0) (a1) N (0) (fun x3 => kr (x3)) (cond (decide ((↑a0.length : Int) < (↑a1.length : Int))) (kr (-1)) (cond (decide ((↑a1.length : Int) < (↑a0.length : Int))) (kr (1)) (kr (0))))
theorem eq (N : Nat) (a0 : List Int) (a1 : List Int) : evF (C N) 50 Try.f66 an66 (smL (ents66 N) 0 50) [((.int .i64 : K), false)] [⟨.sl (.int .i64), a0⟩, ⟨.sl (.int .i64), a1⟩] = g N a0 a1 (fun r0 => some [.dat (K.int IntKind.i64) r0]) := by kernel_rfl
theorem ctxOk (N : Nat) : CtxOk P (C N) := ctxOk_of tysOk mixedOk trivial trivial
theorem calls (N : Nat) (a0 : List Int) (a1 : List Int) {rs : List Rs} (h : g N a0 a1 (fun r0 => some [.dat (K.int IntKind.i64) r0]) = some rs) : CallsTo P 66 [⟨.sl (.int .i64), a0⟩, ⟨.sl (.int .i64), a1⟩] rs := evF_calls' (ctxOk N) (by rfl) (ents66_ok N) ((eq N a0 a1).trans h)
def L0.l {α : Type} (N : Nat) (x0 : (List Int)) (x1 : (List Int)) (k0 : (Int → Option α)) (k1 : Option α) : List Int → Int → Option α
 | [], x2 => k1 
 | x :: l, x2 => cond (decide (x2 < (↑x1.length : Int))) ((cond (decide (0 ≤ x2) && decide (x2 < (↑x1.length : Int))) (cond (decide (x < x1.getD x2.toNat (0 : Int))) (k0 (-1)) ((cond (decide (0 ≤ x2) && decide (x2 < (↑x1.length : Int))) (cond (decide (x1.getD x2.toNat 0 < x)) (k0 (1)) (L0.l N x0 x1 k0 k1 l (x2 + 1))) (none)))) (none))) (k1 )
theorem L0.rng {α : Type} {N : Nat} (x0 : (List Int)) (x1 : (List Int)) (hl : x0.length ≤ maxLen) (k0 : (Int → Option α)) (k1 : Option α) : ∀ (n j : Nat), x0.length < n + j → j ≤ x0.length → L0.f N x0 x1 n (j : Int) k0 k1 = L0.l N x0 x1 k0 k1 (x0.drop j) (j : Int) :=
 rng0 x0 hl (fun n i => L0.f N x0 x1 n i k0 k1) (fun l i => L0.l N x0 x1 k0 k1 l i) (fun n j hj h ih => by simp only [L0.f, L0.st, L0.l, h.a, h.b, h.c, h.d, h.e, Bool.true_and, Bool.and_true, Bool.and_self, cond_true, ih] <;> rfl) (fun n j h => by simp only [L0.f, L0.st, L0.l, h, cond_false])
end vector_Compare
theorem vector_Compare.L0.law {α : Type} {N : Nat} (x0 x1 : List Int) (K : Int → Option α) : ∀ (l : List Int) (j : Nat), l = x0.drop j → j ≤ x0.length → j ≤ x1.length →
  vector_Compare.L0.l N x0 x1 (fun x => K x) (cond (decide ((x0.length : Int) < (x1.length : Int))) (K (-1)) (cond (decide ((x1.length : Int) < (x0.length : Int))) (K 1) (K 0))) l (j : Int) = K (cmpL l (x1.drop j))
 | [], j, hl, h0, h1 => by
  have hj : x0.length = j := by
   have := congrArg List.length hl
   simp at this
   omega
  rw [vector_Compare.L0.l]
  by_cases h : j < x1.length
  ·
   rw [decide_eq_true (by omega), cond_true, List.drop_eq_getElem_cons h]
   rfl
  ·
   rw [decide_eq_false (by omega), decide_eq_false (by omega), List.drop_eq_nil_of_le (by omega)]
   rfl
 | x :: l, j, hl, h0, h1 => by
  obtain ⟨hj, hx, hl'⟩ := drop_step hl
  rw [vector_Compare.L0.l]
  by_cases h : j < x1.length
  ·
   simp only [d_lt h, d_0, Bool.and_self, cond_true, getD_at h]
   have ih := vector_Compare.L0.law (N := N) x0 x1 K l (j + 1) hl' (by omega) (by omega)
   rw [succ_cast] at ih
   rw [List.drop_eq_getElem_cons h, cmpL, ih]
   cases decide (x < x1[j])
   ·
    cases decide (x1[j] < x) <;> rfl
   ·
    rfl
  ·
   have e1 : decide ((j : Int) < (x1.length : Int)) = false := decide_eq_false (by omega)
   rw [e1, cond_false, decide_eq_false (by omega), decide_eq_true (by omega), List.drop_eq_nil_of_le (by omega)]
   rfl
theorem vector_Compare.law {α : Type} {N : Nat} (hN : 18446744073709551616 ≤ N) (a0 : List Int) (a1 : List Int) (w0 : K.wf (.sl (.int .i64)) a0) (w1 : K.wf (.sl (.int .i64)) a1) (kr : (Int → Option α)) : vector_Compare.g N a0 a1 kr = kr (vector_Compare.spec a0 a1) := by
 unfold vector_Compare.g vector_Compare.spec
 refine (vector_Compare.L0.rng (N := N) _ _ (w0.1) _ _ N 0  (by have := le_fuel (w0.1) hN; omega) (Nat.zero_le _)).trans ?_
 rw [List.drop_zero]
 exact vector_Compare.L0.law (N := N) a0 a1 (fun x => kr x) a0 0 rfl (Nat.zero_le _) (Nat.zero_le _)
theorem vector_Compare.ok : FentOk P 66 vector_Compare.fent := fentOk_of (by kernel_rfl) fun ds hk => by
 obtain ⟨a0, l0, rfl, h0⟩ := ds_cons hk
 obtain ⟨a1, l1, rfl, h1⟩ := ds_cons h0
 obtain rfl := ds0 h1
 exact ⟨true, [.dat (.int .i64) (vector_Compare.spec a0 a1)], fun h hw => vector_Compare.calls 18446744073709551616 a0 a1 (vector_Compare.law (Nat.le_refl _) a0 a1 hw.1 hw.2.1 _), fun α k => rfl⟩
end Go.VI
namespace Go.VI
open Go Go.Proofs
namespace semiflow_sorted
def an39 : Ann := [(3, [3, 8, 9, 10], [3]), (8, [3, 6, 7, 8, 9, 10], [3, 6, 7, 8, 9, 10])]
def L0.sh : Sh := { sl := [(3, SV.a (SA.fx (Atom.sl 0 0 none))), (6, SV.a (SA.fx (Atom.sl 1 0 none))), (7, SV.a (SA.d (K.int IntKind.i64))), (8, SV.a (SA.d ((K.int IntKind.i64).sl.pr (K.int IntKind.i64)).st.sl)), (9, SV.a (SA.d (K.int IntKind.i64))), (10, SV.a (SA.d (K.int IntKind.i64)))], os := [(0, SO.row (K.int IntKind.i64).sl 0), (1, SO.row (K.int IntKind.i64) 0)], nx := 2 }
def L0.x0 : Sh := { sl := [(3, SV.a (SA.fx (Atom.sl 0 0 none))), (6, SV.a (SA.fx (Atom.sl 1 0 none))), (7, SV.a (SA.d (K.int IntKind.i64))), (8, SV.a (SA.d ((K.int IntKind.i64).sl.pr (K.int IntKind.i64)).st.sl)), (9, SV.a (SA.d (K.int IntKind.i64))), (10, SV.a (SA.d (K.int IntKind.i64)))], os := [(0, SO.row (K.int IntKind.i64).sl 0), (1, SO.row (K.int IntKind.i64) 0)], nx := 2 }
def L0.st {α : Type} (N : Nat) (x8 : (List (List Int))) (x9 : (List Int)) (φ : (Int → Option α)) (x4 : Int) (k0 : (Int → Option α)) : Option α :=
 cond (decide (x4 < (↑x8.length : Int))) (cond (decide (0 ≤ x4) && decide (x4 < (↑x8.length : Int))) (cond (decide (0 < (vector_Compare.spec (x8.getD (0 + x4.toNat) []) x9))) (φ (IntKind.i64.wrap (x4 + 1))) (k0 (x4))) (none)) (k0 (x4))
def L0.f {α : Type} (N : Nat) (c3 : (List (List Int))) (c4 : (List Int)) : Nat → Int → (Int → Option α) → Option α
 | 0, _, _ => none
 | n + 1, d0, k0 => L0.st N c3 c4 (fun e0 => L0.f N c3 c4 n e0 k0) d0 k0
def L0.up (d : L0.sh.T) (e0 : Int) : L0.sh.T := (((), ((), (e0, (d.1.2.2.2.1, (d.1.2.2.2.2.1, (d.1.2.2.2.2.2.1, ())))))), (d.2.1, (d.2.2.1, ())))
def L0.k0 {α : Type} (d : L0.sh.T) (K : Cont α) : (Int → Option α) := fun y0 => K (Exit.exit 2) (L0.x0.enc (((), ((), (y0, (d.1.2.2.2.1, (d.1.2.2.2.2.1, (d.1.2.2.2.2.2.1, ())))))), (d.2.1, (d.2.2.1, ()))))
def L0.F {α : Type} (N : Nat) (d : L0.sh.T) (K : Cont α) : Option α := L0.f N d.2.1 d.2.2.1 N d.1.2.2.1 (L0.k0 d K)
def L1.sh : Sh := { sl := [(3, SV.a (SA.fx (Atom.sl 0 0 none))), (8, SV.a (SA.d ((K.int IntKind.i64).sl.pr (K.int IntKind.i64)).st.sl)), (9, SV.a (SA.d (K.int IntKind.i64))), (10, SV.a (SA.d (K.int IntKind.i64)))], os := [(0, SO.row (K.int IntKind.i64).sl 0)], nx := 1 }
def L1.x0 : Sh := { sl := [(3, SV.a (SA.fx (Atom.sl 0 0 none)))], os := [(0, SO.row (K.int IntKind.i64).sl 0)], nx := 1 }
def L1.st {α : Type} (N : Nat) (x0 : (List (List Int × Int))) (x1 : Int) (φ : (Int → (List (List Int)) → Option α)) (x2 : Int) (x3 : (List (List Int))) (k0 : ((List (List Int)) → Option α)) : Option α :=
 cond (decide (x2 < x1)) (cond (decide (0 ≤ x2) && decide (x2 < (↑x0.length : Int))) (cond (decide (0 ≤ IntKind.i64.wrap ((↑(List.length (x0.getD x2.toNat ([], 0)).fst) : Int) - (x0.getD x2.toNat ([], 0)).snd)) && decide (IntKind.i64.wrap ((↑(List.length (x0.getD x2.toNat ([], 0)).fst) : Int) - (x0.getD x2.toNat ([], 0)).snd) ≤ IntKind.i64.wrap ((↑(List.length (x0.getD x2.toNat ([], 0)).fst) : Int) - (x0.getD x2.toNat ([], 0)).snd)) && decide (IntKind.i64.wrap ((↑(List.length (x0.getD x2.toNat ([], 0)).fst) : Int) - (x0.getD x2.toNat ([], 0)).snd) ≤ 1073741824)) (cond (decide (0 ≤ (x0.getD x2.toNat ([], 0)).snd) && decide ((x0.getD x2.toNat ([], 0)).snd ≤ (↑(List.length (x0.getD x2.toNat ([], 0)).fst) : Int)) && decide ((↑(List.length (x0.getD x2.toNat ([], 0)).fst) : Int) ≤ (↑(List.length (x0.getD x2.toNat ([], 0)).fst) : Int))) (L0.f N (x3) (List.take 0 (List.replicate (IntKind.i64.wrap ((↑(List.length (x0.getD x2.toNat ([], 0)).fst) : Int) - (x0.getD x2.toNat ([], 0)).snd)).toNat (0 : Int)) ++ List.take (List.replicate (IntKind.i64.wrap ((↑(List.length (x0.getD x2.toNat ([], 0)).fst) : Int) - (x0.getD x2.toNat ([], 0)).snd)).toNat (0 : Int)).length (List.drop (Int.toNat (x0.getD x2.toNat ([], 0)).snd) (x0.getD x2.toNat ([], 0)).fst) ++ List.drop (0 + min (List.drop (Int.toNat (x0.getD x2.toNat ([], 0)).snd) (x0.getD x2.toNat ([], 0)).fst).length (List.replicate (IntKind.i64.wrap ((↑(List.length (x0.getD x2.toNat ([], 0)).fst) : Int) - (x0.getD x2.toNat ([], 0)).snd)).toNat (0 : Int)).length) (List.replicate (IntKind.i64.wrap ((↑(List.length (x0.getD x2.toNat ([], 0)).fst) : Int) - (x0.getD x2.toNat ([], 0)).snd)).toNat (0 : Int))) N (0) (fun x10 => cond ((x3.length + 1).ble mxl) (cond (decide (0 ≤ IntKind.i64.wrap (x10 + 1)) && decide (IntKind.i64.wrap (x10 + 1) ≤ (↑(List.length (x3 ++ [[]])) : Int)) && decide ((↑(List.length (x3 ++ [[]])) : Int) ≤ (↑(List.length (x3 ++ [[]])) : Int))) (cond (decide (0 ≤ x10) && decide (x10 ≤ (↑(List.length (x3 ++ [[]])) : Int)) && decide ((↑(List.length (x3 ++ [[]])) : Int) ≤ (↑(List.length (x3 ++ [[]])) : Int))) (cond (decide (0 ≤ x10) && decide (x10 < (↑(List.take (0 + (IntKind.i64.wrap (x10 + 1)).toNat) (x3 ++ [[]]) ++ List.take (List.take ((↑(List.length (x3 ++ [[]])) : Int).toNat - (IntKind.i64.wrap (x10 + 1)).toNat) (List.drop (0 + (IntKind.i64.wrap (x10 + 1)).toNat) (x3 ++ [[]]))).length (List.take ((↑(List.length (x3 ++ [[]])) : Int).toNat - x10.toNat) (List.drop (0 + x10.toNat) (x3 ++ [[]]))) ++ List.drop (0 + (IntKind.i64.wrap (x10 + 1)).toNat + min (List.take ((↑(List.length (x3 ++ [[]])) : Int).toNat - x10.toNat) (List.drop (0 + x10.toNat) (x3 ++ [[]]))).length (List.take ((↑(List.length (x3 ++ [[]])) : Int).toNat - (IntKind.i64.wrap (x10 + 1)).toNat) (List.drop (0 + (IntKind.i64.wrap (x10 + 1)).toNat) (x3 ++ [[]]))).length) (x3 ++ [[]])).length : Int))) (φ (IntKind.i64.wrap (x2 + 1)) ((List.take (0 + (IntKind.i64.wrap (x10 + 1)).toNat) (x3 ++ [[]]) ++ List.take (List.take ((↑(List.length (x3 ++ [[]])) : Int).toNat - (IntKind.i64.wrap (x10 + 1)).toNat) (List.drop (0 + (IntKind.i64.wrap (x10 + 1)).toNat) (x3 ++ [[]]))).length (List.take ((↑(List.length (x3 ++ [[]])) : Int).toNat - x10.toNat) (List.drop (0 + x10.toNat) (x3 ++ [[]]))) ++ List.drop (0 + (IntKind.i64.wrap (x10 + 1)).toNat + min (List.take ((↑(List.length (x3 ++ [[]])) : Int).toNat - x10.toNat) (List.drop (0 + x10.toNat) (x3 ++ [[]]))).length (List.take ((↑(List.length (x3 ++ [[]])) : Int).toNat - (IntKind.i64.wrap (x10 + 1)).toNat) (List.drop (0 + (IntKind.i64.wrap (x10 + 1)).toNat) (x3 ++ [[]]))).length) (x3 ++ [[]])).set (0 + x10.toNat) (List.take 0 (List.replicate (IntKind.i64.wrap ((↑(List.length (x0.getD x2.toNat ([], 0)).fst) : Int) - (x0.getD x2.toNat ([], 0)).snd)).toNat (0 : Int)) ++ List.take (List.replicate (IntKind.i64.wrap ((↑(List.length (x0.getD x2.toNat ([], 0)).fst) : Int) - (x0.getD x2.toNat ([], 0)).snd)).toNat (0 : Int)).length (List.drop (Int.toNat (x0.getD x2.toNat ([], 0)).snd) (x0.getD x2.toNat ([], 0)).fst) ++ List.drop (0 + min (List.drop (Int.toNat (x0.getD x2.toNat ([], 0)).snd) (x0.getD x2.toNat ([], 0)).fst).length (List.replicate (IntKind.i64.wrap ((↑(List.length (x0.getD x2.toNat ([], 0)).fst) : Int) - (x0.getD x2.toNat ([], 0)).snd)).toNat (0 : Int)).length) (List.replicate (IntKind.i64.wrap ((↑(List.length (x0.getD x2.toNat ([], 0)).fst) : Int) - (x0.getD x2.toNat ([], 0)).snd)).toNat (0 : Int))))) (none)) (none)) (none)) (none))) (none)) (none)) (none)) (k0 (x3))
def L1.f {α : Type} (N : Nat) (c0 : (List (List Int × Int))) (c1 : Int) : Nat → Int → (List (List Int)) → ((List (List Int)) → Option α) → Option α
 | 0, _, _, _ => none
 | n + 1, d0, d1, k0 => L1.st N c0 c1 (fun e0 e1 => L1.f N c0 c1 n e0 e1 k0) d0 d1 k0
def L1.up (d : L1.sh.T) (e0 : Int) (e1 : (List (List Int))) : L1.sh.T := (((), (d.1.2.1, (d.1.2.2.1, (e0, ())))), (e1, ()))
def L1.k0 {α : Type} (d : L1.sh.T) (K : Cont α) : ((List (List Int)) → Option α) := fun y0 => K (Exit.exit 0) (L1.x0.enc (((), ()), (y0, ())))
def L1.F {α : Type} (N : Nat) (d : L1.sh.T) (K : Cont α) : Option α := L1.f N d.1.2.1 d.1.2.2.1 N d.1.2.2.2.1 d.2.1 (L1.k0 d K)
def ents39 {α : Type} (N : Nat) : List (SmE α) := [⟨0, 50, 8, [⟨L0.sh, L0.F N⟩]⟩, ⟨0, 50, 3, [⟨L1.sh, L1.F N⟩]⟩]
def C (N : Nat) : Ctx := ⟨tys, [(66, vector_Compare.fent)], [], N⟩
def L0.B {α : Type} (N : Nat) : Env → Cont α → Option α := evC tys 60 0 (evCall (C N) 50) (evCallQ (C N)) N an39 (smL (ents39 N) 0 50) (loopOf 8 Try.f39)
theorem L0.r {α : Type} (N : Nat) (φ : Env → Option α) (K : Cont α) (d : L0.sh.T) : L0.B N (L0.sh.enc d) (contL φ K (Env.norm 0 [3, 6, 7, 8, 9, 10]) (Env.norm 0 [3, 6, 7, 8, 9, 10])) = L0.st N d.2.1 d.2.2.1 (fun e0 => φ (L0.sh.enc (L0.up d e0))) d.1.2.2.1 (L0.k0 d K) := by kernel_rfl
theorem L0.e {α : Type} (N : Nat) : ∀ (n : Nat) (d : L0.sh.T) (K : Cont α), evL (L0.B N) (Env.norm 0 [3, 6, 7, 8, 9, 10]) (Env.norm 0 [3, 6, 7, 8, 9, 10]) n (L0.sh.enc d) K = L0.f N d.2.1 d.2.2.1 n d.1.2.2.1 (L0.k0 d K)
 | 0, d, K => rfl
 | n + 1, d, K => evL_contL.trans ((L0.r N _ K d).trans (congrArg (fun φ => L0.st N d.2.1 d.2.2.1 φ d.1.2.2.1 (L0.k0 d K)) (funext fun e0 => L0.e N n (L0.up d e0) K)))
def L1.B {α : Type} (N : Nat) : Env → Cont α → Option α := evC tys 60 0 (evCall (C N) 50) (evCallQ (C N)) N an39 (smL (ents39 N) 0 50) (loopOf 3 Try.f39)
theorem L1.r {α : Type} (N : Nat) (φ : Env → Option α) (K : Cont α) (d : L1.sh.T) : L1.B N (L1.sh.enc d) (contL φ K (Env.norm 0 [3, 8, 9, 10]) (Env.norm 0 [3])) = L1.st N d.1.2.1 d.1.2.2.1 (fun e0 e1 => φ (L1.sh.enc (L1.up d e0 e1))) d.1.2.2.2.1 d.2.1 (L1.k0 d K) := by kernel_rfl
theorem L1.e {α : Type} (N : Nat) : ∀ (n : Nat) (d : L1.sh.T) (K : Cont α), evL (L1.B N) (Env.norm 0 [3, 8, 9, 10]) (Env.norm 0 [3]) n (L1.sh.enc d) K = L1.f N d.1.2.1 d.1.2.2.1 n d.1.2.2.2.1 d.2.1 (L1.k0 d K)
 | 0, d, K => rfl
 | n + 1, d, K => evL_contL.trans ((L1.r N _ K d).trans (congrArg (fun φ => L1.st N d.1.2.1 d.1.2.2.1 φ d.1.2.2.2.1 d.2.1 (L1.k0 d K)) (funext fun e0 => funext fun e1 => L1.e N n (L1.up d e0 e1) K)))
theorem ents39_ok {α : Type} (N : Nat) : AllP (EntOk (C N) Try.f39 an39 (ents39 (α := α) N)) (ents39 N) := ⟨entOk_of (b0 := loopOf 8 Try.f39) (li0 := [3, 6, 7, 8, 9, 10]) (lx0 := [3, 6, 7, 8, 9, 10]) (by kernel_rfl) (by kernel_rfl) ⟨fun d K => L0.e N N d K, trivial⟩, entOk_of (b0 := loopOf 3 Try.f39) (li0 := [3, 8, 9, 10]) (lx0 := [3]) (by kernel_rfl) (by kernel_rfl) ⟨fun d K => L1.e N N d K, trivial⟩, trivial⟩
def g {α : Type} (N : Nat) (a0 : List (List Int × Int)) (kr : ((List (List Int)) → Option α)) : Option α :=
 L1.f N (a0) ((↑a0.length : Int)) N (0) ([]) (fun x11 => kr (x11))
theorem eq (N : Nat) (a0 : List (List Int × Int)) : evF (C N) 50 Try.f39 an39 (smL (ents39 N) 0 50) [((.sl (.sl (.int .i64)) : K), false)] [⟨.sl (.st (.pr (.sl (.int .i64)) (.int .i64))), a0⟩] = g N a0 (fun r0 => some [.dat ((K.int IntKind.i64).sl.sl) r0]) := by kernel_rfl
theorem ctxOk (N : Nat) : CtxOk P (C N) := ctxOk_of tysOk mixedOk ⟨vector_Compare.ok, trivial⟩ trivial
theorem calls (N : Nat) (a0 : List (List Int × Int)) {rs : List Rs} (h : g N a0 (fun r0 => some [.dat ((K.int IntKind.i64).sl.sl) r0]) = some rs) : CallsTo P 39 [⟨.sl (.st (.pr (.sl (.int .i64)) (.int .i64))), a0⟩] rs := evF_calls' (ctxOk N) (by rfl) (ents39_ok N) ((eq N a0).trans h)
def L0.l {α : Type} (N : Nat) (x8 : (List (List Int))) (x9 : (List Int)) (k0 : (Int → Option α)) : List (List Int) → Int → Option α
 | [], x4 => k0 (x4)
 | x :: l, x4 => (cond (decide (0 < (vector_Compare.spec x x9))) (L0.l N x8 x9 k0 l (x4 + 1)) (k0 (x4)))
theorem L0.rng {α : Type} {N : Nat} (x8 : (List (List Int))) (x9 : (List Int)) (hl : x8.length ≤ maxLen) (k0 : (Int → Option α)) : ∀ (n j : Nat), x8.length < n + j → j ≤ x8.length → L0.f N x8 x9 n (j : Int) k0 = L0.l N x8 x9 k0 (x8.drop j) (j : Int) :=
 rng0 x8 hl (fun n i => L0.f N x8 x9 n i k0) (fun l i => L0.l N x8 x9 k0 l i) (fun n j hj h ih => by simp only [L0.f, L0.st, L0.l, h.a, h.b, h.c, h.d, h.e, Bool.true_and, Bool.and_true, Bool.and_self, cond_true, ih] <;> rfl) (fun n j h => by simp only [L0.f, L0.st, L0.l, h, cond_false])
def L1.l {α : Type} (N : Nat) (x0 : (List (List Int × Int))) (k0 : ((List (List Int)) → Option α)) : List (List Int × Int) → Int → (List (List Int)) → Option α
 | [], x2, x3 => k0 (x3)
 | x :: l, x2, x3 => (cond (decide (0 ≤ IntKind.i64.wrap ((↑(List.length x.fst) : Int) - x.snd)) && decide (IntKind.i64.wrap ((↑(List.length x.fst) : Int) - x.snd) ≤ IntKind.i64.wrap ((↑(List.length x.fst) : Int) - x.snd)) && decide (IntKind.i64.wrap ((↑(List.length x.fst) : Int) - x.snd) ≤ 1073741824)) (cond (decide (0 ≤ x.snd) && decide (x.snd ≤ (↑(List.length x.fst) : Int)) && decide ((↑(List.length x.fst) : Int) ≤ (↑(List.length x.fst) : Int))) (L0.f N (x3) (List.take 0 (List.replicate (IntKind.i64.wrap ((↑(List.length x.fst) : Int) - x.snd)).toNat (0 : Int)) ++ List.take (List.replicate (IntKind.i64.wrap ((↑(List.length x.fst) : Int) - x.snd)).toNat (0 : Int)).length (List.drop (Int.toNat x.snd) x.fst) ++ List.drop (0 + min (List.drop (Int.toNat x.snd) x.fst).length (List.replicate (IntKind.i64.wrap ((↑(List.length x.fst) : Int) - x.snd)).toNat (0 : Int)).length) (List.replicate (IntKind.i64.wrap ((↑(List.length x.fst) : Int) - x.snd)).toNat (0 : Int))) N (0) (fun x10 => cond ((x3.length + 1).ble mxl) (cond (decide (0 ≤ IntKind.i64.wrap (x10 + 1)) && decide (IntKind.i64.wrap (x10 + 1) ≤ (↑(List.length (x3 ++ [[]])) : Int)) && decide ((↑(List.length (x3 ++ [[]])) : Int) ≤ (↑(List.length (x3 ++ [[]])) : Int))) (cond (decide (0 ≤ x10) && decide (x10 ≤ (↑(List.length (x3 ++ [[]])) : Int)) && decide ((↑(List.length (x3 ++ [[]])) : Int) ≤ (↑(List.length (x3 ++ [[]])) : Int))) (cond (decide (0 ≤ x10) && decide (x10 < (↑(List.take (0 + (IntKind.i64.wrap (x10 + 1)).toNat) (x3 ++ [[]]) ++ List.take (List.take ((↑(List.length (x3 ++ [[]])) : Int).toNat - (IntKind.i64.wrap (x10 + 1)).toNat) (List.drop (0 + (IntKind.i64.wrap (x10 + 1)).toNat) (x3 ++ [[]]))).length (List.take ((↑(List.length (x3 ++ [[]])) : Int).toNat - x10.toNat) (List.drop (0 + x10.toNat) (x3 ++ [[]]))) ++ List.drop (0 + (IntKind.i64.wrap (x10 + 1)).toNat + min (List.take ((↑(List.length (x3 ++ [[]])) : Int).toNat - x10.toNat) (List.drop (0 + x10.toNat) (x3 ++ [[]]))).length (List.take ((↑(List.length (x3 ++ [[]])) : Int).toNat - (IntKind.i64.wrap (x10 + 1)).toNat) (List.drop (0 + (IntKind.i64.wrap (x10 + 1)).toNat) (x3 ++ [[]]))).length) (x3 ++ [[]])).length : Int))) (L1.l N x0 k0 l (x2 + 1) ((List.take (0 + (IntKind.i64.wrap (x10 + 1)).toNat) (x3 ++ [[]]) ++ List.take (List.take ((↑(List.length (x3 ++ [[]])) : Int).toNat - (IntKind.i64.wrap (x10 + 1)).toNat) (List.drop (0 + (IntKind.i64.wrap (x10 + 1)).toNat) (x3 ++ [[]]))).length (List.take ((↑(List.length (x3 ++ [[]])) : Int).toNat - x10.toNat) (List.drop (0 + x10.toNat) (x3 ++ [[]]))) ++ List.drop (0 + (IntKind.i64.wrap (x10 + 1)).toNat + min (List.take ((↑(List.length (x3 ++ [[]])) : Int).toNat - x10.toNat) (List.drop (0 + x10.toNat) (x3 ++ [[]]))).length (List.take ((↑(List.length (x3 ++ [[]])) : Int).toNat - (IntKind.i64.wrap (x10 + 1)).toNat) (List.drop (0 + (IntKind.i64.wrap (x10 + 1)).toNat) (x3 ++ [[]]))).length) (x3 ++ [[]])).set (0 + x10.toNat) (List.take 0 (List.replicate (IntKind.i64.wrap ((↑(List.length x.fst) : Int) - x.snd)).toNat (0 : Int)) ++ List.take (List.replicate (IntKind.i64.wrap ((↑(List.length x.fst) : Int) - x.snd)).toNat (0 : Int)).length (List.drop (Int.toNat x.snd) x.fst) ++ List.drop (0 + min (List.drop (Int.toNat x.snd) x.fst).length (List.replicate (IntKind.i64.wrap ((↑(List.length x.fst) : Int) - x.snd)).toNat (0 : Int)).length) (List.replicate (IntKind.i64.wrap ((↑(List.length x.fst) : Int) - x.snd)).toNat (0 : Int))))) (none)) (none)) (none)) (none))) (none)) (none))
theorem L1.rng {α : Type} {N : Nat} (x0 : (List (List Int × Int))) (hl : x0.length ≤ maxLen) (k0 : ((List (List Int)) → Option α)) : ∀ (n j : Nat) (x3 : (List (List Int))), x0.length < n + j → j ≤ x0.length → L1.f N x0 (x0.length : Int) n (j : Int) x3 k0 = L1.l N x0 k0 (x0.drop j) (j : Int) x3 :=
 rng1 x0 hl (fun n i x3 => L1.f N x0 (x0.length : Int) n i x3 k0) (fun l i x3 => L1.l N x0 k0 l i x3) (fun n j hj h ih x3 => by simp only [L1.f, L1.st, L1.l, h.a, h.b, h.c, h.d, h.e, Bool.true_and, Bool.and_true, Bool.and_self, cond_true, ih] <;> rfl) (fun n j h x3 => by simp only [L1.f, L1.st, L1.l, h, cond_false])
end semiflow_sorted
def posD (x : List Int) : List (List Int) → Nat
 | [] => 0
 | y :: l => cond (decide (0 < cmpL y x)) (posD x l + 1) 0
theorem posD_le (x : List Int) : ∀ l, posD x l ≤ l.length
 | [] => Nat.le_refl _
 | y :: l => by
  have := posD_le x l
  rw [posD]
  cases decide (0 < cmpL y x) <;> simp; omega
theorem insD_pos (x : List Int) : ∀ l, insD x l = l.take (posD x l) ++ x :: l.drop (posD x l)
 | [] => rfl
 | y :: l => by
  rw [insD, posD, insD_pos x l]
  cases decide (0 < cmpL y x) <;> rfl
theorem insD_len (x : List Int) : ∀ l, (insD x l).length = l.length + 1
 | [] => rfl
 | y :: l => by
  have := insD_len x l
  rw [insD]
  cases decide (0 < cmpL y x) <;> simp [this]
theorem semiflow_sorted.L0.law {α : Type} {N : Nat} (x8 : List (List Int)) (x9 : List Int) (k0 : Int → Option α) : ∀ (l : List (List Int)) (j : Nat), semiflow_sorted.L0.l N x8 x9 k0 l (j : Int) = k0 ((j + posD x9 l : Nat) : Int)
 | [], j => rfl
 | x :: l, j => by
  rw [semiflow_sorted.L0.l, posD, ← succ_cast, semiflow_sorted.L0.law x8 x9 k0 l (j + 1)]
  show cond (decide (0 < cmpL x x9)) _ _ = _
  cases decide (0 < cmpL x x9)
  ·
   rfl
  ·
   simp only [cond_true]
   rw [show j + 1 + posD x9 l = j + (posD x9 l + 1) by omega]
theorem ins_raw {v : List Int} {l : List (List Int)} {i : Nat} (hi : i ≤ l.length) : (List.take (0 + (i + 1)) (l ++ [[]]) ++ List.take (List.take ((l ++ [[]]).length - (i + 1)) (List.drop (0 + (i + 1)) (l ++ [[]]))).length (List.take ((l ++ [[]]).length - i) (List.drop (0 + i) (l ++ [[]]))) ++ List.drop (0 + (i + 1) + min (List.take ((l ++ [[]]).length - i) (List.drop (0 + i) (l ++ [[]]))).length (List.take ((l ++ [[]]).length - (i + 1)) (List.drop (0 + (i + 1)) (l ++ [[]]))).length) (l ++ [[]])).set (0 + i) v = l.take i ++ v :: l.drop i ∧ i < (List.take (0 + (i + 1)) (l ++ [[]]) ++ List.take (List.take ((l ++ [[]]).length - (i + 1)) (List.drop (0 + (i + 1)) (l ++ [[]]))).length (List.take ((l ++ [[]]).length - i) (List.drop (0 + i) (l ++ [[]]))) ++ List.drop (0 + (i + 1) + min (List.take ((l ++ [[]]).length - i) (List.drop (0 + i) (l ++ [[]]))).length (List.take ((l ++ [[]]).length - (i + 1)) (List.drop (0 + (i + 1)) (l ++ [[]]))).length) (l ++ [[]])).length := by
 have e1 : (List.take ((l ++ [[]]).length - (i + 1)) (List.drop (0 + (i + 1)) (l ++ [[]]))).length = l.length - i := by simp <;> omega
 have e2 : (List.take ((l ++ [[]]).length - i) (List.drop (0 + i) (l ++ [[]]))) = l.drop i ++ [[]] := by
  rw [Nat.zero_add, List.drop_append_of_le_length hi, List.take_of_length_le (by simp; omega)]
 rw [e1, e2]
 have e3 : List.take (l.length - i) (l.drop i ++ [[]]) = l.drop i := by
  rw [List.take_append_of_le_length (by simp), List.take_of_length_le (by simp)]
 have e4 : List.drop (0 + (i + 1) + min (l.drop i ++ [([] : List Int)]).length (l.length - i)) (l ++ [[]]) = [] := by
  apply List.drop_eq_nil_of_le
  simp
  omega
 rw [e3, e4, List.append_nil]
 have e5 : List.take (0 + (i + 1)) (l ++ [[]]) = l.take i ++ [(l ++ [[]])[i]'(by simp; omega)] := by
  rw [Nat.zero_add, List.take_succ_eq_append_getElem (by simp; omega), List.take_append_of_le_length hi]
 rw [e5, Nat.zero_add]
 constructor
 ·
  rw [List.append_assoc, List.singleton_append, set_mid (l.take i) (l.drop i) _ v (by simp; omega)]
 ·
  simp; omega
theorem semiflow_sorted.L1.law {α : Type} {N : Nat} (hN : 18446744073709551616 ≤ N) (x0 : List RowT) (k0 : List (List Int) → Option α) : ∀ (l : List RowT) (j : Int) (acc : List (List Int)), (∀ r ∈ l, 0 ≤ r.2 ∧ r.2 ≤ (r.1.length : Int) ∧ r.1.length ≤ 1073741824) → acc.length + l.length ≤ 1000000 →
  semiflow_sorted.L1.l N x0 k0 l j acc = k0 (sortedG acc l)
 | [], j, acc, _, _ => rfl
 | x :: l, j, acc, h, hl => by
  obtain ⟨h1, h2, h3⟩ := h x (by simp)
  simp only [List.length_cons] at hl
  obtain ⟨k, hk⟩ := Int.eq_ofNat_of_zero_le h1
  have hkl : k ≤ x.1.length := by omega
  have ew : IntKind.i64.wrap ((x.1.length : Int) - x.2) = ((x.1.length - k : Nat) : Int) := by rw [wrap_i64 (inI_i64.2 (by omega))]; omega
  have e1 : decide (((x.1.length - k : Nat) : Int) ≤ 1073741824) = true := decide_eq_true (by omega)
  rw [semiflow_sorted.L1.l, ew, d_0, decide_eq_true (Int.le_refl _), e1, decide_eq_true h1, decide_eq_true h2]
  simp only [Bool.and_self, cond_true, Int.le_refl, decide_true, Int.toNat_natCast]
  have ev : List.take 0 (List.replicate (x.1.length - k) (0 : Int)) ++ List.take (List.replicate (x.1.length - k) (0 : Int)).length (List.drop (Int.toNat x.2) x.1) ++ List.drop (0 + min (List.drop (Int.toNat x.2) x.1).length (List.replicate (x.1.length - k) (0 : Int)).length) (List.replicate (x.1.length - k) (0 : Int)) = rowX x := by
   unfold rowX
   have ed : List.drop (0 + min (List.drop k x.1).length (x.1.length - k)) (List.replicate (x.1.length - k) (0 : Int)) = [] := by
    apply List.drop_eq_nil_of_le
    simp
   rw [hk, Int.toNat_natCast, List.length_replicate, List.take_zero, List.nil_append, ed, List.append_nil, List.take_of_length_le (by simp)]
  rw [ev]
  have hw : acc.length ≤ maxLen := by unfold maxLen; omega
  refine (semiflow_sorted.L0.rng (N := N) acc _ hw _ N 0 (by have := le_fuel hw hN; omega) (Nat.zero_le _)).trans ?_
  rw [List.drop_zero, semiflow_sorted.L0.law, Nat.zero_add]
  have hp := posD_le (rowX x) acc
  have ew2 : IntKind.i64.wrap (((posD (rowX x) acc : Nat) : Int) + 1) = ((posD (rowX x) acc + 1 : Nat) : Int) := by rw [wrap_i64 (inI_i64.2 (by omega))]; omega
  obtain ⟨r1, r2⟩ := ins_raw (v := rowX x) hp
  rw [show ((acc.length + 1).ble mxl) = true from ble1 _ (by omega), ew2]
  have a1 : decide (((posD (rowX x) acc + 1 : Nat) : Int) ≤ (((acc ++ [[]]).length : Nat) : Int)) = true := decide_eq_true (by simp; omega)
  have a2 : decide (((posD (rowX x) acc : Nat) : Int) ≤ (((acc ++ [[]]).length : Nat) : Int)) = true := decide_eq_true (by simp; omega)
  rw [a1, a2]
  simp only [Int.toNat_natCast, d_0, decide_eq_true (Int.le_refl _), Bool.and_self, cond_true]
  rw [d_lt r2]
  simp only [Bool.and_self, cond_true]
  rw [r1, ← insD_pos]
  exact semiflow_sorted.L1.law hN x0 k0 l _ _ (fun r hr => h r (by simp [hr])) (by rw [insD_len]; omega)
theorem semiflow_sorted.law {α : Type} {N : Nat} (hN : 18446744073709551616 ≤ N) (a0 : List (List Int × Int)) (w0 : K.wf (.sl (.st (.pr (.sl (.int .i64)) (.int .i64)))) a0) (hp : semiflow_sorted.pre a0 = true) (kr : ((List (List Int)) → Option α)) : semiflow_sorted.g N a0 kr = kr (semiflow_sorted.spec a0) := by
 unfold semiflow_sorted.g semiflow_sorted.spec
 simp only [semiflow_sorted.pre, bigL, Bool.and_eq_true, decide_eq_true_eq, List.all_eq_true] at hp
 refine (semiflow_sorted.L1.rng (N := N) _ (w0.1) _ N 0 _ (by have := le_fuel (w0.1) hN; omega) (Nat.zero_le _)).trans ?_
 rw [List.drop_zero]
 exact semiflow_sorted.L1.law (N := N) hN a0 _ a0 _ [] (fun r hr => ⟨(hp.2 r hr).1.1, (hp.2 r hr).1.2, (hp.2 r hr).2⟩) (by simp; omega)
theorem semiflow_sorted.ok : FentOk P 39 semiflow_sorted.fent := fentOk_of (by kernel_rfl) fun ds hk => by
 obtain ⟨a0, l0, rfl, h0⟩ := ds_cons hk
 obtain rfl := ds0 h0
 exact ⟨semiflow_sorted.pre a0, [.dat (.sl (.sl (.int .i64))) (semiflow_sorted.spec a0)], fun h hw => semiflow_sorted.calls 18446744073709551616 a0 (semiflow_sorted.law (Nat.le_refl _) a0 hw.1 h _), fun α k => rfl⟩
end Go.VI
namespace Go.VI
open Go Go.Proofs
namespace semiflow_Solve
def an12 : Ann := [(5, [4, 14, 15], [2, 3, 4])]
def L0.sh : Sh := { sl := [(4, SV.a (SA.d ((K.int IntKind.i64).sl.pr (K.int IntKind.i64)).st.sl)), (14, SV.a (SA.d (K.int IntKind.i64))), (15, SV.a (SA.d (K.int IntKind.i64)))], os := [], nx := 0 }
def L0.x0 : Sh := { sl := [(2, SV.a (SA.fx (Atom.sl 0 0 none))), (3, SV.a (SA.d (K.int IntKind.i64))), (4, SV.a (SA.d ((K.int IntKind.i64).sl.pr (K.int IntKind.i64)).st.sl))], os := [(0, SO.row (K.int IntKind.i64).sl 0)], nx := 1 }
def L0.x1 : Sh := { sl := [(2, SV.j), (3, SV.j), (4, SV.a (SA.d ((K.int IntKind.i64).sl.pr (K.int IntKind.i64)).st.sl))], os := [], nx := 0 }
def L0.st {α : Type} (N : Nat) (x1 : Int) (φ : ((List (List Int × Int)) → Int → Option α)) (x0 : (List (List Int × Int))) (x2 : Int) (k0 : (Int → (List (List Int × Int)) → (List (List Int)) → Option α)) (k1 : ((List (List Int × Int)) → Option α)) : Option α :=
 cond (decide (x2 < x1)) (cond (semiflow_step.pre x0 x2) (cond ((semiflow_step.spec x0 x2).snd != 0) (k0 ((semiflow_step.spec x0 x2).snd) (x0) ([])) (φ ((semiflow_step.spec x0 x2).fst) (IntKind.i64.wrap (x2 + 1)))) (none)) (k1 (x0))
def L0.f {α : Type} (N : Nat) (c0 : Int) : Nat → (List (List Int × Int)) → Int → (Int → (List (List Int × Int)) → (List (List Int)) → Option α) → ((List (List Int × Int)) → Option α) → Option α
 | 0, _, _, _, _ => none
 | n + 1, d0, d1, k0, k1 => L0.st N c0 (fun e0 e1 => L0.f N c0 n e0 e1 k0 k1) d0 d1 k0 k1
def L0.up (d : L0.sh.T) (e0 : (List (List Int × Int))) (e1 : Int) : L0.sh.T := ((e0, (d.1.2.1, (e1, ()))), ())
def L0.k0 {α : Type} (d : L0.sh.T) (K : Cont α) : (Int → (List (List Int × Int)) → (List (List Int)) → Option α) := fun y0 y1 y2 => K (Exit.ret) (L0.x0.enc (((), (y0, (y1, ()))), (y2, ())))
def L0.k1 {α : Type} (d : L0.sh.T) (K : Cont α) : ((List (List Int × Int)) → Option α) := fun y0 => K (Exit.exit 0) (L0.x1.enc (((), ((), (y0, ()))), ()))
def L0.F {α : Type} (N : Nat) (d : L0.sh.T) (K : Cont α) : Option α := L0.f N d.1.2.1 N d.1.1 d.1.2.2.1 (L0.k0 d K) (L0.k1 d K)
def ents12 {α : Type} (N : Nat) : List (SmE α) := [⟨0, 50, 5, [⟨L0.sh, L0.F N⟩]⟩]
def C (N : Nat) : Ctx := ⟨tys, [(36, matrix_Valid.fent), (37, semiflow_start.fent), (38, semiflow_step.fent), (39, semiflow_sorted.fent)], [], N⟩
def L0.B {α : Type} (N : Nat) : Env → Cont α → Option α := evC tys 31 0 (evCall (C N) 50) (evCallQ (C N)) N an12 (smL (ents12 N) 0 50) (loopOf 5 Try.f12)
theorem L0.r {α : Type} (N : Nat) (φ : Env → Option α) (K : Cont α) (d : L0.sh.T) : L0.B N (L0.sh.enc d) (contL φ K (Env.norm 0 [4, 14, 15]) (Env.norm 0 [2, 3, 4])) = L0.st N d.1.2.1 (fun e0 e1 => φ (L0.sh.enc (L0.up d e0 e1))) d.1.1 d.1.2.2.1 (L0.k0 d K) (L0.k1 d K) := by kernel_rfl
theorem L0.e {α : Type} (N : Nat) : ∀ (n : Nat) (d : L0.sh.T) (K : Cont α), evL (L0.B N) (Env.norm 0 [4, 14, 15]) (Env.norm 0 [2, 3, 4]) n (L0.sh.enc d) K = L0.f N d.1.2.1 n d.1.1 d.1.2.2.1 (L0.k0 d K) (L0.k1 d K)
 | 0, d, K => rfl
 | n + 1, d, K => evL_contL.trans ((L0.r N _ K d).trans (congrArg (fun φ => L0.st N d.1.2.1 φ d.1.1 d.1.2.2.1 (L0.k0 d K) (L0.k1 d K)) (funext fun e0 => funext fun e1 => L0.e N n (L0.up d e0 e1) K)))
theorem ents12_ok {α : Type} (N : Nat) : AllP (EntOk (C N) Try.f12 an12 (ents12 (α := α) N)) (ents12 N) := ⟨entOk_of (b0 := loopOf 5 Try.f12) (li0 := [4, 14, 15]) (lx0 := [2, 3, 4]) (by kernel_rfl) (by kernel_rfl) ⟨fun d K => L0.e N N d K, trivial⟩, trivial⟩
def g {α : Type} (N : Nat) (a0 : List (List Int)) (kr : ((List (List Int)) → Int → Option α)) : Option α :=
 cond (!(matrix_Valid.spec a0)) (kr ([]) (2)) (cond (semiflow_start.pre a0) (L0.f N ((↑a0.length : Int)) N ((semiflow_start.spec a0)) (0) (fun x3 x4 x5 => kr (x5) (x3)) (fun x6 => cond (semiflow_sorted.pre x6) (kr ((semiflow_sorted.spec x6)) (0)) (none))) (none))
theorem eq (N : Nat) (a0 : List (List Int)) : evF (C N) 50 Try.f12 an12 (smL (ents12 N) 0 50) [((.sl (.sl (.int .i64)) : K), false), ((.int .i64 : K), false)] [⟨.sl (.sl (.int .i64)), a0⟩] = g N a0 (fun r0 r1 => some [.dat ((K.int IntKind.i64).sl.sl) r0, .dat (K.int IntKind.i64) r1]) := by kernel_rfl
theorem ctxOk (N : Nat) : CtxOk P (C N) := ctxOk_of tysOk mixedOk ⟨matrix_Valid.ok, semiflow_start.ok, semiflow_step.ok, semiflow_sorted.ok, trivial⟩ trivial
theorem calls (N : Nat) (a0 : List (List Int)) {rs : List Rs} (h : g N a0 (fun r0 r1 => some [.dat ((K.int IntKind.i64).sl.sl) r0, .dat (K.int IntKind.i64) r1]) = some rs) : CallsTo P 12 [⟨.sl (.sl (.int .i64)), a0⟩] rs := evF_calls' (ctxOk N) (by rfl) (ents12_ok N) ((eq N a0).trans h)
end semiflow_Solve
theorem startS_ok {a : List (List Int)} (hv : validM a = true) : ∀ r ∈ startS a, rowOk (a.length + (a.headD []).length) (a.length : Int) r := by
 intro r hr
 obtain ⟨c, _, rfl⟩ := List.mem_map.1 hr
 refine ⟨?_, rfl⟩
 simp [unitL]
theorem minG_mem {sets : List Int} : ∀ {l : List RowT} {i : Int} {r : RowT}, r ∈ minG sets i l → r ∈ l
 | [], _, _, h => h
 | x :: l, i, r, h => by
  rw [minG] at h
  cases hd : dropG (suppB (rowX x)) i 0 sets
  ·
   rw [hd] at h
   rcases List.mem_cons.1 h with rfl | h
   ·
    simp
   ·
    exact List.mem_cons_of_mem _ (minG_mem h)
  ·
   rw [hd] at h
   exact List.mem_cons_of_mem _ (minG_mem h)
theorem minG_len {sets : List Int} : ∀ (l : List RowT) (i : Int), (minG sets i l).length ≤ l.length
 | [], _ => Nat.le_refl _
 | x :: l, i => by
  have := minG_len (sets := sets) l (i + 1)
  rw [minG]
  cases dropG (suppB (rowX x)) i 0 sets <;> simp <;> omega
theorem stepS_ok {l : List RowT} {j : Int} {m : Nat} {k : Int} (h : ∀ r ∈ l, rowOk m k r) (hl : l.length ≤ 1000000) (he : (stepS l j).2 = 0) : (∀ r ∈ (stepS l j).1, rowOk m k r) ∧ (stepS l j).1.length ≤ 1000000 := by
 unfold stepS at he ⊢
 cases hp : (pairsS j l (zeroS j l) l).2 == 0
 ·
  simp only [hp, cond_false] at he
  rw [he] at hp; cases hp
 ·
  simp only [cond_true]
  obtain ⟨b1, b2⟩ := pairsS_ok (j := j) h l (zeroS j l) h (fun r hr => h r (List.mem_filter.1 hr).1) (beq0.1 hp)
  have hz : (zeroS j l).length ≤ l.length := List.length_filter_le _ _
  refine ⟨fun r hr => b1 r (minG_mem hr), ?_⟩
  have := minG_len (sets := ((pairsS j l (zeroS j l) l).1.map fun r => suppB (rowX r))) (pairsS j l (zeroS j l) l).1 0
  unfold minimalS
  omega
theorem step_pre {l : List RowT} {j : Int} {e n : Nat} (h : ∀ r ∈ l, rowOk (e + n) (e : Int) r) (hl : l.length ≤ 1000000) (hn : n ≤ 64) (he : e ≤ 64) (hj : 0 ≤ j ∧ j < (e : Int)) : semiflow_step.pre l j = true := by
 unfold semiflow_step.pre semiflow_row_support.pre bigL
 simp only [Bool.and_eq_true, decide_eq_true_eq, List.all_eq_true]
 refine ⟨⟨hl, hj.1⟩, fun r hr => ?_⟩
 obtain ⟨a, b⟩ := h r hr
 have hd : (l.headD ([], 0)).1.length = e + n ∧ (l.headD ([], 0)).2 = (e : Int) := by
  cases l with
  | nil => simp at hr
  | cons x l => exact h x (by simp)
 rw [hd.1, hd.2, a, b]
 omega
theorem semiflow_Solve.L0.law {α : Type} {N : Nat} (e n : Nat) (he : e ≤ 64) (hn : n ≤ 64) (k0 : Int → List RowT → List (List Int) → Option α) (k1 : List RowT → Option α) (R : Int → Option α) (hk : ∀ x l, k0 x l [] = R x) : ∀ (f d : Nat) (l : List RowT) (j : Nat), e < f + j → d + j = e → (∀ r ∈ l, rowOk (e + n) (e : Int) r) → l.length ≤ 1000000 →
  semiflow_Solve.L0.f N (e : Int) f l (j : Int) k0 k1 = cond ((solveG l (j : Int) d).2 == 0) (k1 (solveG l (j : Int) d).1) (R (solveG l (j : Int) d).2)
 | 0, d, l, j, h, hd, _, _ => absurd h (by omega)
 | f + 1, 0, l, j, h, hd, hr, hl => by
  rw [semiflow_Solve.L0.f, semiflow_Solve.L0.st, decide_eq_false (by omega)]
  rfl
 | f + 1, d + 1, l, j, h, hd, hr, hl => by
  rw [semiflow_Solve.L0.f, semiflow_Solve.L0.st, decide_eq_true (by omega), step_pre hr hl hn he (by omega), solveG]
  have ew : IntKind.i64.wrap ((j : Int) + 1) = ((j + 1 : Nat) : Int) := by rw [wrap_i64 (inI_i64.2 (by omega))]; omega
  have hs : semiflow_step.spec l (j : Int) = stepS l (j : Int) := rfl
  rw [hs, ew]
  simp only [cond_true, bne, hk]
  cases hc : (stepS l (j : Int)).2 == 0
  ·
   simp only [Bool.not_false, cond_true, cond_false, hc]
  ·
   obtain ⟨b1, b2⟩ := stepS_ok hr hl (beq0.1 hc)
   simp only [Bool.not_true, cond_false, cond_true]
   rw [semiflow_Solve.L0.law e n he hn k0 k1 R hk f d _ (j + 1) (by omega) (by omega) b1 b2, succ_cast]
theorem solveG_ok {m : Nat} {k : Int} : ∀ (d : Nat) (l : List RowT) (j : Int), (∀ r ∈ l, rowOk m k r) → l.length ≤ 1000000 → (solveG l j d).2 = 0 → (∀ r ∈ (solveG l j d).1, rowOk m k r) ∧ (solveG l j d).1.length ≤ 1000000
 | 0, l, j, hr, hl, _ => ⟨hr, hl⟩
 | d + 1, l, j, hr, hl, he => by
  rw [solveG] at he ⊢
  cases hc : (stepS l j).2 == 0
  ·
   simp only [hc, cond_false] at he
   rw [he] at hc; cases hc
  ·
   rw [hc] at he
   obtain ⟨b1, b2⟩ := stepS_ok hr hl (beq0.1 hc)
   exact solveG_ok d _ _ b1 b2 he
theorem semiflow_Solve.law {α : Type} {N : Nat} (hN : 18446744073709551616 ≤ N) (a0 : List (List Int)) (w0 : K.wf (.sl (.sl (.int .i64))) a0) (kr : ((List (List Int)) → Int → Option α)) : semiflow_Solve.g N a0 kr = kr (semiflow_Solve.spec a0).1 (semiflow_Solve.spec a0).2 := by
 unfold semiflow_Solve.g semiflow_Solve.spec solveS
 rw [show matrix_Valid.spec a0 = validM a0 from rfl]
 cases hv : validM a0
 ·
  rfl
 obtain ⟨⟨h1, h2⟩, h3, h4, h5⟩ := validM_iff.1 hv
 rw [show semiflow_start.pre a0 = validM a0 from rfl, hv]
 simp only [Bool.not_true, cond_false, cond_true]
 have hs := startS_ok hv
 have hl : (startS a0).length ≤ 1000000 := by unfold startS; rw [List.length_map, List.length_range]; omega
 refine (semiflow_Solve.L0.law (N := N) a0.length (a0.headD []).length h2 h5 _ _ (fun x => kr [] x) (fun _ _ => rfl) N a0.length _ 0 (by omega) (by omega) hs hl).trans ?_
 cases hc : (solveG (semiflow_start.spec a0) ((0 : Nat) : Int) a0.length).2 == 0
 ·
  have hc' : ((solveG (startS a0) 0 a0.length).2 == 0) = false := hc
  have hc2 : ((solveG (startS a0) ((0 : Nat) : Int) a0.length).2 == 0) = false := hc
  rw [hc', hc2]
  rfl
 ·
  have hc' : ((solveG (startS a0) 0 a0.length).2 == 0) = true := hc
  obtain ⟨b1, b2⟩ := solveG_ok a0.length _ 0 hs hl (beq0.1 hc')
  have hc2 : ((solveG (startS a0) ((0 : Nat) : Int) a0.length).2 == 0) = true := hc
  rw [hc', hc2]
  have hpre : semiflow_sorted.pre (solveG (startS a0) 0 a0.length).1 = true := by
   unfold semiflow_sorted.pre bigL
   simp only [Bool.and_eq_true, decide_eq_true_eq, List.all_eq_true]
   refine ⟨b2, fun r hr => ?_⟩
   obtain ⟨x, y⟩ := b1 r hr
   rw [x, y]
   omega
  show cond true (cond (semiflow_sorted.pre (solveG (startS a0) 0 a0.length).1) (kr (semiflow_sorted.spec (solveG (startS a0) 0 a0.length).1) 0) none) _ = _
  rw [hpre]
  rfl
theorem semiflow_Solve.ok : FentOk P 12 semiflow_Solve.fent := fentOk_of (by kernel_rfl) fun ds hk => by
 obtain ⟨a0, l0, rfl, h0⟩ := ds_cons hk
 obtain rfl := ds0 h0
 exact ⟨true, [.dat (.sl (.sl (.int .i64))) (semiflow_Solve.spec a0).1, .dat (.int .i64) (semiflow_Solve.spec a0).2], fun h hw => semiflow_Solve.calls 18446744073709551616 a0 (semiflow_Solve.law (Nat.le_refl _) a0 hw.1 _), fun α k => rfl⟩
end Go.VI
namespace Go.VI
open Go Go.Proofs
namespace pf31_Small
def an13 : Ann := [(4, [0, 3], [2]), (7, [0, 3, 4], [0, 2, 3])]
def L0.sh : Sh := { sl := [(0, SV.a (SA.d (K.int IntKind.i64).sl.sl)), (3, SV.a (SA.d (K.int IntKind.i64))), (4, SV.a (SA.d (K.int IntKind.i64)))], os := [], nx := 0 }
def L0.x0 : Sh := { sl := [(0, SV.a (SA.d (K.int IntKind.i64).sl.sl)), (2, SV.a (SA.d K.bool)), (3, SV.a (SA.d (K.int IntKind.i64)))], os := [], nx := 0 }
def L0.x1 : Sh := { sl := [(0, SV.a (SA.d (K.int IntKind.i64).sl.sl)), (2, SV.j), (3, SV.a (SA.d (K.int IntKind.i64)))], os := [], nx := 0 }
def L0.st {α : Type} (N : Nat) (x2 : (List (List Int))) (x3 : Int) (φ : (Int → Option α)) (x4 : Int) (k0 : (Bool → Option α)) (k1 : Option α) : Option α :=
 cond (decide (0 ≤ x3) && decide (x3 < (↑x2.length : Int))) (cond (decide (x4 < (↑(List.length (x2.getD x3.toNat [])) : Int))) (cond (decide (0 ≤ x3) && decide (x3 < (↑x2.length : Int))) (cond (decide (0 ≤ x4) && decide (x4 < (↑(List.length (x2.getD x3.toNat [])) : Int))) (cond (decide (List.getD (x2.getD x3.toNat []) x4.toNat 0 < -3)) (k0 (false)) (cond (decide (0 ≤ x3) && decide (x3 < (↑x2.length : Int))) (cond (decide (0 ≤ x4) && decide (x4 < (↑(List.length (x2.getD x3.toNat [])) : Int))) (cond (decide (3 < List.getD (x2.getD x3.toNat []) x4.toNat (0 : Int))) (k0 (false)) (φ (IntKind.i64.wrap (x4 + 1)))) (none)) (none))) (none)) (none)) (k1 )) (none)
def L0.f {α : Type} (N : Nat) (c0 : (List (List Int))) (c1 : Int) : Nat → Int → (Bool → Option α) → Option α → Option α
 | 0, _, _, _ => none
 | n + 1, d0, k0, k1 => L0.st N c0 c1 (fun e0 => L0.f N c0 c1 n e0 k0 k1) d0 k0 k1
def L0.up (d : L0.sh.T) (e0 : Int) : L0.sh.T := ((d.1.1, (d.1.2.1, (e0, ()))), ())
def L0.k0 {α : Type} (d : L0.sh.T) (K : Cont α) : (Bool → Option α) := fun y0 => K (Exit.ret) (L0.x0.enc ((d.1.1, (y0, (d.1.2.1, ()))), ()))
def L0.k1 {α : Type} (d : L0.sh.T) (K : Cont α) : Option α := K (Exit.exit 2) (L0.x1.enc ((d.1.1, ((), (d.1.2.1, ()))), ()))
def L0.F {α : Type} (N : Nat) (d : L0.sh.T) (K : Cont α) : Option α := L0.f N d.1.1 d.1.2.1 N d.1.2.2.1 (L0.k0 d K) (L0.k1 d K)
def L1.sh : Sh := { sl := [(0, SV.a (SA.d (K.int IntKind.i64).sl.sl)), (3, SV.a (SA.d (K.int IntKind.i64)))], os := [], nx := 0 }
def L1.x0 : Sh := { sl := [(2, SV.a (SA.d K.bool))], os := [], nx := 0 }
def L1.x1 : Sh := { sl := [(2, SV.j)], os := [], nx := 0 }
def L1.st {α : Type} (N : Nat) (x0 : (List (List Int))) (φ : (Int → Option α)) (x1 : Int) (k0 : (Bool → Option α)) (k1 : Option α) : Option α :=
 cond (decide (x1 < (↑x0.length : Int))) (L0.f N (x0) (x1) N (0) (fun x5 => k0 (x5)) (φ (IntKind.i64.wrap (x1 + 1)))) (k1 )
def L1.f {α : Type} (N : Nat) (c0 : (List (List Int))) : Nat → Int → (Bool → Option α) → Option α → Option α
 | 0, _, _, _ => none
 | n + 1, d0, k0, k1 => L1.st N c0 (fun e0 => L1.f N c0 n e0 k0 k1) d0 k0 k1
def L1.up (d : L1.sh.T) (e0 : Int) : L1.sh.T := ((d.1.1, (e0, ())), ())
def L1.k0 {α : Type} (d : L1.sh.T) (K : Cont α) : (Bool → Option α) := fun y0 => K (Exit.ret) (L1.x0.enc ((y0, ()), ()))
def L1.k1 {α : Type} (d : L1.sh.T) (K : Cont α) : Option α := K (Exit.exit 0) (L1.x1.enc (((), ()), ()))
def L1.F {α : Type} (N : Nat) (d : L1.sh.T) (K : Cont α) : Option α := L1.f N d.1.1 N d.1.2.1 (L1.k0 d K) (L1.k1 d K)
def ents13 {α : Type} (N : Nat) : List (SmE α) := [⟨0, 50, 7, [⟨L0.sh, L0.F N⟩]⟩, ⟨0, 50, 4, [⟨L1.sh, L1.F N⟩]⟩]
def C (N : Nat) : Ctx := ⟨tys, [], [], N⟩
def L0.B {α : Type} (N : Nat) : Env → Cont α → Option α := evC tys 48 0 (evCall (C N) 50) (evCallQ (C N)) N an13 (smL (ents13 N) 0 50) (loopOf 7 Try.f13)
theorem L0.r {α : Type} (N : Nat) (φ : Env → Option α) (K : Cont α) (d : L0.sh.T) : L0.B N (L0.sh.enc d) (contL φ K (Env.norm 0 [0, 3, 4]) (Env.norm 0 [0, 2, 3])) = L0.st N d.1.1 d.1.2.1 (fun e0 => φ (L0.sh.enc (L0.up d e0))) d.1.2.2.1 (L0.k0 d K) (L0.k1 d K) := by kernel_rfl
theorem L0.e {α : Type} (N : Nat) : ∀ (n : Nat) (d : L0.sh.T) (K : Cont α), evL (L0.B N) (Env.norm 0 [0, 3, 4]) (Env.norm 0 [0, 2, 3]) n (L0.sh.enc d) K = L0.f N d.1.1 d.1.2.1 n d.1.2.2.1 (L0.k0 d K) (L0.k1 d K)
 | 0, d, K => rfl
 | n + 1, d, K => evL_contL.trans ((L0.r N _ K d).trans (congrArg (fun φ => L0.st N d.1.1 d.1.2.1 φ d.1.2.2.1 (L0.k0 d K) (L0.k1 d K)) (funext fun e0 => L0.e N n (L0.up d e0) K)))
def L1.B {α : Type} (N : Nat) : Env → Cont α → Option α := evC tys 48 0 (evCall (C N) 50) (evCallQ (C N)) N an13 (smL (ents13 N) 0 50) (loopOf 4 Try.f13)
theorem L1.r {α : Type} (N : Nat) (φ : Env → Option α) (K : Cont α) (d : L1.sh.T) : L1.B N (L1.sh.enc d) (contL φ K (Env.norm 0 [0, 3]) (Env.norm 0 [2])) = L1.st N d.1.1 (fun e0 => φ (L1.sh.enc (L1.up d e0))) d.1.2.1 (L1.k0 d K) (L1.k1 d K) := by kernel_rfl
theorem L1.e {α : Type} (N : Nat) : ∀ (n : Nat) (d : L1.sh.T) (K : Cont α), evL (L1.B N) (Env.norm 0 [0, 3]) (Env.norm 0 [2]) n (L1.sh.enc d) K = L1.f N d.1.1 n d.1.2.1 (L1.k0 d K) (L1.k1 d K)
 | 0, d, K => rfl
 | n + 1, d, K => evL_contL.trans ((L1.r N _ K d).trans (congrArg (fun φ => L1.st N d.1.1 φ d.1.2.1 (L1.k0 d K) (L1.k1 d K)) (funext fun e0 => L1.e N n (L1.up d e0) K)))
theorem ents13_ok {α : Type} (N : Nat) : AllP (EntOk (C N) Try.f13 an13 (ents13 (α := α) N)) (ents13 N) := ⟨entOk_of (b0 := loopOf 7 Try.f13) (li0 := [0, 3, 4]) (lx0 := [0, 2, 3]) (by kernel_rfl) (by kernel_rfl) ⟨fun d K => L0.e N N d K, trivial⟩, entOk_of (b0 := loopOf 4 Try.f13) (li0 := [0, 3]) (lx0 := [2]) (by kernel_rfl) (by kernel_rfl) ⟨fun d K => L1.e N N d K, trivial⟩, trivial⟩
def g {α : Type} (N : Nat) (a0 : List (List Int)) (kr : (Bool → Option α)) : Option α :=
 cond (decide (6 < (↑a0.length : Int))) (kr (false)) (cond (decide (0 ≤ 0) && decide (0 < (↑a0.length : Int))) (cond (decide (6 < (↑(List.length (a0.getD (Int.toNat (0 : Int)) [])) : Int))) (kr (false)) (L1.f N (a0) N (0) (fun x6 => kr (x6)) (kr (true)))) (none))
theorem eq (N : Nat) (a0 : List (List Int)) : evF (C N) 50 Try.f13 an13 (smL (ents13 N) 0 50) [((.bool : K), false)] [⟨.sl (.sl (.int .i64)), a0⟩] = g N a0 (fun r0 => some [.dat (K.bool) r0]) := by kernel_rfl
theorem ctxOk (N : Nat) : CtxOk P (C N) := ctxOk_of tysOk mixedOk trivial trivial
theorem calls (N : Nat) (a0 : List (List Int)) {rs : List Rs} (h : g N a0 (fun r0 => some [.dat (K.bool) r0]) = some rs) : CallsTo P 13 [⟨.sl (.sl (.int .i64)), a0⟩] rs := evF_calls' (ctxOk N) (by rfl) (ents13_ok N) ((eq N a0).trans h)
def L1.l {α : Type} (N : Nat) (x0 : (List (List Int))) (k0 : (Bool → Option α)) (k1 : Option α) : List (List Int) → Int → Option α
 | [], x1 => k1 
 | x :: l, x1 => L0.f N (x0) (x1) N (0) (fun x5 => k0 (x5)) (L1.l N x0 k0 k1 l (x1 + 1))
theorem L1.rng {α : Type} {N : Nat} (x0 : (List (List Int))) (hl : x0.length ≤ maxLen) (k0 : (Bool → Option α)) (k1 : Option α) : ∀ (n j : Nat), x0.length < n + j → j ≤ x0.length → L1.f N x0 n (j : Int) k0 k1 = L1.l N x0 k0 k1 (x0.drop j) (j : Int) :=
 rng0 x0 hl (fun n i => L1.f N x0 n i k0 k1) (fun l i => L1.l N x0 k0 k1 l i) (fun n j hj h ih => by simp only [L1.f, L1.st, L1.l, h.a, h.b, h.c, h.d, h.e, Bool.true_and, Bool.and_true, Bool.and_self, cond_true, ih] <;> rfl) (fun n j h => by simp only [L1.f, L1.st, L1.l, h, cond_false])
end pf31_Small
theorem pf31_Small.L0.law {α : Type} {N : Nat} (x2 : List (List Int)) (i : Nat) (hi : i < x2.length) (k0 : Bool → Option α) (k1 : Option α) : ∀ (n j : Nat), x2[i].length < n + j → j ≤ x2[i].length → x2[i].length ≤ maxLen → pf31_Small.L0.f N x2 (i : Int) n (j : Int) k0 k1 = cond ((x2[i].drop j).all fun x => decide (-3 ≤ x) && decide (x ≤ 3)) k1 (k0 false)
 | 0, j, h, hj, _ => absurd h (by omega)
 | n + 1, j, h, hj, hm => by
  rw [pf31_Small.L0.f, pf31_Small.L0.st, d_0, d_lt hi, getD_at hi]
  simp only [Bool.and_self, cond_true]
  by_cases hlt : j < x2[i].length
  ·
   rw [d_lt hlt, d_0, getD_at hlt, wrap_next hlt hm, ← succ_cast, pf31_Small.L0.law x2 i hi k0 k1 n (j + 1) (by omega) (by omega) hm, List.drop_eq_getElem_cons hlt, List.all_cons]
   simp only [Bool.and_self, cond_true]
   by_cases h1 : x2[i][j] < -3
   ·
    rw [decide_eq_true h1, decide_eq_false (show ¬ -3 ≤ x2[i][j] by omega)]; rfl
   ·
    rw [decide_eq_false h1, decide_eq_true (show -3 ≤ x2[i][j] by omega)]
    by_cases h2 : 3 < x2[i][j]
    ·
     rw [decide_eq_true h2, decide_eq_false (show ¬ x2[i][j] ≤ 3 by omega)]; rfl
    ·
     rw [decide_eq_false h2, decide_eq_true (show x2[i][j] ≤ 3 by omega)]; rfl
  ·
   have e1 : decide ((j : Int) < (x2[i].length : Int)) = false := decide_eq_false (by omega)
   rw [e1, cond_false, List.drop_eq_nil_of_le (by omega)]
   rfl
theorem pf31_Small.L1.law {α : Type} {N : Nat} (hN : 18446744073709551616 ≤ N) (x0 : List (List Int)) (hw : ∀ r ∈ x0, r.length ≤ maxLen) (k0 : Bool → Option α) (k1 : Option α) : ∀ (l : List (List Int)) (j : Nat), l = x0.drop j → pf31_Small.L1.l N x0 (fun b => k0 b) k1 l (j : Int) = cond ((l.all fun r => r.all fun x => decide (-3 ≤ x) && decide (x ≤ 3))) k1 (k0 false)
 | [], j, _ => rfl
 | x :: l, j, hl => by
  obtain ⟨hj, hx, hl'⟩ := drop_step hl
  have hm := hw x0[j] (List.getElem_mem hj)
  rw [pf31_Small.L1.l, ← succ_cast, pf31_Small.L1.law hN x0 hw k0 k1 l (j + 1) hl']
  have := pf31_Small.L0.law (N := N) x0 j hj k0 (cond ((l.all fun r => r.all fun x => decide (-3 ≤ x) && decide (x ≤ 3))) k1 (k0 false)) N 0 (by have := le_fuel hm hN; omega) (Nat.zero_le _) hm
  rw [List.drop_zero, hx] at this
  refine this.trans ?_
  rw [List.all_cons]
  cases x.all fun x => decide (-3 ≤ x) && decide (x ≤ 3) <;> rfl
theorem pf31_Small.law {α : Type} {N : Nat} (hN : 18446744073709551616 ≤ N) (a0 : List (List Int)) (w0 : K.wf (.sl (.sl (.int .i64))) a0) (hp : pf31_Small.pre a0 = true) (kr : (Bool → Option α)) : pf31_Small.g N a0 kr = kr (pf31_Small.spec a0) := by
 unfold pf31_Small.g pf31_Small.spec smallA
 have hv : validM a0 = true := hp
 have hd : a0.getD (Int.toNat (0 : Int)) [] = a0.headD [] := by cases a0 <;> rfl
 have hl : 1 ≤ a0.length := by
  unfold validM at hv
  simp only [Bool.and_eq_true, decide_eq_true_eq] at hv
  omega
 rw [hd, decide_eq_true (by omega : (0 : Int) < (a0.length : Int))]
 by_cases h1 : 6 < a0.length
 ·
  rw [decide_eq_true (show (6 : Int) < (a0.length : Int) by omega), decide_eq_false (show ¬ a0.length ≤ 6 by omega)]
  rfl
 rw [decide_eq_false (show ¬ (6 : Int) < (a0.length : Int) by omega), decide_eq_true (show a0.length ≤ 6 by omega)]
 by_cases h2 : 6 < (a0.headD []).length
 ·
  rw [decide_eq_true (show (6 : Int) < (((a0.headD []).length : Nat) : Int) by omega), decide_eq_false (show ¬ (a0.headD []).length ≤ 6 by omega)]
  rfl
 rw [decide_eq_false (show ¬ (6 : Int) < (((a0.headD []).length : Nat) : Int) by omega), decide_eq_true (show (a0.headD []).length ≤ 6 by omega)]
 simp only [Int.le_refl, decide_true, Bool.and_self, cond_true, cond_false, Bool.true_and]
 refine (pf31_Small.L1.rng (N := N) _ (w0.1) _ _ N 0  (by have := le_fuel (w0.1) hN; omega) (Nat.zero_le _)).trans ?_
 rw [List.drop_zero]
 refine (pf31_Small.L1.law (N := N) hN a0 (fun r hr => (w0.2 r hr).1) _ _ a0 0 rfl).trans ?_
 cases (a0.all fun r => r.all fun x => decide (-3 ≤ x) && decide (x ≤ 3)) <;> rfl
theorem pf31_Small.ok : FentOk P 13 pf31_Small.fent := fentOk_of (by kernel_rfl) fun ds hk => by
 obtain ⟨a0, l0, rfl, h0⟩ := ds_cons hk
 obtain rfl := ds0 h0
 exact ⟨pf31_Small.pre a0, [.dat (.bool) (pf31_Small.spec a0)], fun h hw => pf31_Small.calls 18446744073709551616 a0 (pf31_Small.law (Nat.le_refl _) a0 hw.1 h _), fun α k => rfl⟩
end Go.VI
namespace Go.VI
open Go Go.Proofs
namespace pl31_zero
def an28 : Ann := [(2, [0, 1, 5], [4]), (8, [0, 1, 5, 6, 7], [0, 1, 4, 5, 6])]
def L0.sh : Sh := { sl := [(0, SV.a (SA.d (K.int IntKind.i64).sl.sl)), (1, SV.a (SA.d (K.int IntKind.i64).sl)), (5, SV.a (SA.d (K.int IntKind.i64))), (6, SV.a (SA.d (K.int IntKind.i64))), (7, SV.a (SA.d (K.int IntKind.i64)))], os := [], nx := 0 }
def L0.x0 : Sh := { sl := [(0, SV.a (SA.d (K.int IntKind.i64).sl.sl)), (1, SV.a (SA.d (K.int IntKind.i64).sl)), (4, SV.a (SA.d K.bool)), (5, SV.a (SA.d (K.int IntKind.i64))), (6, SV.a (SA.d (K.int IntKind.i64)))], os := [], nx := 0 }
def L0.x1 : Sh := { sl := [(0, SV.a (SA.d (K.int IntKind.i64).sl.sl)), (1, SV.a (SA.d (K.int IntKind.i64).sl)), (4, SV.j), (5, SV.a (SA.d (K.int IntKind.i64))), (6, SV.a (SA.d (K.int IntKind.i64)))], os := [], nx := 0 }
def L0.st {α : Type} (N : Nat) (x3 : (List (List Int))) (x4 : (List Int)) (x5 : Int) (φ : (Int → Int → Option α)) (x6 : Int) (x7 : Int) (k0 : (Bool → Int → Option α)) (k1 : (Int → Option α)) : Option α :=
 cond (decide (x7 < (↑x4.length : Int))) (cond (decide (0 ≤ x7) && decide (x7 < (↑x4.length : Int))) (cond (decide (x4.getD x7.toNat 0 < 0)) (k0 (false) (x6)) (cond (decide (0 ≤ x7) && decide (x7 < (↑x4.length : Int))) (cond (decide (1125899906842624 < x4.getD x7.toNat (0 : Int))) (k0 (false) (x6)) (cond (decide (0 ≤ x5) && decide (x5 < (↑x3.length : Int))) (cond (decide (0 ≤ x7) && decide (x7 < (↑(List.length (x3.getD x5.toNat [])) : Int))) (cond (decide (0 ≤ x7) && decide (x7 < (↑x4.length : Int))) (φ (IntKind.i64.wrap (x6 + IntKind.i64.wrap (List.getD (x3.getD x5.toNat []) x7.toNat 0 * x4.getD x7.toNat (0 : Int)))) (IntKind.i64.wrap (x7 + 1))) (none)) (none)) (none))) (none))) (none)) (k1 (x6))
def L0.f {α : Type} (N : Nat) (c0 : (List (List Int))) (c1 : (List Int)) (c2 : Int) : Nat → Int → Int → (Bool → Int → Option α) → (Int → Option α) → Option α
 | 0, _, _, _, _ => none
 | n + 1, d0, d1, k0, k1 => L0.st N c0 c1 c2 (fun e0 e1 => L0.f N c0 c1 c2 n e0 e1 k0 k1) d0 d1 k0 k1
def L0.up (d : L0.sh.T) (e0 : Int) (e1 : Int) : L0.sh.T := ((d.1.1, (d.1.2.1, (d.1.2.2.1, (e0, (e1, ()))))), ())
def L0.k0 {α : Type} (d : L0.sh.T) (K : Cont α) : (Bool → Int → Option α) := fun y0 y1 => K (Exit.ret) (L0.x0.enc ((d.1.1, (d.1.2.1, (y0, (d.1.2.2.1, (y1, ()))))), ()))
def L0.k1 {α : Type} (d : L0.sh.T) (K : Cont α) : (Int → Option α) := fun y0 => K (Exit.exit 2) (L0.x1.enc ((d.1.1, (d.1.2.1, ((), (d.1.2.2.1, (y0, ()))))), ()))
def L0.F {α : Type} (N : Nat) (d : L0.sh.T) (K : Cont α) : Option α := L0.f N d.1.1 d.1.2.1 d.1.2.2.1 N d.1.2.2.2.1 d.1.2.2.2.2.1 (L0.k0 d K) (L0.k1 d K)
def L1.sh : Sh := { sl := [(0, SV.a (SA.d (K.int IntKind.i64).sl.sl)), (1, SV.a (SA.d (K.int IntKind.i64).sl)), (5, SV.a (SA.d (K.int IntKind.i64)))], os := [], nx := 0 }
def L1.x0 : Sh := { sl := [(4, SV.a (SA.d K.bool))], os := [], nx := 0 }
def L1.x1 : Sh := { sl := [(4, SV.j)], os := [], nx := 0 }
def L1.st {α : Type} (N : Nat) (x0 : (List (List Int))) (x1 : (List Int)) (φ : (Int → Option α)) (x2 : Int) (k0 : (Bool → Option α)) (k1 : Option α) : Option α :=
 cond (decide (x2 < (↑x0.length : Int))) (cond (decide (0 ≤ x2) && decide (x2 < (↑x0.length : Int))) (cond ((↑(List.length (x0.getD x2.toNat [])) : Int) != (↑x1.length : Int)) (k0 (false)) (L0.f N (x0) (x1) (x2) N (0) (0) (fun x8 x9 => k0 (x8)) (fun x10 => cond (x10 != 0) (k0 (false)) (φ (IntKind.i64.wrap (x2 + 1)))))) (none)) (k1 )
def L1.f {α : Type} (N : Nat) (c0 : (List (List Int))) (c1 : (List Int)) : Nat → Int → (Bool → Option α) → Option α → Option α
 | 0, _, _, _ => none
 | n + 1, d0, k0, k1 => L1.st N c0 c1 (fun e0 => L1.f N c0 c1 n e0 k0 k1) d0 k0 k1
def L1.up (d : L1.sh.T) (e0 : Int) : L1.sh.T := ((d.1.1, (d.1.2.1, (e0, ()))), ())
def L1.k0 {α : Type} (d : L1.sh.T) (K : Cont α) : (Bool → Option α) := fun y0 => K (Exit.ret) (L1.x0.enc ((y0, ()), ()))
def L1.k1 {α : Type} (d : L1.sh.T) (K : Cont α) : Option α := K (Exit.exit 0) (L1.x1.enc (((), ()), ()))
def L1.F {α : Type} (N : Nat) (d : L1.sh.T) (K : Cont α) : Option α := L1.f N d.1.1 d.1.2.1 N d.1.2.2.1 (L1.k0 d K) (L1.k1 d K)
def ents28 {α : Type} (N : Nat) : List (SmE α) := [⟨0, 50, 8, [⟨L0.sh, L0.F N⟩]⟩, ⟨0, 50, 2, [⟨L1.sh, L1.F N⟩]⟩]
def C (N : Nat) : Ctx := ⟨tys, [], [], N⟩
def L0.B {α : Type} (N : Nat) : Env → Cont α → Option α := evC tys 56 0 (evCall (C N) 50) (evCallQ (C N)) N an28 (smL (ents28 N) 0 50) (loopOf 8 Try.f28)
theorem L0.r {α : Type} (N : Nat) (φ : Env → Option α) (K : Cont α) (d : L0.sh.T) : L0.B N (L0.sh.enc d) (contL φ K (Env.norm 0 [0, 1, 5, 6, 7]) (Env.norm 0 [0, 1, 4, 5, 6])) = L0.st N d.1.1 d.1.2.1 d.1.2.2.1 (fun e0 e1 => φ (L0.sh.enc (L0.up d e0 e1))) d.1.2.2.2.1 d.1.2.2.2.2.1 (L0.k0 d K) (L0.k1 d K) := by kernel_rfl
theorem L0.e {α : Type} (N : Nat) : ∀ (n : Nat) (d : L0.sh.T) (K : Cont α), evL (L0.B N) (Env.norm 0 [0, 1, 5, 6, 7]) (Env.norm 0 [0, 1, 4, 5, 6]) n (L0.sh.enc d) K = L0.f N d.1.1 d.1.2.1 d.1.2.2.1 n d.1.2.2.2.1 d.1.2.2.2.2.1 (L0.k0 d K) (L0.k1 d K)
 | 0, d, K => rfl
 | n + 1, d, K => evL_contL.trans ((L0.r N _ K d).trans (congrArg (fun φ => L0.st N d.1.1 d.1.2.1 d.1.2.2.1 φ d.1.2.2.2.1 d.1.2.2.2.2.1 (L0.k0 d K) (L0.k1 d K)) (funext fun e0 => funext fun e1 => L0.e N n (L0.up d e0 e1) K)))
def L1.B {α : Type} (N : Nat) : Env → Cont α → Option α := evC tys 56 0 (evCall (C N) 50) (evCallQ (C N)) N an28 (smL (ents28 N) 0 50) (loopOf 2 Try.f28)
theorem L1.r {α : Type} (N : Nat) (φ : Env → Option α) (K : Cont α) (d : L1.sh.T) : L1.B N (L1.sh.enc d) (contL φ K (Env.norm 0 [0, 1, 5]) (Env.norm 0 [4])) = L1.st N d.1.1 d.1.2.1 (fun e0 => φ (L1.sh.enc (L1.up d e0))) d.1.2.2.1 (L1.k0 d K) (L1.k1 d K) := by kernel_rfl
theorem L1.e {α : Type} (N : Nat) : ∀ (n : Nat) (d : L1.sh.T) (K : Cont α), evL (L1.B N) (Env.norm 0 [0, 1, 5]) (Env.norm 0 [4]) n (L1.sh.enc d) K = L1.f N d.1.1 d.1.2.1 n d.1.2.2.1 (L1.k0 d K) (L1.k1 d K)
 | 0, d, K => rfl
 | n + 1, d, K => evL_contL.trans ((L1.r N _ K d).trans (congrArg (fun φ => L1.st N d.1.1 d.1.2.1 φ d.1.2.2.1 (L1.k0 d K) (L1.k1 d K)) (funext fun e0 => L1.e N n (L1.up d e0) K)))
theorem ents28_ok {α : Type} (N : Nat) : AllP (EntOk (C N) Try.f28 an28 (ents28 (α := α) N)) (ents28 N) := ⟨entOk_of (b0 := loopOf 8 Try.f28) (li0 := [0, 1, 5, 6, 7]) (lx0 := [0, 1, 4, 5, 6]) (by kernel_rfl) (by kernel_rfl) ⟨fun d K => L0.e N N d K, trivial⟩, entOk_of (b0 := loopOf 2 Try.f28) (li0 := [0, 1, 5]) (lx0 := [4]) (by kernel_rfl) (by kernel_rfl) ⟨fun d K => L1.e N N d K, trivial⟩, trivial⟩
def g {α : Type} (N : Nat) (a0 : List (List Int)) (a1 : List Int) (kr : (Bool → Option α)) : Option α :=
 L1.f N (a0) (a1) N (0) (fun x11 => kr (x11)) (kr (true))
theorem eq (N : Nat) (a0 : List (List Int)) (a1 : List Int) : evF (C N) 50 Try.f28 an28 (smL (ents28 N) 0 50) [((.bool : K), false)] [⟨.sl (.sl (.int .i64)), a0⟩, ⟨.sl (.int .i64), a1⟩] = g N a0 a1 (fun r0 => some [.dat (K.bool) r0]) := by kernel_rfl
theorem ctxOk (N : Nat) : CtxOk P (C N) := ctxOk_of tysOk mixedOk trivial trivial
theorem calls (N : Nat) (a0 : List (List Int)) (a1 : List Int) {rs : List Rs} (h : g N a0 a1 (fun r0 => some [.dat (K.bool) r0]) = some rs) : CallsTo P 28 [⟨.sl (.sl (.int .i64)), a0⟩, ⟨.sl (.int .i64), a1⟩] rs := evF_calls' (ctxOk N) (by rfl) (ents28_ok N) ((eq N a0 a1).trans h)
def L0.l {α : Type} (N : Nat) (x3 : (List (List Int))) (x4 : (List Int)) (x5 : Int) (k0 : (Bool → Int → Option α)) (k1 : (Int → Option α)) : List Int → Int → Int → Option α
 | [], x7, x6 => k1 (x6)
 | x :: l, x7, x6 => (cond (decide (x < 0)) (k0 (false) (x6)) ((cond (decide (1125899906842624 < x)) (k0 (false) (x6)) (cond (decide (0 ≤ x5) && decide (x5 < (↑x3.length : Int))) (cond (decide (0 ≤ x7) && decide (x7 < (↑(List.length (x3.getD x5.toNat [])) : Int))) ((L0.l N x3 x4 x5 k0 k1 l (x7 + 1) (IntKind.i64.wrap (x6 + IntKind.i64.wrap (List.getD (x3.getD x5.toNat []) x7.toNat 0 * x))))) (none)) (none)))))
theorem L0.rng {α : Type} {N : Nat} (x3 : (List (List Int))) (x4 : (List Int)) (x5 : Int) (hl : x4.length ≤ maxLen) (k0 : (Bool → Int → Option α)) (k1 : (Int → Option α)) : ∀ (n j : Nat) (x6 : Int), x4.length < n + j → j ≤ x4.length → L0.f N x3 x4 x5 n x6 (j : Int) k0 k1 = L0.l N x3 x4 x5 k0 k1 (x4.drop j) (j : Int) x6 :=
 rng1 x4 hl (fun n i x6 => L0.f N x3 x4 x5 n x6 i k0 k1) (fun l i x6 => L0.l N x3 x4 x5 k0 k1 l i x6) (fun n j hj h ih x6 => by simp only [L0.f, L0.st, L0.l, h.a, h.b, h.c, h.d, h.e, Bool.true_and, Bool.and_true, Bool.and_self, cond_true, ih] <;> rfl) (fun n j h x6 => by simp only [L0.f, L0.st, L0.l, h, cond_false])
def L1.l {α : Type} (N : Nat) (x0 : (List (List Int))) (x1 : (List Int)) (k0 : (Bool → Option α)) (k1 : Option α) : List (List Int) → Int → Option α
 | [], x2 => k1 
 | x :: l, x2 => (cond ((↑(List.length x) : Int) != (↑x1.length : Int)) (k0 (false)) (L0.f N (x0) (x1) (x2) N (0) (0) (fun x8 x9 => k0 (x8)) (fun x10 => cond (x10 != 0) (k0 (false)) (L1.l N x0 x1 k0 k1 l (x2 + 1)))))
theorem L1.rng {α : Type} {N : Nat} (x0 : (List (List Int))) (x1 : (List Int)) (hl : x0.length ≤ maxLen) (k0 : (Bool → Option α)) (k1 : Option α) : ∀ (n j : Nat), x0.length < n + j → j ≤ x0.length → L1.f N x0 x1 n (j : Int) k0 k1 = L1.l N x0 x1 k0 k1 (x0.drop j) (j : Int) :=
 rng0 x0 hl (fun n i => L1.f N x0 x1 n i k0 k1) (fun l i => L1.l N x0 x1 k0 k1 l i) (fun n j hj h ih => by simp only [L1.f, L1.st, L1.l, h.a, h.b, h.c, h.d, h.e, Bool.true_and, Bool.and_true, Bool.and_self, cond_true, ih] <;> rfl) (fun n j h => by simp only [L1.f, L1.st, L1.l, h, cond_false])
end pl31_zero
theorem mul_small {a y : Int} (ha : -50 ≤ a ∧ a ≤ 50) (hy : 0 ≤ y ∧ y ≤ 1125899906842624) : -56294995342131200 ≤ a * y ∧ a * y ≤ 56294995342131200 := by
 have h1 : a * y ≤ 50 * y := Int.mul_le_mul_of_nonneg_right ha.2 hy.1
 have h2 : -50 * y ≤ a * y := Int.mul_le_mul_of_nonneg_right ha.1 hy.1
 omega
theorem pl31_zero.L0.law {α : Type} {N : Nat} (x3 : List (List Int)) (x4 : List Int) (i : Nat) (hi : i < x3.length) (hl : x3[i].length = x4.length) (hr : ∀ y ∈ x3[i], -50 ≤ y ∧ y ≤ 50) (hm : x4.length ≤ 64) (k0 : Bool → Int → Option α) (k1 : Int → Option α) (R : Option α) (hk : ∀ z, k0 false z = R) : ∀ (l : List Int) (j : Nat) (s : Int), l = x4.drop j → -(56294995342131200 * (j : Int)) ≤ s ∧ s ≤ 56294995342131200 * (j : Int) →
  pl31_zero.L0.l N x3 x4 (i : Int) k0 k1 l (j : Int) s = cond (l.all fun y => decide (0 ≤ y) && decide (y ≤ 1125899906842624)) (k1 (s + dotL (x3[i].drop j) l)) R
 | [], j, s, _, _ => by
  rw [pl31_zero.L0.l]
  have : dotL (x3[i].drop j) [] = 0 := by cases x3[i].drop j <;> rfl
  rw [this]
  simp
 | x :: l, j, s, hd, hs => by
  obtain ⟨hj, hx, hl'⟩ := drop_step hd
  have hj2 : j < x3[i].length := by omega
  rw [pl31_zero.L0.l, hk, d_0, d_0, d_lt hi, getD_at hi, d_lt hj2, getD_at hj2, List.all_cons, List.drop_eq_getElem_cons hj2, dotL]
  by_cases h0 : x < 0
  ·
   rw [decide_eq_true h0, decide_eq_false (show ¬ 0 ≤ x by omega)]; rfl
  rw [decide_eq_false h0, decide_eq_true (show 0 ≤ x by omega)]
  by_cases h1 : 1125899906842624 < x
  ·
   rw [decide_eq_true h1, decide_eq_false (show ¬ x ≤ 1125899906842624 by omega)]; rfl
  rw [decide_eq_false h1, decide_eq_true (show x ≤ 1125899906842624 by omega)]
  have hb := mul_small (hr _ (List.getElem_mem hj2)) (show 0 ≤ x ∧ x ≤ 1125899906842624 by omega)
  have ew : IntKind.i64.wrap (x3[i][j] * x) = x3[i][j] * x := wrap_i64 (inI_i64.2 (by omega))
  have ew2 : IntKind.i64.wrap (s + x3[i][j] * x) = s + x3[i][j] * x := wrap_i64 (inI_i64.2 (by omega))
  rw [ew, ew2, ← succ_cast]
  simp only [Bool.and_self, cond_true, cond_false, Bool.true_and]
  rw [pl31_zero.L0.law x3 x4 i hi hl hr hm k0 k1 R hk l (j + 1) _ hl' (by omega), Int.add_assoc]
theorem pl31_zero.L1.law {α : Type} {N : Nat} (hN : 18446744073709551616 ≤ N) (x0 : List (List Int)) (x1 : List Int) (hm : x1.length ≤ 64) (hr : ∀ r ∈ x0, ∀ y ∈ r, -50 ≤ y ∧ y ≤ 50) (k0 : Bool → Option α) (k1 : Option α) : ∀ (l : List (List Int)) (j : Nat), l = x0.drop j → pl31_zero.L1.l N x0 x1 (fun b => k0 b) k1 l (j : Int) = cond (zeroA l x1) k1 (k0 false)
 | [], j, _ => rfl
 | x :: l, j, hl => by
  obtain ⟨hj, hx, hl'⟩ := drop_step hl
  have ih := pl31_zero.L1.law (N := N) hN x0 x1 hm hr k0 k1 l (j + 1) hl'
  rw [pl31_zero.L1.l, bne_len]
  rw [show zeroA (x :: l) x1 = ((Nat.beq x.length x1.length && (x1.all fun y => decide (0 ≤ y) && decide (y ≤ 1125899906842624)) && (dotL x x1 == 0)) && zeroA l x1) from List.all_cons]
  by_cases hlen : x.length = x1.length
  ·
   rw [beq_t hlen, Bool.not_true, cond_false]
   have hw : x1.length ≤ maxLen := by unfold maxLen; omega
   refine (pl31_zero.L0.rng (N := N) x0 x1 _ hw _ _ N 0 0 (by have := le_fuel hw hN; omega) (Nat.zero_le _)).trans ?_
   rw [List.drop_zero]
   have h1 := pl31_zero.L0.law (N := N) x0 x1 j hj (by rw [hx]; exact hlen) (hr _ (List.getElem_mem hj)) hm (fun x8 x9 => k0 x8) (fun x10 => cond (x10 != 0) (k0 false) (pl31_zero.L1.l N x0 x1 (fun b => k0 b) k1 l ((j : Int) + 1))) (k0 false) (fun _ => rfl) x1 0 0 rfl (by omega)
   refine h1.trans ?_
   rw [List.drop_zero, hx, Int.zero_add, ← succ_cast, ih]
   cases x1.all fun y => decide (0 ≤ y) && decide (y ≤ 1125899906842624)
   ·
    rfl
   ·
    simp only [cond_true, Bool.true_and, bne]
    cases dotL x x1 == 0
    ·
     rfl
    ·
     rfl
  ·
   rw [beq_f hlen]
   rfl
theorem pl31_zero.law {α : Type} {N : Nat} (hN : 18446744073709551616 ≤ N) (a0 : List (List Int)) (a1 : List Int) (w0 : K.wf (.sl (.sl (.int .i64))) a0) (w1 : K.wf (.sl (.int .i64)) a1) (hp : pl31_zero.pre a0 a1 = true) (kr : (Bool → Option α)) : pl31_zero.g N a0 a1 kr = kr (pl31_zero.spec a0 a1) := by
 unfold pl31_zero.g pl31_zero.spec
 simp only [pl31_zero.pre, modA, Bool.and_eq_true, decide_eq_true_eq, List.all_eq_true] at hp
 refine (pl31_zero.L1.rng (N := N) _ _ (w0.1) _ _ N 0  (by have := le_fuel (w0.1) hN; omega) (Nat.zero_le _)).trans ?_
 rw [List.drop_zero]
 refine (pl31_zero.L1.law (N := N) hN a0 a1 hp.2 (fun r hr y hy => hp.1 r hr y hy) _ _ a0 0 rfl).trans ?_
 cases zeroA a0 a1 <;> rfl
theorem pl31_zero.ok : FentOk P 28 pl31_zero.fent := fentOk_of (by kernel_rfl) fun ds hk => by
 obtain ⟨a0, l0, rfl, h0⟩ := ds_cons hk
 obtain ⟨a1, l1, rfl, h1⟩ := ds_cons h0
 obtain rfl := ds0 h1
 exact ⟨pl31_zero.pre a0 a1, [.dat (.bool) (pl31_zero.spec a0 a1)], fun h hw => pl31_zero.calls 18446744073709551616 a0 a1 (pl31_zero.law (Nat.le_refl _) a0 a1 hw.1 hw.2.1 h _), fun α k => rfl⟩
end Go.VI
namespace Go.VI
open Go Go.Proofs
namespace pl31_inside
def an31 : Ann := [(2, [0, 1, 5], [0, 1, 4])]
def L0.sh : Sh := { sl := [(0, SV.a (SA.d (K.int IntKind.i64).sl)), (1, SV.a (SA.d (K.int IntKind.i64).sl)), (5, SV.a (SA.d (K.int IntKind.i64)))], os := [], nx := 0 }
def L0.x0 : Sh := { sl := [(0, SV.a (SA.d (K.int IntKind.i64).sl)), (1, SV.a (SA.d (K.int IntKind.i64).sl)), (4, SV.a (SA.d K.bool))], os := [], nx := 0 }
def L0.x1 : Sh := { sl := [(0, SV.a (SA.d (K.int IntKind.i64).sl)), (1, SV.a (SA.d (K.int IntKind.i64).sl)), (4, SV.j)], os := [], nx := 0 }
def L0.st {α : Type} (N : Nat) (x0 : (List Int)) (x1 : (List Int)) (φ : (Int → Option α)) (x2 : Int) (k0 : (Bool → Option α)) (k1 : Option α) : Option α :=
 cond (decide (x2 < (↑x0.length : Int))) (cond (decide (x2 < (↑x1.length : Int))) (cond (decide (0 ≤ x2) && decide (x2 < (↑x0.length : Int))) (cond (x0.getD x2.toNat 0 != 0) (cond (decide (0 ≤ x2) && decide (x2 < (↑x1.length : Int))) (cond (x1.getD x2.toNat 0 == 0) (k0 (false)) (φ (IntKind.i64.wrap (x2 + 1)))) (none)) (φ (IntKind.i64.wrap (x2 + 1)))) (none)) (k1 )) (k1 )
def L0.f {α : Type} (N : Nat) (c0 : (List Int)) (c1 : (List Int)) : Nat → Int → (Bool → Option α) → Option α → Option α
 | 0, _, _, _ => none
 | n + 1, d0, k0, k1 => L0.st N c0 c1 (fun e0 => L0.f N c0 c1 n e0 k0 k1) d0 k0 k1
def L0.up (d : L0.sh.T) (e0 : Int) : L0.sh.T := ((d.1.1, (d.1.2.1, (e0, ()))), ())
def L0.k0 {α : Type} (d : L0.sh.T) (K : Cont α) : (Bool → Option α) := fun y0 => K (Exit.ret) (L0.x0.enc ((d.1.1, (d.1.2.1, (y0, ()))), ()))
def L0.k1 {α : Type} (d : L0.sh.T) (K : Cont α) : Option α := K (Exit.exit 0) (L0.x1.enc ((d.1.1, (d.1.2.1, ((), ()))), ()))
def L0.F {α : Type} (N : Nat) (d : L0.sh.T) (K : Cont α) : Option α := L0.f N d.1.1 d.1.2.1 N d.1.2.2.1 (L0.k0 d K) (L0.k1 d K)
def ents31 {α : Type} (N : Nat) : List (SmE α) := [⟨0, 50, 2, [⟨L0.sh, L0.F N⟩]⟩]
def C (N : Nat) : Ctx := ⟨tys, [], [], N⟩
def L0.B {α : Type} (N : Nat) : Env → Cont α → Option α := evC tys 35 0 (evCall (C N) 50) (evCallQ (C N)) N an31 (smL (ents31 N) 0 50) (loopOf 2 Try.f31)
theorem L0.r {α : Type} (N : Nat) (φ : Env → Option α) (K : Cont α) (d : L0.sh.T) : L0.B N (L0.sh.enc d) (contL φ K (Env.norm 0 [0, 1, 5]) (Env.norm 0 [0, 1, 4])) = L0.st N d.1.1 d.1.2.1 (fun e0 => φ (L0.sh.enc (L0.up d e0))) d.1.2.2.1 (L0.k0 d K) (L0.k1 d K) := by kernel_rfl
theorem L0.e {α : Type} (N : Nat) : ∀ (n : Nat) (d : L0.sh.T) (K : Cont α), evL (L0.B N) (Env.norm 0 [0, 1, 5]) (Env.norm 0 [0, 1, 4]) n (L0.sh.enc d) K = L0.f N d.1.1 d.1.2.1 n d.1.2.2.1 (L0.k0 d K) (L0.k1 d K)
 | 0, d, K => rfl
 | n + 1, d, K => evL_contL.trans ((L0.r N _ K d).trans (congrArg (fun φ => L0.st N d.1.1 d.1.2.1 φ d.1.2.2.1 (L0.k0 d K) (L0.k1 d K)) (funext fun e0 => L0.e N n (L0.up d e0) K)))
theorem ents31_ok {α : Type} (N : Nat) : AllP (EntOk (C N) Try.f31 an31 (ents31 (α := α) N)) (ents31 N) := ⟨entOk_of (b0 := loopOf 2 Try.f31) (li0 := [0, 1, 5]) (lx0 := [0, 1, 4]) (by kernel_rfl) (by kernel_rfl) ⟨fun d K => L0.e N N d K, trivial⟩, trivial⟩
def g {α : Type} (N : Nat) (a0 : List Int) (a1 : List Int) (kr : (Bool → Option α)) : Option α :=
 L0.f N (a0) (a1) N (0) (fun x3 => kr (x3)) (kr ((↑a0.length : Int) == (↑a1.length : Int)))
theorem eq (N : Nat) (a0 : List Int) (a1 : List Int) : evF (C N) 50 Try.f31 an31 (smL (ents31 N) 0 50) [((.bool : K), false)] [⟨.sl (.int .i64), a0⟩, ⟨.sl (.int .i64), a1⟩] = g N a0 a1 (fun r0 => some [.dat (K.bool) r0]) := by kernel_rfl
theorem ctxOk (N : Nat) : CtxOk P (C N) := ctxOk_of tysOk mixedOk trivial trivial
theorem calls (N : Nat) (a0 : List Int) (a1 : List Int) {rs : List Rs} (h : g N a0 a1 (fun r0 => some [.dat (K.bool) r0]) = some rs) : CallsTo P 31 [⟨.sl (.int .i64), a0⟩, ⟨.sl (.int .i64), a1⟩] rs := evF_calls' (ctxOk N) (by rfl) (ents31_ok N) ((eq N a0 a1).trans h)
def L0.l {α : Type} (N : Nat) (x0 : (List Int)) (x1 : (List Int)) (k0 : (Bool → Option α)) (k1 : Option α) : List Int → Int → Option α
 | [], x2 => k1 
 | x :: l, x2 => cond (decide (x2 < (↑x1.length : Int))) ((cond (x != 0) (cond (decide (0 ≤ x2) && decide (x2 < (↑x1.length : Int))) (cond (x1.getD x2.toNat 0 == 0) (k0 (false)) (L0.l N x0 x1 k0 k1 l (x2 + 1))) (none)) (L0.l N x0 x1 k0 k1 l (x2 + 1)))) (k1 )
theorem L0.rng {α : Type} {N : Nat} (x0 : (List Int)) (x1 : (List Int)) (hl : x0.length ≤ maxLen) (k0 : (Bool → Option α)) (k1 : Option α) : ∀ (n j : Nat), x0.length < n + j → j ≤ x0.length → L0.f N x0 x1 n (j : Int) k0 k1 = L0.l N x0 x1 k0 k1 (x0.drop j) (j : Int) :=
 rng0 x0 hl (fun n i => L0.f N x0 x1 n i k0 k1) (fun l i => L0.l N x0 x1 k0 k1 l i) (fun n j hj h ih => by simp only [L0.f, L0.st, L0.l, h.a, h.b, h.c, h.d, h.e, Bool.true_and, Bool.and_true, Bool.and_self, cond_true, ih] <;> rfl) (fun n j h => by simp only [L0.f, L0.st, L0.l, h, cond_false])
end pl31_inside
theorem pl31_inside.L0.law {α : Type} {N : Nat} (x0 x1 : List Int) (K : Bool → Option α) : ∀ (l : List Int) (j : Nat), l = x0.drop j → j ≤ x0.length → j ≤ x1.length →
  pl31_inside.L0.l N x0 x1 (fun x => K x) (K ((x0.length : Int) == (x1.length : Int))) l (j : Int) = K (insL l (x1.drop j))
 | [], j, hl, h0, h1 => by
  have hj : x0.length = j := by
   have := congrArg List.length hl
   simp at this
   omega
  rw [pl31_inside.L0.l]
  by_cases h : j < x1.length
  ·
   rw [show ((x0.length : Int) == (x1.length : Int)) = false by simp; omega, List.drop_eq_getElem_cons h]
   rfl
  ·
   rw [show ((x0.length : Int) == (x1.length : Int)) = true by simp; omega, List.drop_eq_nil_of_le (by omega)]
   rfl
 | x :: l, j, hl, h0, h1 => by
  obtain ⟨hj, hx, hl'⟩ := drop_step hl
  rw [pl31_inside.L0.l]
  by_cases h : j < x1.length
  ·
   simp only [d_lt h, d_0, Bool.and_self, cond_true, getD_at h, bne]
   have ih := pl31_inside.L0.law (N := N) x0 x1 K l (j + 1) hl' (by omega) (by omega)
   rw [succ_cast] at ih
   rw [List.drop_eq_getElem_cons h, insL, ih]
   cases x == 0
   ·
    cases x1[j] == 0 <;> rfl
   ·
    rfl
  ·
   have e1 : decide ((j : Int) < (x1.length : Int)) = false := decide_eq_false (by omega)
   rw [e1, cond_false, show ((x0.length : Int) == (x1.length : Int)) = false by simp; omega, List.drop_eq_nil_of_le (by omega)]
   rfl
theorem pl31_inside.law {α : Type} {N : Nat} (hN : 18446744073709551616 ≤ N) (a0 : List Int) (a1 : List Int) (w0 : K.wf (.sl (.int .i64)) a0) (w1 : K.wf (.sl (.int .i64)) a1) (kr : (Bool → Option α)) : pl31_inside.g N a0 a1 kr = kr (pl31_inside.spec a0 a1) := by
 unfold pl31_inside.g pl31_inside.spec
 refine (pl31_inside.L0.rng (N := N) _ _ (w0.1) _ _ N 0  (by have := le_fuel (w0.1) hN; omega) (Nat.zero_le _)).trans ?_
 rw [List.drop_zero]
 exact pl31_inside.L0.law (N := N) a0 a1 (fun x => kr x) a0 0 rfl (Nat.zero_le _) (Nat.zero_le _)
theorem pl31_inside.ok : FentOk P 31 pl31_inside.fent := fentOk_of (by kernel_rfl) fun ds hk => by
 obtain ⟨a0, l0, rfl, h0⟩ := ds_cons hk
 obtain ⟨a1, l1, rfl, h1⟩ := ds_cons h0
 obtain rfl := ds0 h1
 exact ⟨true, [.dat (.bool) (pl31_inside.spec a0 a1)], fun h hw => pl31_inside.calls 18446744073709551616 a0 a1 (pl31_inside.law (Nat.le_refl _) a0 a1 hw.1 hw.2.1 _), fun α k => rfl⟩
end Go.VI
namespace Go.VI
open Go Go.Proofs
namespace Fk
abbrev Vc := Nat → Int
inductive Sp (A : List Vc) : Vc → Prop
 | mem {a : Vc} : a ∈ A → Sp A a
 | zero : Sp A (fun _ => 0)
 | comb {u v : Vc} (c d : Int) : Sp A u → Sp A v → Sp A (fun x => c * u x + d * v x)
 | div {u : Vc} (c : Int) : c ≠ 0 → Sp A (fun x => c * u x) → Sp A u
theorem Sp.eq {A : List Vc} {u v : Vc} (h : ∀ x, u x = v x) (hu : Sp A u) : Sp A v := by
 have : u = v := funext h
 exact this ▸ hu
theorem Sp.scale {A : List Vc} {u : Vc} (c : Int) (hu : Sp A u) : Sp A (fun x => c * u x) :=
 (Sp.comb c 0 hu Sp.zero).eq fun x => by simp
theorem Sp.sub {A B : List Vc} (h : ∀ a ∈ A, Sp B a) {v : Vc} (hv : Sp A v) : Sp B v := by
 induction hv with
 | mem ha => exact h _ ha
 | zero => exact .zero
 | comb c d _ _ i j => exact .comb c d i j
 | div c hc _ i => exact .div c hc i
theorem Sp.at {A : List Vc} {x : Nat} (h : ∀ a ∈ A, a x = 0) {v : Vc} (hv : Sp A v) : v x = 0 := by
 induction hv with
 | mem ha => exact h _ ha
 | zero => rfl
 | comb c d _ _ i j => simp only [i, j]; simp
 | div c hc _ i => exact (Int.mul_eq_zero.mp i).resolve_left hc
def Prm (v : Vc) : Prop := ∀ d : Int, (∀ x, d ∣ v x) → d ∣ 1
theorem Prm.dvd {u : Vc} (h : Prm u) {p q : Int} (hq : q ≠ 0) (hd : ∀ x, q ∣ p * u x) : q ∣ p := by
 have hg : (Int.gcd q p : Int) ≠ 0 := by
  intro hz
  have := Int.gcd_eq_zero_iff.mp (Int.ofNat_eq_zero.mp hz)
  exact hq this.1
 obtain ⟨q1, hq1⟩ := Int.gcd_dvd_left q p
 obtain ⟨p1, hp1⟩ := Int.gcd_dvd_right q p
 have hc : Int.gcd q1 p1 = 1 := by
  have e := Int.gcd_mul_left (Int.gcd q p : Int) q1 p1
  rw [← hq1, ← hp1] at e
  simp at e
  have h1 : 0 < Int.gcd q p := by omega
  exact Nat.eq_of_mul_eq_mul_left h1 (by omega)
 have h1 : q1 ∣ 1 := by
  apply h
  intro x
  have := hd x
  obtain ⟨z, hz⟩ := this
  have hz1 : q1 ∣ p1 * u x := by
   refine ⟨z, ?_⟩
   have : (Int.gcd q p : Int) * (p1 * u x) = (Int.gcd q p : Int) * (q1 * z) := by
    rw [← Int.mul_assoc, ← hp1, hz, ← Int.mul_assoc, ← hq1]
   exact Int.eq_of_mul_eq_mul_left hg this
  exact Int.natAbs_dvd_natAbs.mp ((show Nat.Coprime q1.natAbs p1.natAbs from hc).dvd_of_dvd_mul_left (by rw [← Int.natAbs_mul]; exact Int.natAbs_dvd_natAbs.mpr hz1))
 obtain ⟨z, hz⟩ := h1
 refine ⟨p1 * z, ?_⟩
 rw [hq1]
 have : (Int.gcd q p : Int) * q1 * (p1 * z) = ((Int.gcd q p : Int) * p1) * (q1 * z) := by grind
 rw [this, ← hz, ← hp1]
 simp
theorem Prm.quot {u v : Vc} (h : Prm u) {a d : Int} (ha : a ≠ 0) (e : ∀ x, a * v x = d * u x) : ∃ t : Int, (∀ x, v x = t * u x) ∧ d = a * t := by
 obtain ⟨t, ht⟩ := h.dvd (p := d) ha fun x => ⟨v x, (e x).symm⟩
 refine ⟨t, fun x => Int.eq_of_mul_eq_mul_left ha ?_, ht⟩
 rw [e x, ht, Int.mul_assoc]
theorem Prm.bound {u v : Vc} (h : Prm u) {a d : Int} (ha : a ≠ 0) (hd : d ≠ 0) (e : ∀ x, a * v x = d * u x) (x : Nat) : (u x).natAbs ≤ (v x).natAbs := by
 obtain ⟨t, ht, hdt⟩ := h.quot ha e
 have : t ≠ 0 := by intro h0; rw [h0] at hdt; simp at hdt; exact hd hdt
 rw [ht x, Int.natAbs_mul]
 exact Nat.le_mul_of_pos_left _ (by omega)
theorem Prm.same {u v : Vc} (hu : Prm u) (hv : Prm v) {p q : Int} (hp : 0 < p) (hq : 0 < q) (e : ∀ x, p * u x = q * v x) : ∀ x, u x = v x := by
 have h1 : q ∣ p := hu.dvd (by omega) fun x => ⟨v x, e x⟩
 have h2 : p ∣ q := hv.dvd (by omega) fun x => ⟨u x, (e x).symm⟩
 have : p = q := Int.dvd_antisymm (by omega) (by omega) h2 h1
 intro x
 have := e x
 subst p
 exact Int.eq_of_mul_eq_mul_left (by omega) this
def ex (r : Vc) (f : List Nat → Int) : List Nat → List Nat → Int
 | _, [] => 0
 | pre, c :: C => r c * f (pre ++ C) - ex r f (pre ++ [c]) C
def det : List Vc → List Nat → Int
 | [], [] => 1
 | [], _ :: _ => 0
 | r :: R, C => ex r (det R) [] C
theorem ex_pre {r : Vc} {f : List Nat → Int} {a b : Nat} (h : ∀ P Q, f (P ++ a :: b :: Q) = -f (P ++ b :: a :: Q)) (P : List Nat) : ∀ (C S : List Nat), ex r f (P ++ a :: b :: S) C = -ex r f (P ++ b :: a :: S) C := by
 intro C
 induction C with
 | nil => intro S; simp [ex]
 | cons c C ih =>
  intro S
  simp only [ex, List.append_assoc, List.cons_append]
  have h1 := h P (S ++ C)
  have h2 := ih (S ++ [c])
  rw [h1, h2]
  grind
theorem ex_swap {r : Vc} {f : List Nat → Int} {a b : Nat} (h : ∀ P Q, f (P ++ a :: b :: Q) = -f (P ++ b :: a :: Q)) : ∀ (P S Q : List Nat), ex r f S (P ++ a :: b :: Q) = -ex r f S (P ++ b :: a :: Q) := by
 intro P
 induction P with
 | nil =>
  intro S Q
  simp only [ex, List.nil_append, List.append_assoc, List.cons_append]
  have := ex_pre (r := r) h S Q []
  grind
 | cons c P ih =>
  intro S Q
  simp only [ex, List.cons_append]
  have h1 := h (S ++ P) Q
  have h2 := ih (S ++ [c]) Q
  simp only [List.append_assoc] at h1
  rw [h1, h2]
  grind
theorem det_swap : ∀ (R : List Vc) (a b : Nat) (P Q : List Nat), det R (P ++ a :: b :: Q) = -det R (P ++ b :: a :: Q) := by
 intro R
 induction R with
 | nil => intro a b P Q; cases P <;> rfl
 | cons r R ih => intro a b P Q; simp only [det]; exact ex_swap (fun P Q => ih a b P Q) P [] Q
theorem det_move (R : List Vc) (c : Nat) : ∀ (P Q S : List Nat), (det R (S ++ P ++ c :: Q)).natAbs = (det R (S ++ c :: (P ++ Q))).natAbs := by
 intro P
 induction P with
 | nil => intro Q S; simp
 | cons p P ih =>
  intro Q S
  have h1 := ih Q (S ++ [p])
  have h2 := det_swap R p c S (P ++ Q)
  simp only [List.append_assoc, List.cons_append, List.nil_append] at h1 h2 ⊢
  rw [h1, h2, Int.natAbs_neg]
theorem det_same (R : List Vc) {c : Nat} {C : List Nat} (h : c ∈ C) : det R (c :: C) = 0 := by
 obtain ⟨P, Q, rfl⟩ := List.append_of_mem h
 have h1 := det_move R c P Q [c]
 have h2 := det_swap R c c [] (P ++ Q)
 simp only [List.cons_append, List.nil_append] at h1 h2
 omega
theorem ex_span {A : List Vc} {r : Vc} {f : List Nat → Int} (h : ∀ C, Sp A fun x => f (x :: C)) : ∀ (C P : List Nat), Sp A fun x => ex r f (x :: P) C := by
 intro C
 induction C with
 | nil => intro P; exact Sp.zero
 | cons c C ih => intro P; exact (Sp.comb (r c) (-1) (h (P ++ C)) (ih (P ++ [c]))).eq fun x => by simp only [ex, List.cons_append]; omega
theorem Sp.mono {A B : List Vc} (h : ∀ a ∈ A, a ∈ B) {v : Vc} (hv : Sp A v) : Sp B v := hv.sub fun a ha => .mem (h a ha)
theorem det_span : ∀ (R : List Vc) (C : List Nat), Sp R fun x => det R (x :: C) := by
 intro R
 induction R with
 | nil => intro C; exact Sp.zero
 | cons r R ih =>
  intro C
  have h := (ex_span (r := r) ih C []).mono (B := r :: R) (fun a ha => List.mem_cons_of_mem _ ha)
  exact (Sp.comb (det R C) (-1) (.mem List.mem_cons_self) h).eq fun x => by simp only [det, ex, List.nil_append]; grind
def hb : Nat → Nat
 | 0 => 1
 | n + 1 => (n + 1) * (3 * hb n)
theorem ex_bound {r : Vc} {f : List Nat → Int} {M m : Nat} (hr : ∀ x, (r x).natAbs ≤ 3) (hf : ∀ L, L.length = m → (f L).natAbs ≤ M) : ∀ (C P : List Nat), P.length + C.length = m + 1 → (ex r f P C).natAbs ≤ C.length * (3 * M) := by
 intro C
 induction C with
 | nil => intro P _; simp [ex]
 | cons c C ih =>
  intro P hl
  have h1 := hf (P ++ C) (by simp at hl ⊢; omega)
  have h2 := ih (P ++ [c]) (by simp at hl ⊢; omega)
  have h3 := Nat.mul_le_mul (hr c) h1
  rw [← Int.natAbs_mul] at h3
  simp only [ex, List.length_cons]
  have h4 : (C.length + 1) * (3 * M) = C.length * (3 * M) + 3 * M := Nat.succ_mul _ _
  omega
theorem det_bound : ∀ (R : List Vc) (C : List Nat), (∀ r ∈ R, ∀ x, (r x).natAbs ≤ 3) → C.length = R.length → (det R C).natAbs ≤ hb R.length := by
 intro R
 induction R with
 | nil => intro C _ hl; cases C with
  | nil => simp [det, hb]
  | cons c C => simp at hl
 | cons r R ih =>
  intro C hr hl
  have := ex_bound (r := r) (f := det R) (M := hb R.length) (m := R.length) (hr r List.mem_cons_self) (fun L hL => ih L (fun q hq => hr q (List.mem_cons_of_mem _ hq)) hL) C [] (by simpa using hl)
  simp only [det, List.length_cons, hb]
  rw [hl] at this
  exact this
theorem hb_mono {n m : Nat} (h : n ≤ m) : hb n ≤ hb m := by
 induction h with
 | refl => exact Nat.le_refl _
 | step _ ih =>
  refine Nat.le_trans ih ?_
  simp only [hb]
  have : 1 * hb _ ≤ _ := Nat.mul_le_mul (show 1 ≤ 1 from Nat.le_refl _) (Nat.le_refl (hb ‹Nat›))
  rename_i k _
  have h1 : (k + 1) * (3 * hb k) = k * (3 * hb k) + 3 * hb k := Nat.succ_mul _ _
  omega
def sm : Nat → (Nat → Int) → Int
 | 0, _ => 0
 | n + 1, g => g 0 + sm n fun x => g (x + 1)
theorem sm_zero : ∀ (n : Nat) (g : Nat → Int), (∀ x, x < n → g x = 0) → sm n g = 0
 | 0, _, _ => rfl
 | n + 1, g, h => by rw [sm, h 0 (by omega), sm_zero n _ fun x hx => h (x + 1) (by omega)]; rfl
theorem sm_comb : ∀ (n : Nat) (c d : Int) (g h : Nat → Int), sm n (fun x => c * g x + d * h x) = c * sm n g + d * sm n h
 | 0, _, _, _, _ => by simp [sm]
 | n + 1, c, d, g, h => by rw [sm, sm_comb n c d (fun x => g (x + 1)) fun x => h (x + 1), sm, sm]; grind
theorem sm_one : ∀ (n : Nat) (g : Nat → Int) (f : Nat), f < n → (∀ x, x < n → x ≠ f → g x = 0) → sm n g = g f
 | 0, _, _, h, _ => by omega
 | n + 1, g, 0, _, h => by rw [sm, sm_zero n _ fun x hx => h (x + 1) (by omega) (by omega)]; simp
 | n + 1, g, f + 1, hf, h => by
  rw [sm, h 0 (by omega) (by omega), sm_one n (fun x => g (x + 1)) f (by omega) fun x hx hxf => h (x + 1) (by omega) (by omega)]
  simp
end Fk
end Go.VI
namespace Go.VI
open Go Go.Proofs
namespace Fk
def dot (n : Nat) (a x : Vc) : Int := sm n fun k => a k * x k
theorem dot_comb (n : Nat) (a x y : Vc) (c d : Int) : dot n a (fun k => c * x k + d * y k) = c * dot n a x + d * dot n a y := by
 unfold dot
 rw [← sm_comb]
 congr 1
 funext k
 rw [Int.mul_add, Int.mul_left_comm, Int.mul_left_comm (a k) d]
theorem dot_comb' (n : Nat) (a b x : Vc) (c d : Int) : dot n (fun k => c * a k + d * b k) x = c * dot n a x + d * dot n b x := by
 unfold dot
 rw [← sm_comb]
 congr 1
 funext k
 rw [Int.add_mul, Int.mul_assoc, Int.mul_assoc]
theorem dot_neg (n : Nat) (a x : Vc) : dot n (fun k => -a k) x = -dot n a x := by
 have := dot_comb' n a a x (-1) 0
 rw [show (fun k => (-1) * a k + 0 * a k) = fun k => -a k from funext fun k => by omega] at this
 omega
def Sub (x y : Vc) : Prop := ∀ k, x k ≠ 0 → y k ≠ 0
theorem Sub.trans {x y z : Vc} (h : Sub x y) (h' : Sub y z) : Sub x z := fun k hk => h' k (h k hk)
structure Sol (n : Nat) (E : List Vc) (x : Vc) : Prop where
 pos : ∀ k, 0 ≤ x k
 out : ∀ k, n ≤ k → x k = 0
 ne : ∃ k, x k ≠ 0
 eq : ∀ a ∈ E, dot n a x = 0
structure Mnl (n : Nat) (E : List Vc) (x : Vc) : Prop where
 sol : Sol n E x
 min : ∀ y, Sol n E y → Sub y x → Sub x y
theorem Sol.congr {n : Nat} {E F : List Vc} (h : ∀ a, a ∈ E ↔ a ∈ F) {x : Vc} (hx : Sol n E x) : Sol n F x := ⟨hx.pos, hx.out, hx.ne, fun a ha => hx.eq a ((h a).2 ha)⟩
theorem Mnl.congr {n : Nat} {E F : List Vc} (h : ∀ a, a ∈ E ↔ a ∈ F) {x : Vc} (hx : Mnl n E x) : Mnl n F x := ⟨hx.sol.congr h, fun y hy => hx.min y (hy.congr fun a => (h a).symm)⟩
theorem Sol.at_pos {n : Nat} {E : List Vc} {x : Vc} (h : Sol n E x) {k : Nat} (hk : x k ≠ 0) : 0 < x k ∧ k < n := by
 have h1 := h.pos k
 refine ⟨by omega, ?_⟩
 by_cases hn : n ≤ k
 ·
  exact absurd (h.out k hn) hk
 ·
  omega
theorem best (x y : Vc) (hx : ∀ k, 0 ≤ x k) : ∀ n : Nat, (∃ k, k < n ∧ x k ≠ 0) → ∃ k0, k0 < n ∧ 0 < x k0 ∧ ∀ k, k < n → 0 < x k → y k * x k0 ≤ y k0 * x k
 | 0, h => by obtain ⟨k, hk, _⟩ := h; omega
 | n + 1, h => by
  have hn := hx n
  by_cases he : ∃ k, k < n ∧ x k ≠ 0
  ·
   obtain ⟨k1, h1, h2, h3⟩ := best x y hx n he
   by_cases hc : 0 < x n ∧ y k1 * x n < y n * x k1
   ·
    refine ⟨n, by omega, hc.1, fun k hk hp => ?_⟩
    by_cases e : k = n
    ·
     rw [e]; exact Int.le_refl _
    have a1 := Int.mul_le_mul_of_nonneg_right (h3 k (by omega) hp) (Int.le_of_lt hc.1)
    have a2 := Int.mul_le_mul_of_nonneg_left (Int.le_of_lt hc.2) (Int.le_of_lt hp)
    have e1 : y k * x k1 * x n = x k1 * (y k * x n) := by rw [Int.mul_comm (y k), Int.mul_assoc]
    have e2 : y k1 * x k * x n = x k * (y k1 * x n) := by rw [Int.mul_comm (y k1), Int.mul_assoc]
    have e3 : x k * (y n * x k1) = x k1 * (y n * x k) := by rw [← Int.mul_assoc, Int.mul_comm, Int.mul_comm (x k)]
    rw [e1, e2] at a1
    rw [e3] at a2
    exact Int.le_of_mul_le_mul_left (Int.le_trans a1 a2) h2
   ·
    refine ⟨k1, by omega, h2, fun k hk hp => ?_⟩
    by_cases e : k = n
    ·
     subst e
     omega
    ·
     exact h3 k (by omega) hp
  ·
   obtain ⟨k, hk, hne⟩ := h
   have e : k = n := by
    by_cases e : k = n
    ·
     exact e
    ·
     exact absurd ⟨k, by omega, hne⟩ he
   subst e
   refine ⟨k, by omega, by omega, fun j hj hp => ?_⟩
   by_cases e : j = k
   ·
    rw [e]; exact Int.le_refl _
   ·
    exact absurd ⟨j, by omega, by omega⟩ he
theorem Sol.less {n : Nat} {E : List Vc} {x m : Vc} (hx : Sol n E x) (hm : Sol n E m) (hs : Sub m x) : ∃ k0, 0 < m k0 ∧ 0 < x k0 ∧ k0 < n ∧ (∀ k, 0 ≤ m k0 * x k + (-x k0) * m k) ∧ m k0 * x k0 + (-x k0) * m k0 = 0 ∧ (∀ a ∈ E, dot n a (fun k => m k0 * x k + (-x k0) * m k) = 0) ∧ (∀ k, n ≤ k → m k0 * x k + (-x k0) * m k = 0) ∧ Sub (fun k => m k0 * x k + (-x k0) * m k) x := by
 obtain ⟨k, hk⟩ := hm.ne
 obtain ⟨k0, h1, h2, h3⟩ := best m (fun k => -x k) hm.pos n ⟨k, (hm.at_pos hk).2, hk⟩
 refine ⟨k0, h2, (hx.at_pos (hs k0 (by omega))).1, h1, fun k => ?_, ?_, fun a ha => ?_, fun k hk => ?_, fun k hk => ?_⟩
 ·
  by_cases hz : m k = 0
  ·
   rw [hz, Int.mul_zero, Int.add_zero]
   exact Int.mul_nonneg (Int.le_of_lt h2) (hx.pos k)
  ·
   have := h3 k (hm.at_pos hz).2 (hm.at_pos hz).1
   rw [Int.neg_mul, Int.mul_comm (x k)] at this
   omega
 ·
  rw [Int.neg_mul, Int.mul_comm (x k0)]; omega
 ·
  rw [dot_comb, hx.eq a ha, hm.eq a ha, Int.mul_zero, Int.mul_zero]; rfl
 ·
  rw [hx.out k hk, hm.out k hk, Int.mul_zero, Int.mul_zero]; rfl
 ·
  intro hx0
  apply hk
  have : m k = 0 := by
   by_cases e : m k = 0
   ·
    exact e
   ·
    exact absurd hx0 (hs k e)
  show m k0 * x k + (-x k0) * m k = 0
  rw [hx0, this, Int.mul_zero, Int.mul_zero]; rfl
def cnt : Nat → Vc → Nat
 | 0, _ => 0
 | n + 1, x => cnt n x + if x n = 0 then 0 else 1
theorem cnt_le {x y : Vc} (h : Sub x y) : ∀ n, cnt n x ≤ cnt n y
 | 0 => Nat.le_refl _
 | n + 1 => by
  have := cnt_le h n
  rw [cnt, cnt]
  by_cases h1 : x n = 0
  ·
   rw [if_pos h1]; split <;> omega
  ·
   rw [if_neg h1, if_neg (h n h1)]; omega
theorem cnt_lt {x y : Vc} (h : Sub x y) {k : Nat} (h1 : x k = 0) (h2 : y k ≠ 0) : ∀ n, k < n → cnt n x < cnt n y
 | 0, hk => by omega
 | n + 1, hk => by
  rw [cnt, cnt]
  by_cases e : k = n
  ·
   subst e
   rw [if_pos h1, if_neg h2]
   have := cnt_le h k
   omega
  ·
   have := cnt_lt h h1 h2 n (by omega)
   by_cases h3 : x n = 0
   ·
    rw [if_pos h3]; split <;> omega
   ·
    rw [if_neg h3, if_neg (h n h3)]; omega
theorem Sol.mnl {n : Nat} {E : List Vc} : ∀ (c : Nat) (x : Vc), cnt n x ≤ c → Sol n E x → ∃ m, Mnl n E m ∧ Sub m x := by
 intro c
 induction c with
 | zero =>
  intro x hc hx
  exact ⟨x, ⟨hx, fun y hy hs k hk => by
   intro hz
   have := cnt_lt hs hz hk n (hx.at_pos hk).2
   omega⟩, fun k hk => hk⟩
 | succ c ih =>
  intro x hc hx
  by_cases hm : ∀ y, Sol n E y → Sub y x → Sub x y
  ·
   exact ⟨x, ⟨hx, hm⟩, fun k hk => hk⟩
  ·
   have : ∃ y, Sol n E y ∧ Sub y x ∧ ¬ Sub x y := by
    apply Classical.byContradiction
    intro hn
    exact hm fun y h1 h2 => Classical.byContradiction fun h3 => hn ⟨y, h1, h2, h3⟩
   obtain ⟨y, h1, h2, h3⟩ := this
   have : ∃ k, x k ≠ 0 ∧ y k = 0 := by
    apply Classical.byContradiction
    intro hn
    exact h3 fun k hk hz => hn ⟨k, hk, hz⟩
   obtain ⟨k, hk, hz⟩ := this
   have := cnt_lt h2 hz hk n (hx.at_pos hk).2
   obtain ⟨m, hm, hs⟩ := ih y (by omega) h1
   exact ⟨m, hm, hs.trans h2⟩
theorem Sol.min {n : Nat} {E : List Vc} {x : Vc} (hx : Sol n E x) : ∃ m, Mnl n E m ∧ Sub m x := Sol.mnl _ x (Nat.le_refl _) hx
theorem Sol.pos_dot {n : Nat} {E : List Vc} {a : Vc} : ∀ (c : Nat) (x : Vc), cnt n x ≤ c → Sol n E x → (∀ m, Mnl n E m → Sub m x → 0 < dot n a m) → 0 < dot n a x := by
 intro c
 induction c with
 | zero =>
  intro x hc hx h
  obtain ⟨k, hk⟩ := hx.ne
  have := cnt_lt (x := fun _ => 0) (y := x) (fun k hk => absurd rfl hk) rfl hk n (hx.at_pos hk).2
  omega
 | succ c ih =>
  intro x hc hx h
  obtain ⟨m, hm, hs⟩ := hx.min
  have hp := h m hm hs
  obtain ⟨k0, h1, h2, h3, h4, h5, h6, h7, h8⟩ := hx.less hm.sol hs
  have hd : dot n a (fun k => m k0 * x k + (-x k0) * m k) = m k0 * dot n a x + (-x k0) * dot n a m := dot_comb _ _ _ _ _ _
  have hq := Int.mul_pos h2 hp
  rw [Int.neg_mul] at hd
  by_cases hz : ∃ k, m k0 * x k + (-x k0) * m k ≠ 0
  ·
   have hlt := cnt_lt h8 h5 (show x k0 ≠ 0 by omega) n h3
   have := ih _ (by omega) ⟨h4, h7, hz, h6⟩ fun m' hm' hs' => h m' hm' (hs'.trans h8)
   rw [hd] at this
   exact Int.pos_of_mul_pos_right (a := m k0) (by omega) h1
  ·
   have e0 : dot n a (fun k => m k0 * x k + (-x k0) * m k) = 0 := by
    unfold dot
    refine sm_zero _ _ fun k _ => ?_
    have : m k0 * x k + (-x k0) * m k = 0 := Classical.byContradiction fun hn => hz ⟨k, hn⟩
    show a k * (m k0 * x k + (-x k0) * m k) = 0
    rw [this, Int.mul_zero]
   rw [hd] at e0
   exact Int.pos_of_mul_pos_right (a := m k0) (by omega) h1
theorem Mnl.uniq {n : Nat} {E : List Vc} {x y : Vc} (hx : Mnl n E x) (he : ∀ a ∈ E, dot n a y = 0) (hs : Sub y x) : ∃ p q : Int, 0 < p ∧ ∀ k, p * y k = q * x k := by
 obtain ⟨k, hk⟩ := hx.sol.ne
 obtain ⟨k0, h1, h2, h3⟩ := best x y hx.sol.pos n ⟨k, (hx.sol.at_pos hk).2, hk⟩
 refine ⟨x k0, y k0, h2, fun k => ?_⟩
 have y0 : ∀ k, x k = 0 → y k = 0 := fun k hz => Classical.byContradiction fun hn => hs k hn hz
 have hz : ¬ Sol n E (fun k => y k0 * x k + (-x k0) * y k) := fun hz => by
  have := hx.min _ hz (fun k hk hx0 => hk (by show y k0 * x k + (-x k0) * y k = 0; rw [hx0, y0 k hx0, Int.mul_zero, Int.mul_zero]; rfl)) k0 (by omega)
  apply this
  show y k0 * x k0 + (-x k0) * y k0 = 0
  rw [Int.neg_mul, Int.mul_comm (x k0)]; omega
 by_cases hn : y k0 * x k + (-x k0) * y k = 0
 ·
  rw [Int.neg_mul] at hn
  omega
 ·
  exact absurd ⟨fun k => by
   by_cases e : x k = 0
   ·
    rw [e, y0 k e, Int.mul_zero, Int.mul_zero]; exact Int.le_refl _
   ·
    have := h3 k (hx.sol.at_pos e).2 (hx.sol.at_pos e).1
    rw [Int.mul_comm (y k)] at this
    rw [Int.neg_mul]
    omega, fun k hk => by rw [hx.sol.out k hk, y0 k (hx.sol.out k hk), Int.mul_zero, Int.mul_zero]; rfl, ⟨k, hn⟩, fun a ha => by rw [dot_comb, hx.sol.eq a ha, he a ha, Int.mul_zero, Int.mul_zero]; rfl⟩ hz
theorem Mnl.same {n : Nat} {E : List Vc} {x y : Vc} (hx : Mnl n E x) (hy : Sol n E y) (px : Prm x) (py : Prm y) (hs : Sub y x) : y = x := by
 obtain ⟨p, q, hp, h⟩ := hx.uniq hy.eq hs
 obtain ⟨k, hk⟩ := hy.ne
 have h1 := hy.at_pos hk
 have h2 := hx.sol.at_pos (hs k hk)
 have h3 := Int.mul_pos hp h1.1
 rw [h k] at h3
 exact funext (py.same px hp (Int.pos_of_mul_pos_left h3 h2.1) h)
theorem step_cand {n : Nat} {E : List Vc} {a x : Vc} (hx : Sol n (a :: E) x) : (∃ m, Mnl n E m ∧ dot n a m = 0 ∧ Sub m x) ∨ ∃ p q, (Mnl n E p ∧ 0 < dot n a p ∧ Sub p x) ∧ Mnl n E q ∧ dot n a q < 0 ∧ Sub q x := by
 have hs : Sol n E x := ⟨hx.pos, hx.out, hx.ne, fun b hb => hx.eq b (List.mem_cons_of_mem _ hb)⟩
 have h0 := hx.eq a List.mem_cons_self
 have f1 : ∃ m, Mnl n E m ∧ Sub m x ∧ dot n a m ≤ 0 := by
  apply Classical.byContradiction
  intro hn
  have := Sol.pos_dot (a := a) _ x (Nat.le_refl _) hs fun m hm hsm => by
   by_cases h : 0 < dot n a m
   ·
    exact h
   ·
    exact absurd ⟨m, hm, hsm, by omega⟩ hn
  omega
 have f2 : ∃ m, Mnl n E m ∧ Sub m x ∧ 0 ≤ dot n a m := by
  apply Classical.byContradiction
  intro hn
  have := Sol.pos_dot (a := fun k => -a k) _ x (Nat.le_refl _) hs fun m hm hsm => by
   rw [dot_neg]
   by_cases h : dot n a m < 0
   ·
    omega
   ·
    exact absurd ⟨m, hm, hsm, by omega⟩ hn
  rw [dot_neg] at this
  omega
 obtain ⟨q, q1, q2, q3⟩ := f1
 obtain ⟨p, p1, p2, p3⟩ := f2
 by_cases hq : dot n a q = 0
 ·
  exact .inl ⟨q, q1, hq, q2⟩
 by_cases hp : dot n a p = 0
 ·
  exact .inl ⟨p, p1, hp, p2⟩
 exact .inr ⟨p, q, ⟨p1, by omega, p2⟩, q1, by omega, q2⟩
def comb (n : Nat) (a p q : Vc) : Vc := fun k => (-dot n a q) * p k + dot n a p * q k
theorem comb_pos {n : Nat} {E : List Vc} {a p q : Vc} (hp : Sol n E p) (hq : Sol n E q) (h1 : 0 < dot n a p) (h2 : dot n a q < 0) (k : Nat) : 0 ≤ comb n a p q k ∧ (comb n a p q k = 0 ↔ p k = 0 ∧ q k = 0) := by
 have a1 := Int.mul_nonneg (show 0 ≤ -dot n a q by omega) (hp.pos k)
 have a2 := Int.mul_nonneg (Int.le_of_lt h1) (hq.pos k)
 unfold comb
 refine ⟨by omega, fun h => ?_, fun ⟨e1, e2⟩ => by rw [e1, e2, Int.mul_zero, Int.mul_zero]; rfl⟩
 have e1 : -dot n a q * p k = 0 := by omega
 have e2 : dot n a p * q k = 0 := by omega
 rcases Int.mul_eq_zero.1 e1 with h | h
 ·
  omega
 rcases Int.mul_eq_zero.1 e2 with h' | h'
 ·
  omega
 exact ⟨h, h'⟩
theorem comb_sol {n : Nat} {E : List Vc} {a p q : Vc} (hp : Sol n E p) (hq : Sol n E q) (h1 : 0 < dot n a p) (h2 : dot n a q < 0) : Sol n (a :: E) (comb n a p q) := by
 refine ⟨fun k => (comb_pos hp hq h1 h2 k).1, fun k hk => ((comb_pos hp hq h1 h2 k).2).2 ⟨hp.out k hk, hq.out k hk⟩, ?_, fun b hb => ?_⟩
 ·
  obtain ⟨k, hk⟩ := hp.ne
  exact ⟨k, fun hz => hk (((comb_pos hp hq h1 h2 k).2).1 hz).1⟩
 ·
  unfold comb
  rw [dot_comb]
  rcases List.mem_cons.1 hb with rfl | hb
  ·
   rw [Int.neg_mul, Int.mul_comm (dot n b q)]; omega
  ·
   rw [hp.eq b hb, hq.eq b hb, Int.mul_zero, Int.mul_zero]; rfl
structure Inv (n : Nat) (E : List Vc) (R : Vc → Prop) : Prop where
 mnl : ∀ r, R r → Mnl n E r ∧ Prm r
 all : ∀ m, Mnl n E m → ∃ r, R r ∧ Sub r m
structure Cand (n : Nat) (E : List Vc) (a : Vc) (R C : Vc → Prop) : Prop where
 sol : ∀ z, C z → Sol n (a :: E) z ∧ Prm z
 zero : ∀ r, R r → dot n a r = 0 → C r
 comb : ∀ p q, R p → R q → 0 < dot n a p → dot n a q < 0 → ∃ z, C z ∧ Sub z (comb n a p q)
structure Filt (C K : Vc → Prop) : Prop where
 sub : ∀ z, K z → C z
 min : ∀ z, K z → ∀ w, C w → Sub w z → Sub z w
 all : ∀ z, C z → (∀ w, C w → Sub w z → Sub z w) → ∃ w, K w ∧ Sub w z
theorem Cand.all {n : Nat} {E : List Vc} {a : Vc} {R C : Vc → Prop} (i : Inv n E R) (c : Cand n E a R C) {x : Vc} (hx : Sol n (a :: E) x) : ∃ z, C z ∧ Sub z x := by
 have rep : ∀ m, Mnl n E m → ∃ r, R r ∧ Sub r m ∧ Mnl n E r ∧ ∃ p q : Int, 0 < p ∧ 0 < q ∧ ∀ k, p * r k = q * m k := fun m hm => by
  obtain ⟨r, hr, hs⟩ := i.all m hm
  have hr' := (i.mnl r hr).1
  obtain ⟨p, q, hp, h⟩ := hm.uniq hr'.sol.eq hs
  obtain ⟨k, hk⟩ := hr'.sol.ne
  have h1 := hr'.sol.at_pos hk
  have h2 := hm.sol.at_pos (hs k hk)
  have h3 := Int.mul_pos hp h1.1
  rw [h k] at h3
  exact ⟨r, hr, hs, hr', p, q, hp, Int.pos_of_mul_pos_left h3 h2.1, h⟩
 have dots : ∀ (r m : Vc) (p q : Int), (∀ k, p * r k = q * m k) → p * dot n a r = q * dot n a m := fun r m p q h => by
  have e1 := dot_comb n a r r p 0
  have e2 := dot_comb n a m m q 0
  rw [show (fun k => p * r k + 0 * r k) = fun k => q * m k + 0 * m k from funext fun k => by have := h k; omega] at e1
  omega
 rcases step_cand hx with ⟨m, hm, h0, hs⟩ | ⟨p, q, ⟨hp, p1, p2⟩, hq, q1, q2⟩
 ·
  obtain ⟨r, hr, hs', _, u, v, hu, hv, h⟩ := rep m hm
  have := dots r m u v h
  rw [h0, Int.mul_zero] at this
  rcases Int.mul_eq_zero.1 this with e | e
  ·
   omega
  ·
   exact ⟨r, c.zero r hr e, hs'.trans hs⟩
 ·
  obtain ⟨r, hr, hs1, hr1, u, v, hu, hv, h⟩ := rep p hp
  obtain ⟨t, ht, hs2, ht1, u', v', hu', hv', h'⟩ := rep q hq
  have d1 := dots r p u v h
  have d2 := dots t q u' v' h'
  have b1 : 0 < dot n a r := by
   have := Int.mul_pos hv p1
   rw [← d1] at this
   exact Int.pos_of_mul_pos_right this hu
  have b2 : dot n a t < 0 := by
   have := Int.mul_pos hv' (show 0 < -dot n a q by omega)
   rw [Int.mul_neg, ← d2, ← Int.mul_neg] at this
   have := Int.pos_of_mul_pos_right this hu'
   omega
  obtain ⟨z, hz, hs⟩ := c.comb r t hr ht b1 b2
  refine ⟨z, hz, fun k hk => ?_⟩
  have := hs k hk
  intro hx0
  apply this
  refine ((comb_pos hr1.sol ht1.sol b1 b2 k).2).2 ⟨?_, ?_⟩
  ·
   exact Classical.byContradiction fun e => p2 k (hs1 k e) hx0
  ·
   exact Classical.byContradiction fun e => q2 k (hs2 k e) hx0
theorem Inv.step {n : Nat} {E : List Vc} {a : Vc} {R C K : Vc → Prop} (i : Inv n E R) (c : Cand n E a R C) (f : Filt C K) : Inv n (a :: E) K := by
 have kept : ∀ r, K r → Mnl n (a :: E) r := fun r hr => ⟨(c.sol r (f.sub r hr)).1, fun y hy hs => by
  obtain ⟨z, hz, hsz⟩ := c.all i hy
  exact (f.min r hr z hz (hsz.trans hs)).trans hsz⟩
 refine ⟨fun r hr => ⟨kept r hr, (c.sol r (f.sub r hr)).2⟩, fun m hm => ?_⟩
 obtain ⟨z, hz, hs⟩ := c.all i hm.sol
 have hmz := hm.min z (c.sol z hz).1 hs
 obtain ⟨w, hw, hsw⟩ := f.all z hz fun w hw hsw => hs.trans (hm.min w (c.sol w hw).1 (hsw.trans hs))
 exact ⟨w, hw, hsw.trans hs⟩
theorem Inv.start {n : Nat} {R : Vc → Prop} (h1 : ∀ r, R r → ∃ i, i < n ∧ r = fun k => if k = i then 1 else 0) (h2 : ∀ i, i < n → R fun k => if k = i then 1 else 0) : Inv n [] R := by
 refine ⟨fun r hr => ?_, fun m hm => ?_⟩
 ·
  obtain ⟨i, hi, rfl⟩ := h1 r hr
  refine ⟨⟨⟨fun k => by show (0 : Int) ≤ if k = i then 1 else 0; split <;> decide, fun k hk => if_neg (by omega), ⟨i, by show (if i = i then (1 : Int) else 0) ≠ 0; rw [if_pos rfl]; decide⟩, fun a ha => by cases ha⟩, fun y hy hs k hk => ?_⟩, fun d hd => ?_⟩
  ·
   have e : k = i := Classical.byContradiction fun hn => hk (if_neg hn)
   obtain ⟨j, hj⟩ := hy.ne
   have e2 : j = i := Classical.byContradiction fun hn => hs j hj (if_neg hn)
   rw [e, ← e2]; exact hj
  ·
   have := hd i
   simpa using this
 ·
  obtain ⟨i, hi⟩ := hm.sol.ne
  exact ⟨_, h2 i (hm.sol.at_pos hi).2, fun k hk => by
   have e : k = i := Classical.byContradiction fun hn => hk (if_neg hn)
   rw [e]; exact hi⟩
theorem Sol.covered {n : Nat} {E : List Vc} : ∀ (c : Nat) (x : Vc), cnt n x ≤ c → Sol n E x → ∀ k, x k ≠ 0 → ∃ m, Mnl n E m ∧ Sub m x ∧ m k ≠ 0 := by
 intro c
 induction c with
 | zero =>
  intro x hc hx k hk
  have := cnt_lt (x := fun _ => 0) (y := x) (fun k hk => absurd rfl hk) rfl hk n (hx.at_pos hk).2
  omega
 | succ c ih =>
  intro x hc hx k hk
  obtain ⟨m, hm, hs⟩ := hx.min
  by_cases hmk : m k = 0
  ·
   obtain ⟨k0, h1, h2, h3, h4, h5, h6, h7, h8⟩ := hx.less hm.sol hs
   have hz : m k0 * x k + (-x k0) * m k ≠ 0 := by
    rw [hmk, Int.mul_zero, Int.add_zero]
    intro h
    rcases Int.mul_eq_zero.1 h with h | h
    ·
     omega
    ·
     exact hk h
   have hlt := cnt_lt h8 h5 (show x k0 ≠ 0 by omega) n h3
   obtain ⟨m', a1, a2, a3⟩ := ih _ (by omega) ⟨h4, h7, ⟨k, hz⟩, h6⟩ k hz
   exact ⟨m', a1, a2.trans h8, a3⟩
  ·
   exact ⟨m, hm, hs, hmk⟩
theorem Sp.dot {n : Nat} {R : List Vc} {x v : Vc} (h : ∀ b ∈ R, dot n b x = 0) (hv : Sp R v) : Fk.dot n v x = 0 := by
 induction hv with
 | mem ha => exact h _ ha
 | zero => exact sm_zero _ _ fun k _ => Int.zero_mul _
 | comb c d _ _ i j => rw [dot_comb', i, j, Int.mul_zero, Int.mul_zero]; rfl
 | @div u c hc _ i =>
  have := dot_comb' n u u x c 0
  rw [show (fun k => c * u k + 0 * u k) = fun k => c * u k from funext fun k => by omega, i] at this
  rw [Int.zero_mul, Int.add_zero] at this
  rcases Int.mul_eq_zero.1 this.symm with e | e
  ·
   exact absurd e hc
  ·
   exact e
theorem ex_zero {r : Vc} {f : List Nat → Int} : ∀ (C P : List Nat), (∀ c ∈ C, r c = 0) → ex r f P C = 0
 | [], _, _ => rfl
 | c :: C, P, h => by rw [ex, h c (by simp), ex_zero C _ fun d hd => h d (by simp [hd])]; simp
def unit (k : Nat) : Vc := fun j => if j = k then 1 else 0
theorem ex_lin {n : Nat} {a : Vc} {f : List Nat → Int} : ∀ (C P : List Nat), (∀ c ∈ C, c < n) → ex a f P C = sm n fun k => a k * ex (unit k) f P C
 | [], _, _ => (sm_zero n _ fun k _ => Int.mul_zero _).symm
 | c :: C, P, h => by
  have ih := ex_lin (n := n) (a := a) (f := f) C (P ++ [c]) fun d hd => h d (by simp [hd])
  have h1 := sm_one n (fun k => a k * (unit k c * f (P ++ C))) c (h c (by simp)) fun k hk hne => by
   rw [show unit k c = 0 from if_neg (fun e => hne e.symm), Int.zero_mul, Int.mul_zero]
  have h2 := sm_comb n 1 (-1) (fun k => a k * (unit k c * f (P ++ C))) (fun k => a k * ex (unit k) f (P ++ [c]) C)
  rw [ex, ih]
  rw [show (fun k => a k * ex (unit k) f P (c :: C)) = fun k => 1 * (a k * (unit k c * f (P ++ C))) + (-1) * (a k * ex (unit k) f (P ++ [c]) C) from funext fun k => by rw [ex, Int.mul_sub]; omega, h2, h1]
  rw [show unit c c = 1 from if_pos rfl, Int.one_mul (f _)]
  omega
theorem det_nodup {R : List Vc} : ∀ (C P : List Nat), det R (P ++ C) ≠ 0 → C.Nodup ∧ ∀ c ∈ C, c ∉ P
 | [], P, _ => ⟨List.nodup_nil, fun c hc => by cases hc⟩
 | c :: C, P, h => by
  have h1 : c ∉ P ++ C := fun hm => by
   have h2 := det_move R c P C []
   simp only [List.nil_append] at h2
   rw [det_same R hm] at h2
   omega
  obtain ⟨h3, h4⟩ := det_nodup (R := R) C (P ++ [c]) (by simpa using h)
  refine ⟨List.nodup_cons.2 ⟨fun hm => h1 (List.mem_append_right _ hm), h3⟩, fun d hd => ?_⟩
  rcases List.mem_cons.1 hd with rfl | hd
  ·
   exact fun hm => h1 (List.mem_append_left _ hm)
  ·
   exact fun hm => h4 d hd (List.mem_append_left _ hm)
theorem nodup_le : ∀ (n : Nat) (C : List Nat), C.Nodup → (∀ c ∈ C, c < n) → C.length ≤ n
 | 0, [], _, _ => Nat.le_refl _
 | 0, c :: C, _, h => absurd (h c (by simp)) (by omega)
 | n + 1, C, hd, h => by
  have := nodup_le n (C.erase n) (hd.erase n) fun c hc => by
   have h1 := h c (List.mem_of_mem_erase hc)
   have : c ≠ n := fun e => by subst e; exact (hd.not_mem_erase) hc
   omega
  rw [List.length_erase] at this
  split at this <;> omega
theorem Mnl.bound {n : Nat} {E : List Vc} {x : Vc} (hx : Mnl n E x) (hp : Prm x) (hE : ∀ a ∈ E, ∀ k, (a k).natAbs ≤ 3) (k : Nat) : (x k).natAbs ≤ hb n := by
  have hP : ∃ r, (∃ (R : List Vc) (C : List Nat), (∀ b ∈ R, b ∈ E) ∧ (∀ c ∈ C, x c ≠ 0) ∧ R.length = r ∧ C.length = r ∧ det R C ≠ 0) ∧ ¬ ∃ (R : List Vc) (C : List Nat), (∀ b ∈ R, b ∈ E) ∧ (∀ c ∈ C, x c ≠ 0) ∧ R.length = r + 1 ∧ C.length = r + 1 ∧ det R C ≠ 0 := by
    apply Classical.byContradiction
    intro hn
    have : ∀ r, ∃ (R : List Vc) (C : List Nat), (∀ b ∈ R, b ∈ E) ∧ (∀ c ∈ C, x c ≠ 0) ∧ R.length = r ∧ C.length = r ∧ det R C ≠ 0 := by
      intro r
      induction r with
      | zero => exact ⟨[], [], fun b hb => (by cases hb), fun c hc => (by cases hc), rfl, rfl, by decide⟩
      | succ r ih => exact Classical.byContradiction fun h => hn ⟨r, ih, h⟩
    obtain ⟨R, C, _, h2, _, h4, h5⟩ := this (n + 1)
    have h6 := (det_nodup (R := R) C [] h5).1
    have := nodup_le n C h6 fun c hc => (hx.sol.at_pos (h2 c hc)).2
    omega
  obtain ⟨r, ⟨R, C, hR, hC, lR, lC, hD⟩, hmax⟩ := hP
  have hnd := (det_nodup (R := R) C [] hD).1
  have hCn : ∀ c ∈ C, c < n := fun c hc => (hx.sol.at_pos (hC c hc)).2
  have hc1 : ∃ c1, x c1 ≠ 0 ∧ c1 ∉ C := by
    apply Classical.byContradiction
    intro hn
    have hall : ∀ c, x c ≠ 0 → c ∈ C := fun c hc => Classical.byContradiction fun h => hn ⟨c, hc, h⟩
    obtain ⟨c0, h0⟩ := hx.sol.ne
    obtain ⟨P, Q, rfl⟩ := List.append_of_mem (hall c0 h0)
    have h1 := det_move R c0 P Q []
    simp only [List.nil_append] at h1
    have h2 := Sp.dot (n := n) (x := x) (fun b hb => hx.sol.eq b (hR b hb)) (det_span R (P ++ Q))
    have h3 := sm_one n (fun k => det R (k :: (P ++ Q)) * x k) c0 (hx.sol.at_pos h0).2 fun k hk hne => by
      by_cases hk0 : x k = 0
      · rw [hk0, Int.mul_zero]
      · have := hall k hk0
        rw [det_same R (by simp at this ⊢; rcases this with h | h | h
                           · exact .inl h
                           · exact absurd h hne
                           · exact .inr h), Int.zero_mul]
    unfold dot at h2
    rw [h3] at h2
    rcases Int.mul_eq_zero.1 h2 with h | h
    · rw [h] at h1; omega
    · exact h0 h
  obtain ⟨c1, hc1, hc1C⟩ := hc1
  have hL : ∀ c ∈ c1 :: C, x c ≠ 0 := fun c hc => by
    rcases List.mem_cons.1 hc with rfl | hc
    · exact hc1
    · exact hC c hc
  have hLn : ∀ c ∈ c1 :: C, c < n := fun c hc => (hx.sol.at_pos (hL c hc)).2
  have hlen : r + 1 ≤ n := by
    have := nodup_le n (c1 :: C) (List.nodup_cons.2 ⟨hc1C, hnd⟩) hLn
    simp only [List.length_cons] at this
    omega
  obtain ⟨p, q, hp0, hq⟩ := hx.uniq (y := fun k => ex (unit k) (det R) [] (c1 :: C)) (fun a ha => by
      have e : dot n a (fun k => ex (unit k) (det R) [] (c1 :: C)) = det (a :: R) (c1 :: C) := (ex_lin (n := n) (a := a) (f := det R) (c1 :: C) [] hLn).symm
      rw [e]
      exact Classical.byContradiction fun h => hmax ⟨a :: R, c1 :: C, fun b hb => by
        rcases List.mem_cons.1 hb with rfl | hb
        · exact ha
        · exact hR b hb, hL, by simp [lR], by simp [lC], h⟩) (fun k hk => by
      by_cases hm : k ∈ c1 :: C
      · exact hL k hm
      · exact absurd (ex_zero _ _ fun c hc => if_neg fun (e : c = k) => hm (e ▸ hc)) hk)
  have hy1 : ex (unit c1) (det R) [] (c1 :: C) = det R C := by
    rw [ex, ex_zero (r := unit c1) C _ fun c hc => if_neg fun (e : c = c1) => hc1C (e ▸ hc), show unit c1 c1 = 1 from if_pos rfl]
    simp
  have hq0 : q ≠ 0 := fun e => by
    have this : p * ex (unit c1) (det R) [] (c1 :: C) = q * x c1 := hq c1
    rw [hy1, e, Int.zero_mul] at this
    rcases Int.mul_eq_zero.1 this with h | h
    · omega
    · exact hD h
  have h1 : (x k).natAbs ≤ (ex (unit k) (det R) [] (c1 :: C)).natAbs := hp.bound (v := fun k => ex (unit k) (det R) [] (c1 :: C)) (show p ≠ 0 by omega) hq0 hq k
  have h2 := ex_bound (r := unit k) (f := det R) (M := hb r) (m := r) (fun j => by show (if j = k then (1 : Int) else 0).natAbs ≤ 3; split <;> decide) (fun L hl => by
    have := det_bound R L (fun b hb => hE b (hR b hb)) (by omega)
    rwa [lR] at this) (c1 :: C) [] (by simp [lC])
  have h3 : (c1 :: C).length * (3 * hb r) = hb (r + 1) := by rw [List.length_cons, lC]; rfl
  have h4 := hb_mono hlen
  omega
end Fk
end Go.VI
namespace Go.VI
open Go Go.Proofs
namespace Fk
def fn (x : List Int) : Vc := fun k => x.getD k 0
theorem fn_lt {x : List Int} {k : Nat} (h : k < x.length) : fn x k = x[k] := getD_n h 0
theorem fn_ge {x : List Int} {k : Nat} (h : x.length ≤ k) : fn x k = 0 := by
 unfold fn
 rw [List.getD_eq_getElem?_getD, List.getElem?_eq_none h]
 rfl
theorem fn_mem {x : List Int} {k : Nat} (h : fn x k ≠ 0) : k < x.length ∧ fn x k ∈ x := by
 by_cases hk : k < x.length
 ·
  exact ⟨hk, by rw [fn_lt hk]; exact List.getElem_mem hk⟩
 ·
  exact absurd (fn_ge (by omega)) h
theorem dotL_dot : ∀ (a b : List Int) (n : Nat), a.length = n → b.length = n → dotL a b = dot n (fn a) (fn b)
 | [], [], _, rfl, _ => rfl
 | x :: a, y :: b, n, ha, hb => by
  obtain ⟨m, rfl⟩ : ∃ m, n = m + 1 := ⟨a.length, by simpa using ha.symm⟩
  have := dotL_dot a b m (by simpa using ha) (by simpa using hb)
  rw [dotL, this]
  rfl
 | [], _ :: _, n, ha, hb => by simp at ha hb; omega
 | _ :: _, [], n, ha, hb => by simp at ha hb; omega
def suppN : List Int → Nat
 | [] => 0
 | x :: l => (if x = 0 then 0 else 1) + 2 * suppN l
theorem suppB_N (l : List Int) : suppB l = (suppN l : Int) := by
 have go : ∀ (l : List Int) (i : Nat) (s : Int), (suppL (i : Int) l).foldl (fun s i => s + 2 ^ i.toNat) s = s + 2 ^ i * (suppN l : Int) := by
  intro l
  induction l with
  | nil => intro i s; simp [suppL, suppN]
  | cons x l ih =>
   intro i s
   have h1 := ih (i + 1)
   rw [succ_cast] at h1
   rw [suppL, suppN]
   by_cases hx : x = 0
   ·
    rw [show (x == 0) = true by simpa using hx, cond_true, h1, if_pos hx, Int.pow_succ, Int.mul_assoc]
    simp
   ·
    rw [show (x == 0) = false by simpa using hx, cond_false, List.foldl_cons, Int.toNat_natCast, h1, if_neg hx, Int.pow_succ, Int.mul_assoc]
    have : (2 : Int) ^ i * ((1 + 2 * suppN l : Nat) : Int) = 2 ^ i + 2 ^ i * (2 * (suppN l : Int)) := by
     rw [show ((1 + 2 * suppN l : Nat) : Int) = 1 + 2 * (suppN l : Int) by omega, Int.mul_add, Int.mul_one]
    rw [this]
    omega
 have := go l 0 0
 unfold suppB
 simp only [Int.pow_zero, Int.one_mul, Int.zero_add] at this
 exact this
theorem suppN_bit : ∀ (l : List Int) (k : Nat), (suppN l).testBit k = decide (fn l k ≠ 0)
 | [], k => by simp [suppN, fn]
 | x :: l, 0 => by
  rw [Nat.testBit_zero, suppN]
  show decide (_ % 2 = 1) = decide (x ≠ 0)
  by_cases hx : x = 0
  ·
   rw [if_pos hx, decide_eq_false (by omega), decide_eq_false (by simpa using hx)]
  ·
   rw [if_neg hx, decide_eq_true (by omega), decide_eq_true hx]
 | x :: l, k + 1 => by
  rw [Nat.testBit_succ, suppN]
  have : ((if x = 0 then 0 else 1) + 2 * suppN l) / 2 = suppN l := by split <;> omega
  rw [this, suppN_bit l k]
  rfl
theorem suppN_lt : ∀ (l : List Int), suppN l < 2 ^ l.length
 | [] => by simp [suppN]
 | x :: l => by
  have := suppN_lt l
  rw [suppN, List.length_cons, Nat.pow_succ]
  split <;> omega
theorem suppN_eq {x y : List Int} : suppN x = suppN y ↔ Sub (fn x) (fn y) ∧ Sub (fn y) (fn x) := by
 constructor
 ·
  intro h
  have : ∀ k, decide (fn x k ≠ 0) = decide (fn y k ≠ 0) := fun k => by rw [← suppN_bit, ← suppN_bit, h]
  refine ⟨fun k hk => ?_, fun k hk => ?_⟩
  ·
   have := this k
   rw [decide_eq_true hk] at this
   exact of_decide_eq_true this.symm
  ·
   have := this k
   rw [decide_eq_true hk] at this
   exact of_decide_eq_true this
 ·
  rintro ⟨h1, h2⟩
  apply Nat.eq_of_testBit_eq
  intro k
  rw [suppN_bit, suppN_bit]
  by_cases hk : fn x k = 0
  ·
   rw [decide_eq_false (by simpa using hk), decide_eq_false (fun h => h2 k h hk)]
  ·
   rw [decide_eq_true hk, decide_eq_true (h1 k hk)]
theorem suppB_eq {x y : List Int} : (suppB x == suppB y) = true ↔ Sub (fn x) (fn y) ∧ Sub (fn y) (fn x) := by
 rw [beq_iff_eq, suppB_N, suppB_N, ← suppN_eq]
 omega
theorem subU_iff {x y : List Int} (hx : x.length ≤ 64) (hy : y.length ≤ 64) : subU (suppB x) (suppB y) = true ↔ Sub (fn x) (fn y) := by
 have p : ∀ l : List Int, l.length ≤ 64 → suppN l < 2 ^ 64 := fun l hl => Nat.lt_of_lt_of_le (suppN_lt l) (Nat.pow_le_pow_right (by decide) hl)
 unfold subU
 rw [suppB_N, suppB_N, show IntKind.u64.bits = 64 from rfl, BitVec.ofInt_natCast, BitVec.ofInt_natCast]
 have hw : IntKind.u64.wrap (((BitVec.ofNat 64 (suppN x) &&& ~~~BitVec.ofNat 64 (suppN y)).toNat : Nat) : Int) = (((BitVec.ofNat 64 (suppN x) &&& ~~~BitVec.ofNat 64 (suppN y)).toNat : Nat) : Int) := by
  have := (BitVec.ofNat 64 (suppN x) &&& ~~~BitVec.ofNat 64 (suppN y)).isLt
  exact wrap_u64 (by omega)
 rw [hw, beq_iff_eq]
 have key : (((BitVec.ofNat 64 (suppN x) &&& ~~~BitVec.ofNat 64 (suppN y)).toNat : Nat) : Int) = 0 ↔ (BitVec.ofNat 64 (suppN x) &&& ~~~BitVec.ofNat 64 (suppN y)) = 0#64 := by
  constructor
  ·
   intro h
   apply BitVec.eq_of_toNat_eq
   simpa using h
  ·
   intro h
   rw [h]; rfl
 rw [key]
 constructor
 ·
  intro h k hk
  have hk' := (fn_mem hk).1
  have h1 := congrArg (fun b => BitVec.getLsbD b k) h
  simp only [BitVec.getLsbD_and, BitVec.getLsbD_not, BitVec.getLsbD_ofNat, BitVec.getLsbD_zero, suppN_bit] at h1
  rw [decide_eq_true hk, decide_eq_true (show k < 64 by omega)] at h1
  simp at h1
  exact h1
 ·
  intro h
  apply BitVec.eq_of_getLsbD_eq
  intro k hk
  simp only [BitVec.getLsbD_and, BitVec.getLsbD_not, BitVec.getLsbD_ofNat, BitVec.getLsbD_zero, suppN_bit]
  by_cases hk0 : fn x k = 0
  ·
   rw [show decide (fn x k ≠ 0) = false from decide_eq_false (by simpa using hk0)]
   simp
  ·
   rw [decide_eq_true (h k hk0)]
   simp
theorem dropG_f {t i : Int} : ∀ (l : List Int) (k : Nat), dropG t i (k : Int) l = false ↔ ∀ (j : Nat) (hj : j < l.length), ¬ (subU l[j] t = true ∧ l[j] ≠ t) ∧ ¬ (((k + j : Nat) : Int) < i ∧ l[j] = t)
 | [], k => by simp [dropG]
 | s :: l, k => by
  have ih := dropG_f (t := t) (i := i) l (k + 1)
  rw [succ_cast] at ih
  rw [dropG, Bool.or_eq_false_iff, Bool.or_eq_false_iff, ih]
  constructor
  ·
   rintro ⟨h1, h2, h3⟩ j hj
   cases j with
   | zero =>
    simp only [List.getElem_cons_zero, Nat.add_zero]
    refine ⟨fun ⟨a, b⟩ => ?_, fun ⟨a, b⟩ => ?_⟩
    ·
     rw [a] at h1
     simp [b] at h1
    ·
     rw [decide_eq_true a] at h2
     simp [b] at h2
   | succ j =>
    have := h3 j (by simpa using hj)
    simp only [List.getElem_cons_succ]
    rw [show k + (j + 1) = k + 1 + j by omega]
    exact this
  ·
   intro h
   have h0 := h 0 (by simp)
   simp only [List.getElem_cons_zero, Nat.add_zero] at h0
   refine ⟨?_, ?_, fun j hj => ?_⟩
   ·
    cases hs : subU s t
    ·
     rfl
    ·
     have : s = t := Classical.byContradiction fun hne => h0.1 ⟨hs, hne⟩
     simp [this]
   ·
    by_cases hk : (k : Int) < i
    ·
     rw [decide_eq_true hk]
     have : s ≠ t := fun e => h0.2 ⟨hk, e⟩
     simpa using this
    ·
     rw [decide_eq_false hk]; rfl
   ·
    have := h (j + 1) (by simpa using hj)
    simp only [List.getElem_cons_succ] at this
    rw [show k + (j + 1) = k + 1 + j by omega] at this
    exact this
theorem minG_get {sets : List Int} : ∀ (l : List RowT) (i : Nat) (j : Nat) (hj : j < l.length), dropG (suppB (rowX l[j])) ((i + j : Nat) : Int) 0 sets = false → l[j] ∈ minG sets (i : Int) l
 | x :: l, i, 0, hj, h => by
  rw [minG, show dropG (suppB (rowX x)) (i : Int) 0 sets = false from h]
  simp
 | x :: l, i, j + 1, hj, h => by
  have ih := minG_get (sets := sets) l (i + 1) j (by simpa using hj) (by rw [show i + 1 + j = i + (j + 1) by omega]; exact h)
  rw [succ_cast] at ih
  rw [minG]
  simp only [List.getElem_cons_succ]
  cases dropG (suppB (rowX x)) (i : Int) 0 sets
  ·
   exact List.mem_cons_of_mem _ ih
  ·
   exact ih
theorem minG_of {sets : List Int} : ∀ (l : List RowT) (i : Nat) (r : RowT), r ∈ minG sets (i : Int) l → ∃ (j : Nat) (hj : j < l.length), l[j] = r ∧ dropG (suppB (rowX r)) ((i + j : Nat) : Int) 0 sets = false
 | [], i, r, h => by simp [minG] at h
 | x :: l, i, r, h => by
  rw [minG] at h
  have go : r ∈ minG sets ((i : Int) + 1) l → ∃ (j : Nat) (hj : j < (x :: l).length), (x :: l)[j] = r ∧ dropG (suppB (rowX r)) ((i + j : Nat) : Int) 0 sets = false := fun h => by
   rw [← succ_cast] at h
   obtain ⟨j, hj, h1, h2⟩ := minG_of l (i + 1) r h
   exact ⟨j + 1, by simpa using hj, by simpa using h1, by rw [show i + (j + 1) = i + 1 + j by omega]; exact h2⟩
  cases hd : dropG (suppB (rowX x)) (i : Int) 0 sets
  ·
   rw [hd] at h
   rcases List.mem_cons.1 h with rfl | h
   ·
    exact ⟨0, by simp, rfl, hd⟩
   ·
    exact go h
  ·
   rw [hd] at h
   exact go h
theorem minG_pw {sets : List Int} (R : RowT → RowT → Prop) : ∀ (l : List RowT) (i : Nat), (∀ (j k : Nat) (hj : j < l.length) (hk : k < l.length), j < k → dropG (suppB (rowX l[j])) ((i + j : Nat) : Int) 0 sets = false → dropG (suppB (rowX l[k])) ((i + k : Nat) : Int) 0 sets = false → R l[j] l[k]) → (minG sets (i : Int) l).Pairwise R
 | [], i, _ => List.Pairwise.nil
 | x :: l, i, h => by
  have ih := minG_pw (sets := sets) R l (i + 1) fun j k hj hk hjk h1 h2 => by
   have := h (j + 1) (k + 1) (by simpa using hj) (by simpa using hk) (by omega) (by simp only [List.getElem_cons_succ]; rw [show i + (j + 1) = i + 1 + j by omega]; exact h1) (by simp only [List.getElem_cons_succ]; rw [show i + (k + 1) = i + 1 + k by omega]; exact h2)
   simpa using this
  rw [succ_cast] at ih
  rw [minG]
  cases hd : dropG (suppB (rowX x)) (i : Int) 0 sets
  ·
   refine List.pairwise_cons.2 ⟨fun r hr => ?_, ih⟩
   rw [← succ_cast] at hr
   obtain ⟨j, hj, h1, h2⟩ := minG_of l (i + 1) r hr
   have := h 0 (j + 1) (by simp) (by simpa using hj) (by omega) hd (by simp only [List.getElem_cons_succ]; rw [h1, show i + (j + 1) = i + 1 + j by omega]; exact h2)
   simp only [List.getElem_cons_zero, List.getElem_cons_succ, h1] at this
   exact this
  ·
   exact ih
theorem min_filt {l : List RowT} (hl : ∀ r ∈ l, (rowX r).length ≤ 64) : Filt (fun z => ∃ r ∈ l, z = fn (rowX r)) (fun z => ∃ r ∈ minimalS l, z = fn (rowX r)) := by
 have at_ : ∀ (j : Nat) (hj : j < l.length) (i : Nat), dropG (suppB (rowX l[j])) (i : Int) 0 (l.map fun r => suppB (rowX r)) = false ↔ ∀ (k : Nat) (hk : k < l.length), ¬ (Sub (fn (rowX l[k])) (fn (rowX l[j])) ∧ ¬ Sub (fn (rowX l[j])) (fn (rowX l[k]))) ∧ ¬ (k < i ∧ Sub (fn (rowX l[k])) (fn (rowX l[j])) ∧ Sub (fn (rowX l[j])) (fn (rowX l[k]))) := fun j hj i => by
  have h0 := dropG_f (t := suppB (rowX l[j])) (i := (i : Int)) (l.map fun r => suppB (rowX r)) 0
  rw [show ((0 : Nat) : Int) = 0 from rfl] at h0
  rw [h0]
  have q : ∀ (k : Nat) (hk : k < l.length), (subU (suppB (rowX l[k])) (suppB (rowX l[j])) = true ∧ suppB (rowX l[k]) ≠ suppB (rowX l[j]) ↔ Sub (fn (rowX l[k])) (fn (rowX l[j])) ∧ ¬ Sub (fn (rowX l[j])) (fn (rowX l[k]))) ∧ (suppB (rowX l[k]) = suppB (rowX l[j]) ↔ Sub (fn (rowX l[k])) (fn (rowX l[j])) ∧ Sub (fn (rowX l[j])) (fn (rowX l[k]))) := fun k hk => by
   have e1 := subU_iff (hl _ (List.getElem_mem hk)) (hl _ (List.getElem_mem hj))
   have e2 := suppB_eq (x := rowX l[k]) (y := rowX l[j])
   rw [beq_iff_eq] at e2
   refine ⟨?_, e2⟩
   rw [e1, ne_eq, e2]
   exact ⟨fun ⟨a, b⟩ => ⟨a, fun c => b ⟨a, c⟩⟩, fun ⟨a, b⟩ => ⟨a, fun c => b c.2⟩⟩
  constructor
  ·
   intro h k hk
   have h1 := h k (by simpa using hk)
   simp only [List.getElem_map, Nat.zero_add] at h1
   refine ⟨fun c => h1.1 ((q k hk).1.2 c), fun c => h1.2 ⟨by omega, (q k hk).2.2 c.2⟩⟩
  ·
   intro h k hk
   have hk' : k < l.length := by simpa using hk
   have h1 := h k hk'
   simp only [List.getElem_map, Nat.zero_add]
   refine ⟨fun c => h1.1 ((q k hk').1.1 c), fun c => h1.2 ⟨by omega, (q k hk').2.1 c.2⟩⟩
 refine ⟨fun z => ?_, fun z => ?_, fun z => ?_⟩
 ·
  rintro ⟨r, hr, rfl⟩
  obtain ⟨j, hj, h1, _⟩ := minG_of l 0 r hr
  exact ⟨r, by rw [← h1]; exact List.getElem_mem hj, rfl⟩
 ·
  rintro ⟨r, hr, rfl⟩ w ⟨u, hu, rfl⟩ hs
  obtain ⟨j, hj, rfl, h2⟩ := minG_of l 0 r hr
  rw [Nat.zero_add] at h2
  obtain ⟨k, hk, rfl⟩ := List.mem_iff_getElem.1 hu
  have := ((at_ j hj j).1 h2 k hk).1
  exact Classical.byContradiction fun h => this ⟨hs, h⟩
 ·
  rintro ⟨u, hu, rfl⟩ hmin
  obtain ⟨j, hj, rfl⟩ := List.mem_iff_getElem.1 hu
  have : ∀ (n j : Nat) (hj : j < l.length), j ≤ n → (∀ w, (∃ r ∈ l, w = fn (rowX r)) → Sub w (fn (rowX l[j])) → Sub (fn (rowX l[j])) w) → ∃ w, (∃ r ∈ minimalS l, w = fn (rowX r)) ∧ Sub w (fn (rowX l[j])) := by
   intro n
   induction n with
   | zero =>
    intro j hj hn hmin
    have : j = 0 := by omega
    subst this
    refine ⟨_, ⟨l[0], ?_, rfl⟩, fun k hk => hk⟩
    refine minG_get l 0 0 hj ((at_ 0 hj 0).2 fun k hk => ⟨fun c => c.2 (hmin _ ⟨_, List.getElem_mem hk, rfl⟩ c.1), fun c => by omega⟩)
   | succ n ih =>
    intro j hj hn hmin
    by_cases hd : dropG (suppB (rowX l[j])) (j : Int) 0 (l.map fun r => suppB (rowX r)) = false
    ·
     exact ⟨_, ⟨l[j], minG_get l 0 j hj (by rw [Nat.zero_add]; exact hd), rfl⟩, fun k hk => hk⟩
    ·
     have hn' : ¬ ∀ (k : Nat) (hk : k < l.length), ¬ (Sub (fn (rowX l[k])) (fn (rowX l[j])) ∧ ¬ Sub (fn (rowX l[j])) (fn (rowX l[k]))) ∧ ¬ (k < j ∧ Sub (fn (rowX l[k])) (fn (rowX l[j])) ∧ Sub (fn (rowX l[j])) (fn (rowX l[k]))) := fun h => hd ((at_ j hj j).2 h)
     have hex : ∃ (k : Nat) (hk : k < l.length), k < j ∧ Sub (fn (rowX l[k])) (fn (rowX l[j])) ∧ Sub (fn (rowX l[j])) (fn (rowX l[k])) := by
      apply Classical.byContradiction
      intro hne
      exact hn' fun k hk => ⟨fun c => c.2 (hmin _ ⟨_, List.getElem_mem hk, rfl⟩ c.1), fun c => hne ⟨k, hk, c⟩⟩
     obtain ⟨k, hk, hkj, s1, s2⟩ := hex
     obtain ⟨w, hw, hs⟩ := ih k hk (by omega) fun w hw hsw => s1.trans (hmin w hw (hsw.trans s1))
     exact ⟨w, hw, hs.trans s1⟩
  exact this j j hj (Nat.le_refl _) hmin
theorem min_pw {l : List RowT} (hl : ∀ r ∈ l, (rowX r).length ≤ 64) : (minimalS l).Pairwise fun r s => ¬ Sub (fn (rowX r)) (fn (rowX s)) ∧ ¬ Sub (fn (rowX s)) (fn (rowX r)) := by
 refine minG_pw _ l 0 fun j k hj hk hjk h1 h2 => ?_
 rw [Nat.zero_add] at h1 h2
 have h0 := fun (t : Int) (i : Int) => dropG_f (t := t) (i := i) (l.map fun r => suppB (rowX r)) 0
 have g1 := (h0 _ _).1 h1 k (by simpa using hk)
 have g2 := (h0 _ _).1 h2 j (by simpa using hj)
 simp only [List.getElem_map, Nat.zero_add] at g1 g2
 have e1 := subU_iff (hl _ (List.getElem_mem hj)) (hl _ (List.getElem_mem hk))
 have e2 := subU_iff (hl _ (List.getElem_mem hk)) (hl _ (List.getElem_mem hj))
 have ne : suppB (rowX l[j]) ≠ suppB (rowX l[k]) := fun e => g2.2 ⟨by omega, e⟩
 exact ⟨fun h => g2.1 ⟨e1.2 h, ne⟩, fun h => g1.1 ⟨e2.2 h, fun e => ne e.symm⟩⟩
end Fk
end Go.VI
namespace Go.VI
open Go Go.Proofs
namespace Fk
theorem gcd_fold : ∀ (l : List Int) (g : Nat), ((l.foldl (fun g x => Int.gcd g x) g : Nat) : Int) ∣ (g : Int) ∧ (∀ x ∈ l, ((l.foldl (fun g x => Int.gcd g x) g : Nat) : Int) ∣ x) ∧ ∀ d : Int, d ∣ (g : Int) → (∀ x ∈ l, d ∣ x) → d ∣ ((l.foldl (fun g x => Int.gcd g x) g : Nat) : Int)
 | [], g => ⟨Int.dvd_refl _, fun x hx => (by cases hx), fun d h _ => h⟩
 | y :: l, g => by
  obtain ⟨h1, h2, h3⟩ := gcd_fold l (Int.gcd g y)
  rw [List.foldl_cons]
  refine ⟨Int.dvd_trans h1 (Int.gcd_dvd_left _ _), fun x hx => ?_, fun d hd hx => h3 d (Int.dvd_coe_gcd hd (hx y (by simp))) fun x hx' => hx x (by simp [hx'])⟩
  rcases List.mem_cons.1 hx with rfl | hx
  ·
   exact Int.dvd_trans h1 (Int.gcd_dvd_right _ _)
  ·
   exact h2 x hx
theorem gcdL_dvd {l : List Int} {x : Int} (h : x ∈ l) : (gcdL l : Int) ∣ x := (gcd_fold l 0).2.1 x h
theorem dvd_gcdL {l : List Int} {d : Int} (h : ∀ x ∈ l, d ∣ x) : d ∣ (gcdL l : Int) := (gcd_fold l 0).2.2 d (Int.dvd_zero _) h
structure RowA (A : List (List Int)) (n : Nat) (r : RowT) : Prop where
 k : r.2 = (A.length : Int)
 x : (rowX r).length = n
 v : r.1 = A.map (fun a => dotL a (rowX r)) ++ rowX r
theorem RowA.of {A : List (List Int)} {n : Nat} {r : RowT} {x : List Int} (hk : r.2 = (A.length : Int)) (hx : x.length = n) (hv : r.1 = A.map (fun a => dotL a x) ++ x) : RowA A n r ∧ rowX r = x := by
 have e : rowX r = x := by
  unfold rowX
  rw [hk, hv, Int.toNat_natCast, List.drop_append_of_le_length (by simp), List.drop_eq_nil_of_le (by simp), List.nil_append]
 exact ⟨⟨hk, by rw [e]; exact hx, by rw [e]; exact hv⟩, e⟩
theorem RowA.at {A : List (List Int)} {n : Nat} {r : RowT} (h : RowA A n r) (hA : ∀ a ∈ A, a.length = n) {j : Nat} (hj : j < A.length) : r.1.getD j 0 = dot n (fn A[j]) (fn (rowX r)) := by
 have : r.1.getD j 0 = (A.map (fun a => dotL a (rowX r)) ++ rowX r).getD j 0 := by rw [← h.v]
 rw [this, getD_n (by simp; omega), List.getElem_append_left (by simpa using hj), List.getElem_map]
 exact dotL_dot _ _ n (hA _ (List.getElem_mem hj)) h.x
theorem RowA.len {A : List (List Int)} {n : Nat} {r : RowT} (h : RowA A n r) : r.1.length = A.length + n := by
 have := congrArg List.length h.v
 rw [List.length_append, List.length_map, h.x] at this
 exact this
theorem combL_zip {i k : Int} : ∀ {xs ys q : List Int}, combL i k xs ys = some q → q = List.zipWith (fun x y => x * i + y * k) xs ys
 | [], ys, q, h => by cases ys <;> (simp only [combL, Option.some.injEq] at h; subst h; rfl)
 | x :: xs, [], q, h => by simp only [combL, Option.some.injEq] at h; subst h; rfl
 | x :: xs, y :: ys, q, h => by
  simp only [combL] at h
  split at h
  ·
   rename_i z hz
   cases hq : combL i k xs ys with
   | none => rw [hq] at h; cases h
   | some r =>
    rw [hq] at h
    simp only [Option.map_some, Option.some.injEq] at h
    subst h
    unfold comb1 at hz
    cases hb : (inI64 (x * i) && inI64 (y * k) && inI64 (x * i + y * k))
    ·
     rw [hb] at hz; cases hz
    ·
     rw [hb] at hz
     cases hz
     rw [List.zipWith_cons_cons, combL_zip hq]
  ·
   cases h
theorem dotL_comb {i k : Int} : ∀ (a x y : List Int), x.length = a.length → y.length = a.length → dotL a (List.zipWith (fun x y => x * i + y * k) x y) = dotL a x * i + dotL a y * k
 | [], x, y, hx, hy => by cases x <;> cases y <;> simp [dotL]
 | u :: a, v :: x, w :: y, hx, hy => by
  have := dotL_comb (i := i) (k := k) a x y (by simpa using hx) (by simpa using hy)
  rw [List.zipWith_cons_cons, dotL, this, dotL, dotL]
  rw [Int.mul_add, Int.add_mul, Int.add_mul, Int.mul_assoc, Int.mul_assoc]
  omega
 | _ :: _, [], _, hx, _ => by simp at hx
 | _ :: _, _ :: _, [], _, hy => by simp at hy
theorem dotL_scale {g : Int} : ∀ (a x : List Int), dotL a (x.map fun z => g * z) = g * dotL a x
 | [], x => by cases x <;> simp [dotL]
 | u :: a, [] => by simp [dotL]
 | u :: a, v :: x => by
  rw [List.map_cons, dotL, dotL_scale a x, dotL, Int.mul_add, Int.mul_left_comm]
theorem dvd_dotL {d : Int} : ∀ (a x : List Int), (∀ z ∈ x, d ∣ z) → d ∣ dotL a x
 | [], x, _ => by cases x <;> exact Int.dvd_zero _
 | u :: a, [], _ => Int.dvd_zero _
 | u :: a, v :: x, h => by
  rw [dotL]
  exact Int.dvd_add (Int.dvd_mul_of_dvd_right (h v (by simp))) (dvd_dotL a x fun z hz => h z (by simp [hz]))
theorem fn_zip {f : Int → Int → Int} (f0 : f 0 0 = 0) {x y : List Int} (h : x.length = y.length) (k : Nat) : fn (List.zipWith f x y) k = f (fn x k) (fn y k) := by
 by_cases hk : k < x.length
 ·
  rw [fn_lt (by simp; omega), fn_lt hk, fn_lt (by omega), List.getElem_zipWith]
 ·
  rw [fn_ge (by simp; omega), fn_ge (by omega), fn_ge (by omega), f0]
theorem fn_map {f : Int → Int} (f0 : f 0 = 0) (x : List Int) (k : Nat) : fn (x.map f) k = f (fn x k) := by
 by_cases hk : k < x.length
 ·
  rw [fn_lt (by simpa using hk), fn_lt hk, List.getElem_map]
 ·
  rw [fn_ge (by simp; omega), fn_ge (by omega), f0]
theorem join_row {A : List (List Int)} {n : Nat} {p q : RowT} (hA : ∀ a ∈ A, a.length = n) (hp : RowA A n p) (hq : RowA A n q) {j : Nat} (hj : j < A.length) (he : (joinS p q (j : Int)).2 = 0)
  (hne : ∃ k, comb n (fn A[j]) (fn (rowX p)) (fn (rowX q)) k ≠ 0) : RowA A n (joinS p q (j : Int)).1 ∧ Prm (fn (rowX (joinS p q (j : Int)).1)) ∧ ∃ g : Int, 0 < g ∧ ∀ k, g * fn (rowX (joinS p q (j : Int)).1) k = comb n (fn A[j]) (fn (rowX p)) (fn (rowX q)) k := by
 have hpj := hp.at hA hj
 have hqj := hq.at hA hj
 have hlen : p.1.length = q.1.length := by rw [hp.len, hq.len]
 unfold joinS at he ⊢
 rw [Int.toNat_natCast] at he ⊢
 cases hy : (decide (q.1.getD j 0 = 0) || decide (q.1.getD j 0 = -9223372036854775808))
 rotate_left
 ·
  rw [hy] at he; cases he
 rw [hy] at he
 simp only [cond_false] at he ⊢
 cases hc : (combS p.1 (-(q.1.getD j 0)) q.1 (p.1.getD j 0)).2 == 0
 ·
  rw [hc] at he
  simp only [cond_false] at he
  rw [he] at hc; cases hc
 rw [hc] at he
 simp only [cond_true] at he ⊢
 cases hr : combL (-(q.1.getD j 0)) (p.1.getD j 0) p.1 q.1 with
 | none =>
  unfold combS at hc
  rw [beq_t hlen, hr] at hc
  cases hc
 | some r =>
  have e1 : (combS p.1 (-(q.1.getD j 0)) q.1 (p.1.getD j 0)).1 = r := by
   unfold combS
   rw [beq_t hlen, hr]
   rfl
  rw [e1] at he ⊢
  have hz := combL_zip hr
  rw [hpj, hqj] at hz
  generalize hi : -(dot n (fn A[j]) (fn (rowX q))) = i at *
  generalize hk : dot n (fn A[j]) (fn (rowX p)) = k at *
  generalize hW : List.zipWith (fun x y => x * i + y * k) (rowX p) (rowX q) = W at *
  have hWl : W.length = n := by rw [← hW, List.length_zipWith, hp.x, hq.x]; omega
  have hres : r = A.map (fun a => dotL a W) ++ W := by
   rw [hz]
   have : List.zipWith (fun x y => x * i + y * k) (A.map (fun a => dotL a (rowX p)) ++ rowX p) (A.map (fun a => dotL a (rowX q)) ++ rowX q) = A.map (fun a => dotL a W) ++ W := by
    rw [List.zipWith_append (by simp), hW]
    congr 1
    rw [List.zipWith_map, List.zipWith_self]
    apply List.map_congr_left
    intro a ha
    rw [← hW, dotL_comb a _ _ (by rw [hp.x, hA a ha]) (by rw [hq.x, hA a ha])]
   rw [← hp.v, ← hq.v] at this
   exact this
  have hcomb : ∀ z, fn W z = comb n (fn A[j]) (fn (rowX p)) (fn (rowX q)) z := fun z => by
   rw [← hW, fn_zip (by simp) (by rw [hp.x, hq.x])]
   unfold comb
   rw [hi, hk, Int.mul_comm, Int.mul_comm (fn (rowX q) z)]
  have hg : (gcdL r : Int) ≠ 0 := fun e => by
   obtain ⟨z, hz0⟩ := hne
   rw [← hcomb z] at hz0
   have h1 := (fn_mem hz0).2
   have : (gcdL r : Int) ∣ fn W z := gcdL_dvd (by rw [hres]; exact List.mem_append_right _ h1)
   rw [e] at this
   exact hz0 (Int.zero_dvd.1 this)
  generalize hgg : (gcdL r : Int) = g at *
  have hdiv : ∀ z ∈ r, g ∣ z := fun z hz => by rw [← hgg]; exact gcdL_dvd hz
  have hmul : ∀ z ∈ r, g * z.tdiv g = z := fun z hz => Int.mul_tdiv_cancel' (hdiv z hz)
  have hprim : (primS r).1 = r.map fun z => z.tdiv g := by
   unfold primS at he ⊢
   cases hb : r.any fun x => x == -9223372036854775808
   ·
    rw [cond_false, hgg]
   ·
    rw [hb] at he; cases he
  rw [hprim]
  have hWs : (W.map fun z => z.tdiv g).map (fun z => g * z) = W := by
   rw [List.map_map]
   have : ∀ z ∈ W, ((fun z => g * z) ∘ fun z => z.tdiv g) z = z := fun z hz => hmul z (by rw [hres]; exact List.mem_append_right _ hz)
   rw [List.map_congr_left this, List.map_id']
  have hdot : ∀ a, (dotL a W).tdiv g = dotL a (W.map fun z => z.tdiv g) := fun a => by
   have h1 := dotL_scale (g := g) a (W.map fun z => z.tdiv g)
   rw [hWs] at h1
   rw [h1, Int.mul_tdiv_cancel_left _ hg]
  obtain ⟨h1, h2⟩ := RowA.of (A := A) (n := n) (r := (r.map fun z => z.tdiv g, p.2)) (x := W.map fun z => z.tdiv g) hp.k (by rw [List.length_map]; exact hWl) (by
   show r.map (fun z => z.tdiv g) = _
   rw [hres, List.map_append, List.map_map]
   congr 1
   apply List.map_congr_left
   intro a _
   exact hdot a)
  have hgpos : 0 < g := by
   have : 0 ≤ g := by rw [← hgg]; omega
   omega
  refine ⟨h1, ?_, g, hgpos, fun z => ?_⟩
  ·
   rw [h2]
   intro d hd
   have hdm : ∀ z ∈ W.map (fun z => z.tdiv g), d ∣ z := fun z hz => by
    obtain ⟨t, ht, rfl⟩ := List.mem_iff_getElem.1 hz
    have := hd t
    rw [fn_lt ht] at this
    exact this
   have hall : ∀ z ∈ r, g * d ∣ z := fun z hz => by
    rw [hres] at hz
    rcases List.mem_append.1 hz with hz | hz
    ·
     obtain ⟨a, _, rfl⟩ := List.mem_map.1 hz
     have e := hmul (dotL a W) (by rw [hres]; exact List.mem_append_left _ (by assumption))
     rw [← e, hdot a]
     exact Int.mul_dvd_mul_left g (dvd_dotL a _ hdm)
    ·
     have e := hmul z (by rw [hres]; exact List.mem_append_right _ hz)
     rw [← e]
     exact Int.mul_dvd_mul_left g (hdm _ (List.mem_map.2 ⟨z, hz, rfl⟩))
   have := dvd_gcdL hall
   rw [hgg] at this
   obtain ⟨c, hc⟩ := this
   refine ⟨c, ?_⟩
   have : g * 1 = g * (d * c) := by rw [Int.mul_one, ← Int.mul_assoc]; exact hc
   exact Int.eq_of_mul_eq_mul_left hg this
  ·
   rw [h2, ← hcomb z, ← congrArg (fun l => fn l z) hWs]
   exact (fn_map (f := fun z => g * z) (Int.mul_zero _) _ z).symm
theorem pairS_mem {j : Int} {p : RowT} : ∀ (l acc : List RowT), (pairS j p acc l).2 = 0 → (∀ r, r ∈ (pairS j p acc l).1 ↔ r ∈ acc ∨ ∃ q ∈ l, q.1.getD j.toNat 0 < 0 ∧ r = (joinS p q j).1) ∧ ∀ q ∈ l, q.1.getD j.toNat 0 < 0 → (joinS p q j).2 = 0
 | [], acc, _ => ⟨fun r => by simp [pairS], fun q hq => by cases hq⟩
 | q :: l, acc, he => by
  rw [pairS] at he ⊢
  by_cases hn : q.1.getD j.toNat 0 < 0
  ·
   rw [decide_eq_true hn] at he ⊢
   simp only [cond_true] at he ⊢
   cases hj : (joinS p q j).2 == 0
   ·
    rw [hj] at he
    simp only [cond_false] at he
    rw [he] at hj; cases hj
   ·
    rw [hj] at he
    simp only [cond_true] at he ⊢
    by_cases hb : 2000 < acc.length + 1
    ·
     rw [decide_eq_true hb] at he; cases he
    ·
     rw [decide_eq_false hb] at he ⊢
     simp only [cond_false] at he ⊢
     obtain ⟨h1, h2⟩ := pairS_mem l _ he
     refine ⟨fun r => ?_, fun u hu hun => ?_⟩
     ·
      rw [h1 r]
      simp only [List.mem_append, List.mem_cons, List.not_mem_nil, or_false]
      constructor
      ·
       rintro ((h | h) | ⟨u, hu, h⟩)
       ·
        exact .inl h
       ·
        exact .inr ⟨q, .inl rfl, hn, h⟩
       ·
        exact .inr ⟨u, .inr hu, h⟩
      ·
       rintro (h | ⟨u, rfl | hu, h⟩)
       ·
        exact .inl (.inl h)
       ·
        exact .inl (.inr h.2)
       ·
        exact .inr ⟨u, hu, h⟩
     ·
      rcases List.mem_cons.1 hu with rfl | hu
      ·
       exact beq0.1 hj
      ·
       exact h2 u hu hun
  ·
   rw [decide_eq_false hn] at he ⊢
   obtain ⟨h1, h2⟩ := pairS_mem l _ he
   refine ⟨fun r => ?_, fun u hu hun => ?_⟩
   ·
    show r ∈ (pairS j p acc l).1 ↔ _
    rw [h1 r]
    constructor
    ·
     rintro (h | ⟨u, hu, h⟩)
     ·
      exact .inl h
     ·
      exact .inr ⟨u, List.mem_cons_of_mem _ hu, h⟩
    ·
     rintro (h | ⟨u, hu, h⟩)
     ·
      exact .inl h
     ·
      rcases List.mem_cons.1 hu with rfl | hu
      ·
       exact absurd h.1 hn
      ·
       exact .inr ⟨u, hu, h⟩
   ·
    rcases List.mem_cons.1 hu with rfl | hu
    ·
     exact absurd hun hn
    ·
     exact h2 u hu hun
theorem pairsS_mem {j : Int} {all : List RowT} : ∀ (l acc : List RowT), (pairsS j all acc l).2 = 0 → (∀ r, r ∈ (pairsS j all acc l).1 ↔ r ∈ acc ∨ ∃ p ∈ l, 0 < p.1.getD j.toNat 0 ∧ ∃ q ∈ all, q.1.getD j.toNat 0 < 0 ∧ r = (joinS p q j).1) ∧ ∀ p ∈ l, 0 < p.1.getD j.toNat 0 → ∀ q ∈ all, q.1.getD j.toNat 0 < 0 → (joinS p q j).2 = 0
 | [], acc, _ => ⟨fun r => by simp [pairsS], fun q hq => by cases hq⟩
 | p :: l, acc, he => by
  rw [pairsS] at he ⊢
  by_cases hn : 0 < p.1.getD j.toNat 0
  ·
   rw [decide_eq_true hn] at he ⊢
   simp only [cond_true] at he ⊢
   cases hj : (pairS j p acc all).2 == 0
   ·
    rw [hj] at he
    simp only [cond_false] at he
    rw [he] at hj; cases hj
   ·
    rw [hj] at he
    simp only [cond_true] at he ⊢
    obtain ⟨g1, g2⟩ := pairS_mem (j := j) (p := p) all acc (beq0.1 hj)
    obtain ⟨h1, h2⟩ := pairsS_mem l _ he
    refine ⟨fun r => ?_, fun u hu hun => ?_⟩
    ·
     rw [h1 r, g1 r]
     constructor
     ·
      rintro ((h | h) | ⟨u, hu, h⟩)
      ·
       exact .inl h
      ·
       exact .inr ⟨p, by simp, hn, h⟩
      ·
       exact .inr ⟨u, List.mem_cons_of_mem _ hu, h⟩
     ·
      rintro (h | ⟨u, hu, h⟩)
      ·
       exact .inl (.inl h)
      ·
       rcases List.mem_cons.1 hu with rfl | hu
       ·
        exact .inl (.inr h.2)
       ·
        exact .inr ⟨u, hu, h⟩
    ·
     rcases List.mem_cons.1 hu with rfl | hu
     ·
      exact g2
     ·
      exact h2 u hu hun
  ·
   rw [decide_eq_false hn] at he ⊢
   obtain ⟨h1, h2⟩ := pairsS_mem l _ he
   refine ⟨fun r => ?_, fun u hu hun => ?_⟩
   ·
    show r ∈ (pairsS j all acc l).1 ↔ _
    rw [h1 r]
    constructor
    ·
     rintro (h | ⟨u, hu, h⟩)
     ·
      exact .inl h
     ·
      exact .inr ⟨u, List.mem_cons_of_mem _ hu, h⟩
    ·
     rintro (h | ⟨u, hu, h⟩)
     ·
      exact .inl h
     ·
      rcases List.mem_cons.1 hu with rfl | hu
      ·
       exact absurd h.1 hn
      ·
       exact .inr ⟨u, hu, h⟩
   ·
    rcases List.mem_cons.1 hu with rfl | hu
    ·
     exact absurd hun hn
    ·
     exact h2 u hu hun
structure Tab (A : List (List Int)) (n j : Nat) (l : List RowT) : Prop where
 row : ∀ r ∈ l, RowA A n r
 inv : Inv n ((A.take j).map fn) (fun z => ∃ r ∈ l, z = fn (rowX r))
theorem Inv.congr {n : Nat} {E F : List Vc} {R : Vc → Prop} (h : ∀ a, a ∈ E ↔ a ∈ F) (i : Inv n E R) : Inv n F R :=
 ⟨fun r hr => ⟨(i.mnl r hr).1.congr h, (i.mnl r hr).2⟩, fun m hm => i.all m (hm.congr fun a => (h a).symm)⟩
theorem Sol.scale {n : Nat} {E : List Vc} {w z : Vc} {g : Int} (hg : 0 < g) (h : ∀ k, g * z k = w k) (hw : Sol n E w) : Sol n E z := by
 refine ⟨fun k => ?_, fun k hk => ?_, ?_, fun a ha => ?_⟩
 ·
  have := hw.pos k
  rw [← h k] at this
  exact Int.nonneg_of_mul_nonneg_right this hg
 ·
  have := hw.out k hk
  rw [← h k] at this
  rcases Int.mul_eq_zero.1 this with e | e
  ·
   omega
  ·
   exact e
 ·
  obtain ⟨k, hk⟩ := hw.ne
  exact ⟨k, fun e => hk (by rw [← h k, e, Int.mul_zero])⟩
 ·
  have h1 := dot_comb n a z z g 0
  rw [show (fun k => g * z k + 0 * z k) = w from funext fun k => by rw [Int.zero_mul, Int.add_zero]; exact h k, hw.eq a ha, Int.zero_mul, Int.add_zero] at h1
  rcases Int.mul_eq_zero.1 h1.symm with e | e
  ·
   omega
  ·
   exact e
theorem Tab.step {A : List (List Int)} {n j : Nat} {l : List RowT} (hA : ∀ a ∈ A, a.length = n) (hn : n ≤ 64) (t : Tab A n j l) (hj : j < A.length) (he : (stepS l (j : Int)).2 = 0) : Tab A n (j + 1) (stepS l (j : Int)).1 ∧ (stepS l (j : Int)).1.Pairwise fun r s => ¬ Sub (fn (rowX r)) (fn (rowX s)) ∧ ¬ Sub (fn (rowX s)) (fn (rowX r)) := by
 unfold stepS at he ⊢
 cases hp : (pairsS (j : Int) l (zeroS (j : Int) l) l).2 == 0
 ·
  simp only [hp, cond_false] at he
  rw [he] at hp; cases hp
 simp only [cond_true]
 obtain ⟨hm, herr⟩ := pairsS_mem (j := (j : Int)) (all := l) l (zeroS (j : Int) l) (beq0.1 hp)
 rw [Int.toNat_natCast] at hm herr
 generalize (pairsS (j : Int) l (zeroS (j : Int) l) l).1 = C at *
 have hz : ∀ r, r ∈ zeroS (j : Int) l ↔ r ∈ l ∧ dot n (fn A[j]) (fn (rowX r)) = 0 := fun r => by
  unfold zeroS
  rw [List.mem_filter, Int.toNat_natCast, beq_iff_eq]
  exact ⟨fun ⟨a, b⟩ => ⟨a, by rw [← (t.row r a).at hA hj]; exact b⟩, fun ⟨a, b⟩ => ⟨a, by rw [(t.row r a).at hA hj]; exact b⟩⟩
 have mk : ∀ p ∈ l, 0 < p.1.getD j 0 → ∀ q ∈ l, q.1.getD j 0 < 0 → RowA A n (joinS p q (j : Int)).1 ∧ Prm (fn (rowX (joinS p q (j : Int)).1)) ∧ (∃ g : Int, 0 < g ∧ ∀ k, g * fn (rowX (joinS p q (j : Int)).1) k = comb n (fn A[j]) (fn (rowX p)) (fn (rowX q)) k) ∧ Sol n (fn A[j] :: (A.take j).map fn) (comb n (fn A[j]) (fn (rowX p)) (fn (rowX q))) := fun p hpl hp0 q hql hq0 => by
  have c := comb_sol (t.inv.mnl _ ⟨p, hpl, rfl⟩).1.sol (t.inv.mnl _ ⟨q, hql, rfl⟩).1.sol (a := fn A[j]) (by rw [← (t.row p hpl).at hA hj]; exact hp0) (by rw [← (t.row q hql).at hA hj]; exact hq0)
  obtain ⟨x1, x2, x3⟩ := join_row hA (t.row p hpl) (t.row q hql) hj (herr p hpl hp0 q hql hq0) c.ne
  exact ⟨x1, x2, x3, c⟩
 have hrow : ∀ r ∈ C, RowA A n r := fun r hr => by
  rcases (hm r).1 hr with h | ⟨p, hpl, hp0, q, hql, hq0, rfl⟩
  ·
   exact t.row r ((hz r).1 h).1
  ·
   exact (mk p hpl hp0 q hql hq0).1
 have hcand : Cand n ((A.take j).map fn) (fn A[j]) (fun z => ∃ r ∈ l, z = fn (rowX r)) (fun z => ∃ r ∈ C, z = fn (rowX r)) := by
  refine ⟨fun z => ?_, fun z => ?_, fun u v => ?_⟩
  ·
   rintro ⟨r, hr, rfl⟩
   rcases (hm r).1 hr with h | ⟨p, hpl, hp0, q, hql, hq0, rfl⟩
   ·
    obtain ⟨h1, h2⟩ := (hz r).1 h
    have := t.inv.mnl _ ⟨r, h1, rfl⟩
    exact ⟨⟨this.1.sol.pos, this.1.sol.out, this.1.sol.ne, fun a ha => by
     rcases List.mem_cons.1 ha with rfl | ha
     ·
      exact h2
     ·
      exact this.1.sol.eq a ha⟩, this.2⟩
   ·
    obtain ⟨_, x2, ⟨g, hg, hgk⟩, x4⟩ := mk p hpl hp0 q hql hq0
    exact ⟨x4.scale hg hgk, x2⟩
  ·
   rintro ⟨r, hr, rfl⟩ h0
   exact ⟨r, (hm r).2 (.inl ((hz r).2 ⟨hr, h0⟩)), rfl⟩
  ·
   rintro ⟨p, hpl, rfl⟩ ⟨q, hql, rfl⟩ h1 h2
   have hp0 : 0 < p.1.getD j 0 := by rw [(t.row p hpl).at hA hj]; exact h1
   have hq0 : q.1.getD j 0 < 0 := by rw [(t.row q hql).at hA hj]; exact h2
   obtain ⟨_, _, ⟨g, hg, hgk⟩, _⟩ := mk p hpl hp0 q hql hq0
   refine ⟨_, ⟨_, (hm _).2 (.inr ⟨p, hpl, hp0, q, hql, hq0, rfl⟩), rfl⟩, fun k hk hz => ?_⟩
   rw [← hgk k] at hz
   rcases Int.mul_eq_zero.1 hz with e | e
   ·
    omega
   ·
    exact hk e
 have hC64 : ∀ r ∈ C, (rowX r).length ≤ 64 := fun r hr => by rw [(hrow r hr).x]; exact hn
 refine ⟨⟨fun r hr => hrow r (minG_mem hr), (t.inv.step hcand (min_filt hC64)).congr fun a => ?_⟩, min_pw hC64⟩
 rw [List.take_succ_eq_append_getElem hj, List.map_append]
 simp only [List.mem_cons, List.mem_append, List.map_cons, List.map_nil, List.not_mem_nil, or_false]
 exact Or.comm
theorem fn_unit {n c : Nat} (hc : c < n) : fn (unitL n c) = fun k => if k = c then 1 else 0 := by
 funext k
 by_cases hk : k < n
 ·
  rw [fn_lt (by simpa [unitL] using hk)]
  simp only [unitL, List.getElem_map, List.getElem_range]
  by_cases e : k = c
  ·
   rw [if_pos e, beq_t e]; rfl
  ·
   rw [if_neg e, beq_f e]; rfl
 ·
  rw [fn_ge (by simp [unitL]; omega), if_neg (by omega)]
theorem Tab.start {A : List (List Int)} {n : Nat} (hA : ∀ a ∈ A, a.length = n) (hn : (A.headD []).length = n) : Tab A n 0 (startS A) := by
 have hrow : ∀ c, c < n → RowA A n (A.map (fun r => r.getD c 0) ++ unitL n c, (A.length : Int)) ∧ rowX (A.map (fun r => r.getD c 0) ++ unitL n c, (A.length : Int)) = unitL n c := fun c hc => by
  refine RowA.of rfl (by simp [unitL]) ?_
  show A.map _ ++ _ = _
  congr 1
  apply List.map_congr_left
  intro a ha
  rw [dotL_dot a _ n (hA a ha) (by simp [unitL]), fn_unit hc]
  unfold dot
  rw [sm_one n _ c hc fun k _ hne => by show fn a k * (if k = c then 1 else 0) = 0; rw [if_neg hne, Int.mul_zero]]
  show a.getD c 0 = fn a c * (if c = c then 1 else 0)
  rw [if_pos rfl, Int.mul_one]
  rfl
 have hst : startS A = (List.range n).map fun c => (A.map (fun r => r.getD c 0) ++ unitL n c, (A.length : Int)) := by unfold startS; rw [hn]
 rw [hst]
 refine ⟨fun r hr => ?_, Inv.start (fun z => ?_) fun i hi => ?_⟩
 ·
  obtain ⟨c, hc, rfl⟩ := List.mem_map.1 hr
  exact (hrow c (List.mem_range.1 hc)).1
 ·
  rintro ⟨r, hr, rfl⟩
  obtain ⟨c, hc, rfl⟩ := List.mem_map.1 hr
  have hc := List.mem_range.1 hc
  exact ⟨c, hc, by rw [(hrow c hc).2, fn_unit hc]⟩
 ·
  exact ⟨_, List.mem_map.2 ⟨i, List.mem_range.2 hi, rfl⟩, by rw [(hrow i hi).2, fn_unit hi]⟩
theorem Tab.solve {A : List (List Int)} {n : Nat} (hA : ∀ a ∈ A, a.length = n) (hn : n ≤ 64) : ∀ (d j : Nat) (l : List RowT), Tab A n j l → j + d ≤ A.length → (solveG l (j : Int) d).2 = 0 → Tab A n (j + d) (solveG l (j : Int) d).1 ∧ (0 < d → (solveG l (j : Int) d).1.Pairwise fun r s => ¬ Sub (fn (rowX r)) (fn (rowX s)) ∧ ¬ Sub (fn (rowX s)) (fn (rowX r)))
 | 0, j, l, t, _, _ => ⟨t, fun h => by omega⟩
 | d + 1, j, l, t, hd, he => by
  rw [solveG] at he ⊢
  cases hc : (stepS l (j : Int)).2 == 0
  ·
   simp only [hc, cond_false] at he
   rw [he] at hc; cases hc
  ·
   rw [hc] at he
   simp only [cond_true] at he ⊢
   obtain ⟨t1, t2⟩ := t.step hA hn (by omega) (beq0.1 hc)
   rw [← succ_cast] at he ⊢
   obtain ⟨t3, t4⟩ := Tab.solve hA hn d (j + 1) _ t1 (by omega) he
   rw [show j + (d + 1) = j + 1 + d by omega]
   refine ⟨t3, fun _ => ?_⟩
   cases d with
   | zero => exact t2
   | succ d => exact t4 (by omega)
theorem cmpL_trans : ∀ {a b c : List Int}, 0 < cmpL a b → 0 < cmpL b c → 0 < cmpL a c
 | [], [], _, h, _ => by simp [cmpL] at h
 | [], _ :: _, _, h, _ => by simp [cmpL] at h
 | _ :: _, _, [], _, _ => by simp [cmpL]
 | _ :: _, [], _ :: _, _, h => by simp [cmpL] at h
 | x :: a, y :: b, z :: c, h1, h2 => by
  rw [cmpL] at h1 h2 ⊢
  by_cases xy : x < y
  ·
   rw [decide_eq_true xy] at h1; simp at h1
  rw [decide_eq_false xy] at h1
  by_cases yz : y < z
  ·
   rw [decide_eq_true yz] at h2; simp at h2
  rw [decide_eq_false yz] at h2
  simp only [cond_false] at h1 h2
  rw [decide_eq_false (show ¬ x < z by omega)]
  by_cases yx : y < x
  ·
   rw [decide_eq_true (show z < x by omega)]; exact Int.one_pos
  rw [decide_eq_false yx] at h1
  by_cases zy : z < y
  ·
   rw [decide_eq_true (show z < x by omega)]; exact Int.one_pos
  rw [decide_eq_false zy] at h2
  rw [decide_eq_false (show ¬ z < x by omega)]
  exact cmpL_trans h1 h2
theorem cmpL_total : ∀ {a b : List Int}, a ≠ b → 0 < cmpL a b ∨ 0 < cmpL b a
 | [], [], h => absurd rfl h
 | [], _ :: _, _ => .inr (by simp [cmpL])
 | _ :: _, [], _ => .inl (by simp [cmpL])
 | x :: a, y :: b, h => by
  rw [cmpL, cmpL]
  by_cases xy : x < y
  ·
   exact .inr (by rw [decide_eq_false (show ¬ y < x by omega), decide_eq_true xy]; exact Int.one_pos)
  ·
   by_cases yx : y < x
   ·
    exact .inl (by rw [decide_eq_false xy, decide_eq_true yx]; exact Int.one_pos)
   ·
    rw [decide_eq_false xy, decide_eq_false yx]
    have : x = y := by omega
    subst this
    exact cmpL_total fun e => h (by rw [e])
theorem insD_mem {x y : List Int} : ∀ {l : List (List Int)}, y ∈ insD x l ↔ y = x ∨ y ∈ l
 | [] => by simp [insD]
 | z :: l => by
  rw [insD]
  cases decide (0 < cmpL z x)
  ·
   simp
  ·
   simp only [cond_true, List.mem_cons, insD_mem (l := l)]
   exact ⟨fun h => by rcases h with h | h | h <;> simp [h], fun h => by rcases h with h | h | h <;> simp [h]⟩
theorem insD_pw {R : List Int → List Int → Prop} (hs : ∀ a b, R a b → R b a) {x : List Int} : ∀ {l : List (List Int)}, l.Pairwise R → (∀ y ∈ l, R x y) → (insD x l).Pairwise R
 | [], _, _ => List.pairwise_singleton _ _
 | z :: l, h, hx => by
  rw [insD]
  obtain ⟨h1, h2⟩ := List.pairwise_cons.1 h
  cases decide (0 < cmpL z x)
  ·
   exact List.pairwise_cons.2 ⟨hx, h⟩
  ·
   refine List.pairwise_cons.2 ⟨fun y hy => ?_, insD_pw hs h2 fun y hy => hx y (by simp [hy])⟩
   rcases insD_mem.1 hy with rfl | hy
   ·
    exact hs _ _ (hx z (by simp))
   ·
    exact h1 y hy
theorem insD_desc {x : List Int} : ∀ {l : List (List Int)}, l.Pairwise (fun a b => 0 < cmpL a b) → (∀ y ∈ l, y ≠ x) → (insD x l).Pairwise (fun a b => 0 < cmpL a b)
 | [], _, _ => List.pairwise_singleton _ _
 | z :: l, h, hx => by
  rw [insD]
  obtain ⟨h1, h2⟩ := List.pairwise_cons.1 h
  by_cases hc : 0 < cmpL z x
  ·
   rw [decide_eq_true hc]
   refine List.pairwise_cons.2 ⟨fun y hy => ?_, insD_desc h2 fun y hy => hx y (by simp [hy])⟩
   rcases insD_mem.1 hy with rfl | hy
   ·
    exact hc
   ·
    exact h1 y hy
  ·
   rw [decide_eq_false hc]
   have hxz : 0 < cmpL x z := (cmpL_total (hx z (by simp))).resolve_left hc
   refine List.pairwise_cons.2 ⟨fun y hy => ?_, h⟩
   rcases List.mem_cons.1 hy with rfl | hy
   ·
    exact hxz
   ·
    exact cmpL_trans hxz (h1 y hy)
theorem sortedG_mem {y : List Int} : ∀ {l : List RowT} {acc : List (List Int)}, y ∈ sortedG acc l ↔ y ∈ acc ∨ ∃ r ∈ l, y = rowX r
 | [], acc => by simp [sortedG]
 | x :: l, acc => by
  rw [sortedG, sortedG_mem (l := l), insD_mem]
  simp only [List.mem_cons]
  constructor
  ·
   rintro ((h | h) | ⟨r, hr, h⟩)
   ·
    exact .inr ⟨x, .inl rfl, h⟩
   ·
    exact .inl h
   ·
    exact .inr ⟨r, .inr hr, h⟩
  ·
   rintro (h | ⟨r, rfl | hr, h⟩)
   ·
    exact .inl (.inr h)
   ·
    exact .inl (.inl h)
   ·
    exact .inr ⟨r, hr, h⟩
theorem sortedG_pw {R : List Int → List Int → Prop} (hs : ∀ a b, R a b → R b a) (hne : ∀ a b, R a b → a ≠ b) : ∀ {l : List RowT} {acc : List (List Int)}, acc.Pairwise R → acc.Pairwise (fun a b => 0 < cmpL a b) → (∀ y ∈ acc, ∀ r ∈ l, R y (rowX r)) → l.Pairwise (fun r s => R (rowX r) (rowX s)) → (sortedG acc l).Pairwise R ∧ (sortedG acc l).Pairwise (fun a b => 0 < cmpL a b)
 | [], acc, h1, h2, _, _ => ⟨h1, h2⟩
 | x :: l, acc, h1, h2, h3, h4 => by
  obtain ⟨h5, h6⟩ := List.pairwise_cons.1 h4
  rw [sortedG]
  refine sortedG_pw hs hne (insD_pw hs h1 fun y hy => hs _ _ (h3 y hy x (by simp))) (insD_desc h2 fun y hy => hne _ _ (h3 y hy x (by simp))) (fun y hy r hr => ?_) h6
  rcases insD_mem.1 hy with rfl | hy
  ·
   exact h5 r hr
  ·
   exact h3 y hy r (by simp [hr])
structure Flows (A : List (List Int)) (n : Nat) (L : List (List Int)) : Prop where
 mem : ∀ x ∈ L, x.length = n ∧ Mnl n (A.map fn) (fn x) ∧ Prm (fn x)
 all : ∀ m, Mnl n (A.map fn) m → ∃ x ∈ L, Sub (fn x) m
 apart : L.Pairwise fun x y => ¬ Sub (fn x) (fn y) ∧ ¬ Sub (fn y) (fn x)
 desc : L.Pairwise fun x y => 0 < cmpL x y
theorem solve_flows {A : List (List Int)} (hv : validM A = true) (he : (solveS A).2 = 0) : Flows A (A.headD []).length (solveS A).1 := by
 obtain ⟨⟨h1, h2⟩, h3, h4, h5⟩ := validM_iff.1 hv
 unfold solveS at he ⊢
 rw [hv] at he ⊢
 simp only [cond_true] at he ⊢
 cases hc : (solveG (startS A) 0 A.length).2 == 0
 ·
  simp only [hc, cond_false] at he
  rw [he] at hc; cases hc
 obtain ⟨t, tp⟩ := Tab.solve h3 h5 A.length 0 (startS A) (Tab.start h3 rfl) (by omega) (beq0.1 hc)
 have tp := tp (by omega)
 rw [show ((0 : Nat) : Int) = 0 from rfl, Nat.zero_add] at t
 rw [show ((0 : Nat) : Int) = 0 from rfl] at tp
 simp only [cond_true]
 generalize (solveG (startS A) 0 A.length).1 = l at *
 have ti := t.inv
 rw [List.take_length] at ti
 obtain ⟨p1, p2⟩ := sortedG_pw (R := fun x y => ¬ Sub (fn x) (fn y) ∧ ¬ Sub (fn y) (fn x)) (fun a b h => ⟨h.2, h.1⟩) (fun a b h e => h.1 (by rw [e]; exact fun k hk => hk)) (l := l) (acc := []) List.Pairwise.nil List.Pairwise.nil (fun y hy => by cases hy) tp
 refine ⟨fun x hx => ?_, fun m hm => ?_, p1, p2⟩
 ·
  rcases sortedG_mem.1 hx with h | ⟨r, hr, rfl⟩
  ·
   cases h
  ·
   exact ⟨(t.row r hr).x, (ti.mnl _ ⟨r, hr, rfl⟩).1, (ti.mnl _ ⟨r, hr, rfl⟩).2⟩
 ·
  obtain ⟨z, ⟨r, hr, rfl⟩, hs⟩ := ti.all m hm
  exact ⟨rowX r, sortedG_mem.2 (.inr ⟨r, hr, rfl⟩), hs⟩
end Fk
end Go.VI
namespace Go.VI
open Go Go.Proofs
namespace Fk
def Code (e : Int) : Prop := e = 0 ∨ e = 3 ∨ e = 14
theorem sm_bound {B : Nat} : ∀ (n : Nat) (g : Nat → Int), (∀ k, k < n → (g k).natAbs ≤ B) → (sm n g).natAbs ≤ n * B
 | 0, g, _ => by simp [sm]
 | n + 1, g, h => by
  have h0 := h 0 (by omega)
  have := sm_bound n (fun k => g (k + 1)) fun k hk => h (k + 1) (by omega)
  rw [sm, Nat.succ_mul]
  omega
theorem combL_some {i k : Int} {B : Nat} (hi : i.natAbs ≤ B) (hk : k.natAbs ≤ B) (hB : B * B ≤ 1000000000000000) : ∀ (xs ys : List Int), (∀ x ∈ xs, x.natAbs ≤ B) → (∀ x ∈ ys, x.natAbs ≤ B) → ∃ q, combL i k xs ys = some q ∧ ∀ z ∈ q, z.natAbs ≤ 2000000000000000
 | [], ys, _, _ => ⟨[], by cases ys <;> rfl, fun z hz => by cases hz⟩
 | x :: xs, [], _, _ => ⟨[], rfl, fun z hz => by cases hz⟩
 | x :: xs, y :: ys, hx, hy => by
  obtain ⟨q, h1, h2⟩ := combL_some hi hk hB xs ys (fun z hz => hx z (by simp [hz])) (fun z hz => hy z (by simp [hz]))
  have a1 : (x * i).natAbs ≤ 1000000000000000 := by
   rw [Int.natAbs_mul]
   exact Nat.le_trans (Nat.mul_le_mul (hx x (by simp)) hi) hB
  have a2 : (y * k).natAbs ≤ 1000000000000000 := by
   rw [Int.natAbs_mul]
   exact Nat.le_trans (Nat.mul_le_mul (hy y (by simp)) hk) hB
  have e : comb1 i k x y = some (x * i + y * k) := by
   unfold comb1
   rw [inI64_iff.2 (by omega), inI64_iff.2 (by omega), inI64_iff.2 (by omega)]
   rfl
  refine ⟨(x * i + y * k) :: q, ?_, fun z hz => ?_⟩
  ·
   rw [combL, e, h1]; rfl
  ·
   rcases List.mem_cons.1 hz with rfl | hz
   ·
    omega
   ·
    exact h2 z hz
theorem join_ok {p q : RowT} {j : Nat} {B : Nat} (hB : B * B ≤ 1000000000000000) (hB2 : B ≤ 1000000000000000) (hp : ∀ z ∈ p.1, z.natAbs ≤ B) (hq : ∀ z ∈ q.1, z.natAbs ≤ B) (hl : p.1.length = q.1.length) (hj : j < p.1.length) (hn : q.1.getD j 0 < 0) : (joinS p q (j : Int)).2 = 0 := by
 have b1 : (q.1.getD j 0).natAbs ≤ B := by rw [getD_n (by omega)]; exact hq _ (List.getElem_mem (by omega))
 have b2 : (p.1.getD j 0).natAbs ≤ B := by rw [getD_n hj]; exact hp _ (List.getElem_mem hj)
 obtain ⟨r, h1, h2⟩ := combL_some (i := -(q.1.getD j 0)) (k := p.1.getD j 0) (by omega) b2 hB p.1 q.1 hp hq
 have e1 : combS p.1 (-(q.1.getD j 0)) q.1 (p.1.getD j 0) = (r, 0) := by
  unfold combS
  rw [beq_t hl, h1]
  rfl
 unfold joinS
 rw [Int.toNat_natCast, e1, decide_eq_false (by omega), decide_eq_false (by omega)]
 show (primS r).2 = 0
 unfold primS
 have : (r.any fun x => x == -9223372036854775808) = false := by
  rw [List.any_eq_false]
  intro z hz
  have := h2 z hz
  simp
  omega
 rw [this]
 rfl
theorem pairS_count {j : Int} {p : RowT} : ∀ (l acc : List RowT), (∀ q ∈ l, q.1.getD j.toNat 0 < 0 → (joinS p q j).2 = 0) → acc.length + (l.filter fun q => decide (q.1.getD j.toNat 0 < 0)).length ≤ 2000 → (pairS j p acc l).2 = 0 ∧ (pairS j p acc l).1.length = acc.length + (l.filter fun q => decide (q.1.getD j.toNat 0 < 0)).length
 | [], acc, _, _ => ⟨rfl, by simp [pairS]⟩
 | q :: l, acc, h, hl => by
  have ih := fun acc => pairS_count (j := j) (p := p) l acc fun u hu => h u (by simp [hu])
  rw [pairS]
  rw [List.filter_cons] at hl ⊢
  cases hd : decide (q.1.getD j.toNat 0 < 0)
  ·
   rw [hd] at hl
   exact ih acc hl
  ·
   rw [hd] at hl
   simp only [if_true, List.length_cons] at hl ⊢
   rw [h q (by simp) (of_decide_eq_true hd), decide_eq_false (show ¬ 2000 < acc.length + 1 by omega)]
   obtain ⟨i1, i2⟩ := ih (acc ++ [(joinS p q j).1]) (by rw [List.length_append, List.length_singleton]; omega)
   exact ⟨i1, i2.trans (by rw [List.length_append, List.length_singleton]; omega)⟩
theorem pairsS_count {j : Int} {all : List RowT} : ∀ (l acc : List RowT), (∀ p ∈ l, 0 < p.1.getD j.toNat 0 → ∀ q ∈ all, q.1.getD j.toNat 0 < 0 → (joinS p q j).2 = 0) → acc.length + (l.filter fun p => decide (0 < p.1.getD j.toNat 0)).length * (all.filter fun q => decide (q.1.getD j.toNat 0 < 0)).length ≤ 2000 → (pairsS j all acc l).2 = 0
 | [], acc, _, _ => rfl
 | p :: l, acc, h, hl => by
  have ih := fun acc => pairsS_count (j := j) (all := all) l acc fun u hu => h u (by simp [hu])
  rw [pairsS]
  rw [List.filter_cons] at hl
  cases hd : decide (0 < p.1.getD j.toNat 0)
  ·
   rw [hd] at hl
   exact ih acc hl
  ·
   rw [hd] at hl
   simp only [if_true, List.length_cons, Nat.succ_mul] at hl
   obtain ⟨c1, c2⟩ := pairS_count (j := j) (p := p) all acc (h p (by simp) (of_decide_eq_true hd)) (by omega)
   rw [c1]
   exact ih _ (by rw [c2]; omega)
theorem three (j : Nat) : ∀ l : List RowT, (l.filter fun r => r.1.getD j 0 == 0).length + (l.filter fun r => decide (0 < r.1.getD j 0)).length + (l.filter fun r => decide (r.1.getD j 0 < 0)).length = l.length
 | [] => rfl
 | x :: l => by
  have := three j l
  rw [List.filter_cons, List.filter_cons, List.filter_cons]
  generalize x.1.getD j 0 = c
  by_cases h1 : c = 0
  ·
   rw [if_pos (by simpa using h1), if_neg (by simp; omega), if_neg (by simp; omega)]
   simp only [List.length_cons]; omega
  ·
   by_cases h2 : 0 < c
   ·
    rw [if_neg (by simpa using h1), if_pos (by simpa using h2), if_neg (by simp; omega)]
    simp only [List.length_cons]; omega
   ·
    rw [if_neg (by simpa using h1), if_neg (by simpa using h2), if_pos (by simp; omega)]
    simp only [List.length_cons]; omega
theorem prod64 : ∀ p : Fin 65, p.val * (64 - p.val) ≤ 1024 := by decide
theorem Tab.small {A : List (List Int)} {n : Nat} (hA : ∀ a ∈ A, a.length = n) (hn : n ≤ 6) (h3 : ∀ a ∈ A, ∀ x ∈ a, x.natAbs ≤ 3) : ∀ (d j : Nat) (l : List RowT), Tab A n j l → (l.map fun r => suppN (rowX r)).Nodup → j + d ≤ A.length → (solveG l (j : Int) d).2 = 0
 | 0, j, l, _, _, _ => rfl
 | d + 1, j, l, t, hnd, hd => by
  have hj : j < A.length := by omega
  have hfn : ∀ a ∈ A.map fn, ∀ k, (a k).natAbs ≤ 3 := fun a ha k => by
   obtain ⟨u, hu, rfl⟩ := List.mem_map.1 ha
   by_cases hk : fn u k = 0
   ·
    rw [hk]; decide
   ·
    exact h3 u hu _ (fn_mem hk).2
  have hx : ∀ r ∈ l, ∀ k, (fn (rowX r) k).natAbs ≤ 524880 := fun r hr k => by
   obtain ⟨m1, m2⟩ := t.inv.mnl _ ⟨r, hr, rfl⟩
   have h1 := m1.bound m2 (fun a ha k => hfn a (by
    obtain ⟨u, hu, rfl⟩ := List.mem_map.1 ha
    exact List.mem_map.2 ⟨u, List.mem_of_mem_take hu, rfl⟩) k) k
   have h2 := hb_mono hn
   have h6 : hb 6 = 524880 := by decide
   omega
  have hv : ∀ r ∈ l, ∀ z ∈ r.1, z.natAbs ≤ 9447840 := fun r hr z hz => by
   have hrow := t.row r hr
   rw [hrow.v] at hz
   rcases List.mem_append.1 hz with hz | hz
   ·
    obtain ⟨a, ha, rfl⟩ := List.mem_map.1 hz
    rw [dotL_dot a _ n (hA a ha) hrow.x]
    have := sm_bound (B := 3 * 524880) n (fun k => fn a k * fn (rowX r) k) fun k _ => by
     rw [Int.natAbs_mul]
     exact Nat.mul_le_mul (hfn _ (List.mem_map.2 ⟨a, ha, rfl⟩) k) (hx r hr k)
    have h6 : n * (3 * 524880) ≤ 6 * (3 * 524880) := Nat.mul_le_mul_right _ hn
    unfold dot
    omega
   ·
    obtain ⟨k, hk, rfl⟩ := List.mem_iff_getElem.1 hz
    have := hx r hr k
    rw [fn_lt hk] at this
    omega
  have hlen : l.length ≤ 64 := by
   have := nodup_le (2 ^ n) (l.map fun r => suppN (rowX r)) hnd fun c hc => by
    obtain ⟨r, hr, rfl⟩ := List.mem_map.1 hc
    have := suppN_lt (rowX r)
    rwa [(t.row r hr).x] at this
   have h2 : (2 : Nat) ^ n ≤ 2 ^ 6 := Nat.pow_le_pow_right (by decide) hn
   rw [List.length_map] at this
   omega
  have hstep : (stepS l (j : Int)).2 = 0 := by
   have hc := pairsS_count (j := (j : Int)) (all := l) l (zeroS (j : Int) l) (fun p hp hp0 q hq hq0 => by
    rw [Int.toNat_natCast] at hp0 hq0
    exact join_ok (B := 9447840) (by decide) (by decide) (hv p hp) (hv q hq) (by rw [(t.row p hp).len, (t.row q hq).len]) (by rw [(t.row p hp).len]; omega) hq0) (by
    have h3 := three j l
    unfold zeroS
    rw [Int.toNat_natCast]
    generalize (l.filter fun r => r.1.getD j 0 == 0).length = z at *
    generalize (l.filter fun r => decide (0 < r.1.getD j 0)).length = p at *
    generalize (l.filter fun r => decide (r.1.getD j 0 < 0)).length = q at *
    have hp : p ≤ 64 := by omega
    have h4 := prod64 ⟨p, by omega⟩
    have h5 : p * q ≤ p * (64 - p) := Nat.mul_le_mul_left _ (by omega)
    simp only at h4
    omega)
   unfold stepS
   rw [hc]
   rfl
  rw [solveG, hstep]
  obtain ⟨t1, t2⟩ := t.step hA (by omega) hj hstep
  show (solveG (stepS l (j : Int)).1 ((j : Int) + 1) d).2 = 0
  rw [← succ_cast]
  refine Tab.small hA hn h3 d (j + 1) _ t1 ?_ (by omega)
  unfold List.Nodup
  rw [List.pairwise_map]
  exact t2.imp fun h e => h.1 (suppN_eq.1 e).1
theorem solve_small {A : List (List Int)} (hv : validM A = true) (hs : smallA A = true) : (solveS A).2 = 0 := by
 obtain ⟨⟨h1, h2⟩, h3, h4, h5⟩ := validM_iff.1 hv
 unfold smallA at hs
 simp only [Bool.and_eq_true, decide_eq_true_eq, List.all_eq_true] at hs
 have hnd : ((startS A).map fun r => suppN (rowX r)).Nodup := by
  have hst : (startS A).map (fun r => suppN (rowX r)) = (List.range (A.headD []).length).map fun c => suppN (unitL (A.headD []).length c) := by
   unfold startS
   rw [List.map_map]
   apply List.map_congr_left
   intro c _
   show suppN (List.drop _ _) = _
   rw [Int.toNat_natCast, List.drop_append_of_le_length (by simp), List.drop_eq_nil_of_le (by simp), List.nil_append]
  rw [hst]
  unfold List.Nodup
  rw [List.pairwise_map]
  refine List.Pairwise.imp_of_mem ?_ List.pairwise_lt_range
  intro a b ha hb hab e
  have h7 := (suppN_eq.1 e).1 a
  rw [fn_unit (List.mem_range.1 ha), fn_unit (List.mem_range.1 hb)] at h7
  have h8 := h7 (by show (if a = a then (1 : Int) else 0) ≠ 0; rw [if_pos rfl]; decide)
  apply h8
  exact if_neg (by omega)
 have := Tab.small h3 hs.1.2 (fun a ha x hx => by have := hs.2 a ha x hx; omega) A.length 0 (startS A) (Tab.start h3 rfl) hnd (by omega)
 rw [show ((0 : Nat) : Int) = 0 from rfl] at this
 unfold solveS
 rw [hv, this]
 rfl
end Fk
end Go.VI
namespace Go.VI
open Go Go.Proofs
namespace pl31_SemiflowCovers
def an7 : Ann := [(9, [1, 5, 7], [4]), (14, [1, 5, 7, 8, 9], [1, 5, 7, 8])]
def L0.sh : Sh := { sl := [(1, SV.a (SA.d (K.int IntKind.i64).sl)), (5, SV.a (SA.d (K.int IntKind.i64).sl.sl)), (7, SV.a (SA.d (K.int IntKind.i64))), (8, SV.a (SA.d K.bool)), (9, SV.a (SA.d (K.int IntKind.i64)))], os := [], nx := 0 }
def L0.x0 : Sh := { sl := [(1, SV.a (SA.d (K.int IntKind.i64).sl)), (5, SV.a (SA.d (K.int IntKind.i64).sl.sl)), (7, SV.a (SA.d (K.int IntKind.i64))), (8, SV.a (SA.d K.bool))], os := [], nx := 0 }
def L0.st {α : Type} (N : Nat) (x3 : (List Int)) (x4 : (List (List Int))) (x5 : Int) (φ : (Bool → Int → Option α)) (x6 : Bool) (x7 : Int) (k0 : (Bool → Option α)) : Option α :=
 cond (decide (x7 < (↑x4.length : Int))) (cond (x6) (φ (true) (IntKind.i64.wrap (x7 + 1))) (cond (decide (0 ≤ x7) && decide (x7 < (↑x4.length : Int))) (cond ((pl31_inside.spec (x4.getD x7.toNat []) x3)) (cond (decide (0 ≤ x7) && decide (x7 < (↑x4.length : Int))) (cond (decide (0 ≤ x5) && decide (x5 < (↑(List.length (x4.getD x7.toNat [])) : Int))) (φ (List.getD (x4.getD x7.toNat []) x5.toNat 0 != 0) (IntKind.i64.wrap (x7 + 1))) (none)) (none)) (φ (false) (IntKind.i64.wrap (x7 + 1)))) (none))) (k0 (x6))
def L0.f {α : Type} (N : Nat) (c0 : (List Int)) (c1 : (List (List Int))) (c2 : Int) : Nat → Bool → Int → (Bool → Option α) → Option α
 | 0, _, _, _ => none
 | n + 1, d0, d1, k0 => L0.st N c0 c1 c2 (fun e0 e1 => L0.f N c0 c1 c2 n e0 e1 k0) d0 d1 k0
def L0.up (d : L0.sh.T) (e0 : Bool) (e1 : Int) : L0.sh.T := ((d.1.1, (d.1.2.1, (d.1.2.2.1, (e0, (e1, ()))))), ())
def L0.k0 {α : Type} (d : L0.sh.T) (K : Cont α) : (Bool → Option α) := fun y0 => K (Exit.exit 2) (L0.x0.enc ((d.1.1, (d.1.2.1, (d.1.2.2.1, (y0, ())))), ()))
def L0.F {α : Type} (N : Nat) (d : L0.sh.T) (K : Cont α) : Option α := L0.f N d.1.1 d.1.2.1 d.1.2.2.1 N d.1.2.2.2.1 d.1.2.2.2.2.1 (L0.k0 d K)
def L1.sh : Sh := { sl := [(1, SV.a (SA.d (K.int IntKind.i64).sl)), (5, SV.a (SA.d (K.int IntKind.i64).sl.sl)), (7, SV.a (SA.d (K.int IntKind.i64)))], os := [], nx := 0 }
def L1.x0 : Sh := { sl := [(4, SV.a (SA.d K.bool))], os := [], nx := 0 }
def L1.x1 : Sh := { sl := [(4, SV.j)], os := [], nx := 0 }
def L1.st {α : Type} (N : Nat) (x0 : (List Int)) (x1 : (List (List Int))) (φ : (Int → Option α)) (x2 : Int) (k0 : (Bool → Option α)) (k1 : Option α) : Option α :=
 cond (decide (x2 < (↑x0.length : Int))) (cond (decide (0 ≤ x2) && decide (x2 < (↑x0.length : Int))) (cond (x0.getD x2.toNat 0 == 0) (φ (IntKind.i64.wrap (x2 + 1))) (L0.f N (x0) (x1) (x2) N (false) (0) (fun x8 => cond (!x8) (k0 (false)) (φ (IntKind.i64.wrap (x2 + 1)))))) (none)) (k1 )
def L1.f {α : Type} (N : Nat) (c0 : (List Int)) (c1 : (List (List Int))) : Nat → Int → (Bool → Option α) → Option α → Option α
 | 0, _, _, _ => none
 | n + 1, d0, k0, k1 => L1.st N c0 c1 (fun e0 => L1.f N c0 c1 n e0 k0 k1) d0 k0 k1
def L1.up (d : L1.sh.T) (e0 : Int) : L1.sh.T := ((d.1.1, (d.1.2.1, (e0, ()))), ())
def L1.k0 {α : Type} (d : L1.sh.T) (K : Cont α) : (Bool → Option α) := fun y0 => K (Exit.ret) (L1.x0.enc ((y0, ()), ()))
def L1.k1 {α : Type} (d : L1.sh.T) (K : Cont α) : Option α := K (Exit.exit 0) (L1.x1.enc (((), ()), ()))
def L1.F {α : Type} (N : Nat) (d : L1.sh.T) (K : Cont α) : Option α := L1.f N d.1.1 d.1.2.1 N d.1.2.2.1 (L1.k0 d K) (L1.k1 d K)
def ents7 {α : Type} (N : Nat) : List (SmE α) := [⟨0, 50, 14, [⟨L0.sh, L0.F N⟩]⟩, ⟨0, 50, 9, [⟨L1.sh, L1.F N⟩]⟩]
def C (N : Nat) : Ctx := ⟨tys, [(9, pl31_short.fent), (10, pl31_lives.fent), (11, pf08_Valid.fent), (12, semiflow_Solve.fent), (13, pf31_Small.fent), (28, pl31_zero.fent), (31, pl31_inside.fent)], [], N⟩
def L0.B {α : Type} (N : Nat) : Env → Cont α → Option α := evC tys 81 0 (evCall (C N) 50) (evCallQ (C N)) N an7 (smL (ents7 N) 0 50) (loopOf 14 Try.f7)
theorem L0.r {α : Type} (N : Nat) (φ : Env → Option α) (K : Cont α) (d : L0.sh.T) : L0.B N (L0.sh.enc d) (contL φ K (Env.norm 0 [1, 5, 7, 8, 9]) (Env.norm 0 [1, 5, 7, 8])) = L0.st N d.1.1 d.1.2.1 d.1.2.2.1 (fun e0 e1 => φ (L0.sh.enc (L0.up d e0 e1))) d.1.2.2.2.1 d.1.2.2.2.2.1 (L0.k0 d K) := by kernel_rfl
theorem L0.e {α : Type} (N : Nat) : ∀ (n : Nat) (d : L0.sh.T) (K : Cont α), evL (L0.B N) (Env.norm 0 [1, 5, 7, 8, 9]) (Env.norm 0 [1, 5, 7, 8]) n (L0.sh.enc d) K = L0.f N d.1.1 d.1.2.1 d.1.2.2.1 n d.1.2.2.2.1 d.1.2.2.2.2.1 (L0.k0 d K)
 | 0, d, K => rfl
 | n + 1, d, K => evL_contL.trans ((L0.r N _ K d).trans (congrArg (fun φ => L0.st N d.1.1 d.1.2.1 d.1.2.2.1 φ d.1.2.2.2.1 d.1.2.2.2.2.1 (L0.k0 d K)) (funext fun e0 => funext fun e1 => L0.e N n (L0.up d e0 e1) K)))
def L1.B {α : Type} (N : Nat) : Env → Cont α → Option α := evC tys 81 0 (evCall (C N) 50) (evCallQ (C N)) N an7 (smL (ents7 N) 0 50) (loopOf 9 Try.f7)
theorem L1.r {α : Type} (N : Nat) (φ : Env → Option α) (K : Cont α) (d : L1.sh.T) : L1.B N (L1.sh.enc d) (contL φ K (Env.norm 0 [1, 5, 7]) (Env.norm 0 [4])) = L1.st N d.1.1 d.1.2.1 (fun e0 => φ (L1.sh.enc (L1.up d e0))) d.1.2.2.1 (L1.k0 d K) (L1.k1 d K) := by kernel_rfl
theorem L1.e {α : Type} (N : Nat) : ∀ (n : Nat) (d : L1.sh.T) (K : Cont α), evL (L1.B N) (Env.norm 0 [1, 5, 7]) (Env.norm 0 [4]) n (L1.sh.enc d) K = L1.f N d.1.1 d.1.2.1 n d.1.2.2.1 (L1.k0 d K) (L1.k1 d K)
 | 0, d, K => rfl
 | n + 1, d, K => evL_contL.trans ((L1.r N _ K d).trans (congrArg (fun φ => L1.st N d.1.1 d.1.2.1 φ d.1.2.2.1 (L1.k0 d K) (L1.k1 d K)) (funext fun e0 => L1.e N n (L1.up d e0) K)))
theorem ents7_ok {α : Type} (N : Nat) : AllP (EntOk (C N) Try.f7 an7 (ents7 (α := α) N)) (ents7 N) := ⟨entOk_of (b0 := loopOf 14 Try.f7) (li0 := [1, 5, 7, 8, 9]) (lx0 := [1, 5, 7, 8]) (by kernel_rfl) (by kernel_rfl) ⟨fun d K => L0.e N N d K, trivial⟩, entOk_of (b0 := loopOf 9 Try.f7) (li0 := [1, 5, 7]) (lx0 := [4]) (by kernel_rfl) (by kernel_rfl) ⟨fun d K => L1.e N N d K, trivial⟩, trivial⟩
def g {α : Type} (N : Nat) (a0 : List (List Int)) (a1 : List Int) (kr : (Bool → Option α)) : Option α :=
 cond (!pl31_lives.spec) (kr (false)) (cond (!(pl31_short.spec a0)) (kr (true)) (cond (!(pf08_Valid.spec a0)) (kr (true)) (cond (pf31_Small.pre a0) (cond (!(pf31_Small.spec a0)) (kr (true)) (cond (decide (20 < (↑a1.length : Int))) (kr (true)) (cond (pl31_zero.pre a0 a1) (cond (!(pl31_zero.spec a0 a1)) (kr (true)) (cond ((semiflow_Solve.spec a0).snd != 0) (kr (false)) (L1.f N (a1) ((semiflow_Solve.spec a0).fst) N (0) (fun x9 => kr (x9)) (kr (true))))) (none)))) (none))))
theorem eq (N : Nat) (a0 : List (List Int)) (a1 : List Int) : evF (C N) 50 Try.f7 an7 (smL (ents7 N) 0 50) [((.bool : K), false)] [⟨.sl (.sl (.int .i64)), a0⟩, ⟨.sl (.int .i64), a1⟩] = g N a0 a1 (fun r0 => some [.dat (K.bool) r0]) := by kernel_rfl
theorem ctxOk (N : Nat) : CtxOk P (C N) := ctxOk_of tysOk mixedOk ⟨pl31_short.ok, pl31_lives.ok, pf08_Valid.ok, semiflow_Solve.ok, pf31_Small.ok, pl31_zero.ok, pl31_inside.ok, trivial⟩ trivial
theorem calls (N : Nat) (a0 : List (List Int)) (a1 : List Int) {rs : List Rs} (h : g N a0 a1 (fun r0 => some [.dat (K.bool) r0]) = some rs) : CallsTo P 7 [⟨.sl (.sl (.int .i64)), a0⟩, ⟨.sl (.int .i64), a1⟩] rs := evF_calls' (ctxOk N) (by rfl) (ents7_ok N) ((eq N a0 a1).trans h)
def L0.l {α : Type} (N : Nat) (x3 : (List Int)) (x4 : (List (List Int))) (x5 : Int) (k0 : (Bool → Option α)) : List (List Int) → Int → Bool → Option α
 | [], x7, x6 => k0 (x6)
 | x :: l, x7, x6 => cond (x6) (L0.l N x3 x4 x5 k0 l (x7 + 1) (true)) ((cond ((pl31_inside.spec x x3)) ((cond (decide (0 ≤ x5) && decide (x5 < (↑(List.length x) : Int))) (L0.l N x3 x4 x5 k0 l (x7 + 1) (List.getD x x5.toNat 0 != 0)) (none))) (L0.l N x3 x4 x5 k0 l (x7 + 1) (false))))
theorem L0.rng {α : Type} {N : Nat} (x3 : (List Int)) (x4 : (List (List Int))) (x5 : Int) (hl : x4.length ≤ maxLen) (k0 : (Bool → Option α)) : ∀ (n j : Nat) (x6 : Bool), x4.length < n + j → j ≤ x4.length → L0.f N x3 x4 x5 n x6 (j : Int) k0 = L0.l N x3 x4 x5 k0 (x4.drop j) (j : Int) x6 :=
 rng1 x4 hl (fun n i x6 => L0.f N x3 x4 x5 n x6 i k0) (fun l i x6 => L0.l N x3 x4 x5 k0 l i x6) (fun n j hj h ih x6 => by simp only [L0.f, L0.st, L0.l, h.a, h.b, h.c, h.d, h.e, Bool.true_and, Bool.and_true, Bool.and_self, cond_true, ih] <;> rfl) (fun n j h x6 => by simp only [L0.f, L0.st, L0.l, h, cond_false])
def L1.l {α : Type} (N : Nat) (x0 : (List Int)) (x1 : (List (List Int))) (k0 : (Bool → Option α)) (k1 : Option α) : List Int → Int → Option α
 | [], x2 => k1 
 | x :: l, x2 => (cond (x == 0) (L1.l N x0 x1 k0 k1 l (x2 + 1)) (L0.f N (x0) (x1) (x2) N (false) (0) (fun x8 => cond (!x8) (k0 (false)) (L1.l N x0 x1 k0 k1 l (x2 + 1)))))
theorem L1.rng {α : Type} {N : Nat} (x0 : (List Int)) (x1 : (List (List Int))) (hl : x0.length ≤ maxLen) (k0 : (Bool → Option α)) (k1 : Option α) : ∀ (n j : Nat), x0.length < n + j → j ≤ x0.length → L1.f N x0 x1 n (j : Int) k0 k1 = L1.l N x0 x1 k0 k1 (x0.drop j) (j : Int) :=
 rng0 x0 hl (fun n i => L1.f N x0 x1 n i k0 k1) (fun l i => L1.l N x0 x1 k0 k1 l i) (fun n j hj h ih => by simp only [L1.f, L1.st, L1.l, h.a, h.b, h.c, h.d, h.e, Bool.true_and, Bool.and_true, Bool.and_self, cond_true, ih] <;> rfl) (fun n j h => by simp only [L1.f, L1.st, L1.l, h, cond_false])
end pl31_SemiflowCovers
theorem insL_iff : ∀ {a b : List Int}, a.length = b.length → (insL a b = true ↔ Fk.Sub (Fk.fn a) (Fk.fn b))
 | [], [], _ => ⟨fun _ k hk => hk, fun _ => rfl⟩
 | x :: a, y :: b, h => by
  have ih := insL_iff (a := a) (b := b) (by simpa using h)
  rw [insL, Bool.and_eq_true, ih]
  constructor
  ·
   rintro ⟨h1, h2⟩ k hk
   cases k with
   | zero =>
    have hx : x ≠ 0 := hk
    have : (x == 0) = false := by simpa using hx
    rw [this] at h1
    simp at h1
    exact h1
   | succ k => exact h2 k hk
  ·
   intro hs
   refine ⟨?_, fun k hk => hs (k + 1) hk⟩
   by_cases hx : x = 0
   ·
    simp [hx]
   ·
    have : y ≠ 0 := hs 0 hx
    simp [this]
 | [], _ :: _, h => by simp at h
 | _ :: _, [], h => by simp at h
theorem pl31_SemiflowCovers.L0.law {α : Type} {N : Nat} (x3 : List Int) (L : List (List Int)) (k : Nat) (hL : ∀ l ∈ L, k < l.length) (k0 : Bool → Option α) : ∀ (l : List (List Int)) (j : Int) (b : Bool), (∀ y ∈ l, y ∈ L) → pl31_SemiflowCovers.L0.l N x3 L (k : Int) k0 l j b = k0 (b || l.any fun y => insL y x3 && !(y.getD k 0 == 0))
 | [], j, b, _ => by rw [pl31_SemiflowCovers.L0.l]; simp
 | x :: l, j, b, h => by
  have hx := hL x (h x (by simp))
  have ih := fun b => pl31_SemiflowCovers.L0.law (N := N) x3 L k hL k0 l (j + 1) b fun y hy => h y (by simp [hy])
  rw [pl31_SemiflowCovers.L0.l, ih, ih, ih, d_0, d_lt hx, List.any_cons, show pl31_inside.spec x x3 = insL x x3 from rfl, Int.toNat_natCast]
  cases b
  ·
   cases insL x x3
   ·
    rfl
   ·
    rfl
  ·
   rfl
theorem pl31_SemiflowCovers.L1.law {α : Type} {N : Nat} (hN : 18446744073709551616 ≤ N) (A L : List (List Int)) (n : Nat) (f : Fk.Flows A n L) (hw : L.length ≤ maxLen) (x : List Int) (hxl : x.length = n) (hx : ∀ k, x.getD k 0 ≠ 0 → ∃ l ∈ L, Fk.Sub (Fk.fn l) (Fk.fn x) ∧ l.getD k 0 ≠ 0) (k0 : Bool → Option α) (k1 : Option α) : ∀ (l : List Int) (j : Nat), l = x.drop j → pl31_SemiflowCovers.L1.l N x L (fun b => k0 b) k1 l (j : Int) = k1
 | [], j, _ => rfl
 | y :: l, j, hl => by
  obtain ⟨hj, hy, hl'⟩ := drop_step hl
  have ih := pl31_SemiflowCovers.L1.law (N := N) hN A L n f hw x hxl hx k0 k1 l (j + 1) hl'
  rw [pl31_SemiflowCovers.L1.l, ← succ_cast, ih]
  cases h0 : y == 0
  ·
   have hne : x.getD j 0 ≠ 0 := by rw [getD_n hj, hy]; simpa using h0
   obtain ⟨z, hz, hs, hzk⟩ := hx j hne
   simp only [cond_false]
   refine (pl31_SemiflowCovers.L0.rng (N := N) x L (j : Int) hw _ N 0 false (by have := le_fuel hw hN; omega) (Nat.zero_le _)).trans ?_
   rw [List.drop_zero, pl31_SemiflowCovers.L0.law x L j (fun u hu => by rw [(f.mem u hu).1]; omega) _ L _ false (fun u hu => hu)]
   have : (L.any fun y => insL y x && !(y.getD j 0 == 0)) = true := by
    rw [List.any_eq_true]
    refine ⟨z, hz, ?_⟩
    rw [(insL_iff (by rw [(f.mem z hz).1, hxl])).2 hs]
    simpa using hzk
   rw [this]
   rfl
  ·
   rfl
theorem pl31_SemiflowCovers.law {α : Type} {N : Nat} (hN : 18446744073709551616 ≤ N) (a0 : List (List Int)) (a1 : List Int) (w0 : K.wf (.sl (.sl (.int .i64))) a0) (w1 : K.wf (.sl (.int .i64)) a1) (kr : (Bool → Option α)) : pl31_SemiflowCovers.g N a0 a1 kr = kr (pl31_SemiflowCovers.spec a0 a1) := by
 unfold pl31_SemiflowCovers.g pl31_SemiflowCovers.spec
 rw [show pl31_lives.spec = true from rfl, show pf08_Valid.spec a0 = validM a0 from rfl, show pf31_Small.pre a0 = validM a0 from rfl, show pf31_Small.spec a0 = smallA a0 from rfl, show pl31_zero.spec a0 a1 = zeroA a0 a1 from rfl, show semiflow_Solve.spec a0 = solveS a0 from rfl]
 simp only [Bool.not_true, cond_false]
 cases pl31_short.spec a0
 ·
  rfl
 cases hv : validM a0
 ·
  rfl
 simp only [Bool.not_true, cond_false, cond_true]
 cases hs : smallA a0
 ·
  rfl
 simp only [Bool.not_true, cond_false]
 by_cases h20 : 20 < (a1.length : Int)
 ·
  rw [decide_eq_true h20]; rfl
 rw [decide_eq_false h20]
 have hpre : pl31_zero.pre a0 a1 = true := by
  unfold pl31_zero.pre modA
  unfold smallA at hs
  simp only [Bool.and_eq_true, decide_eq_true_eq, List.all_eq_true] at hs ⊢
  exact ⟨fun r hr x hx => by have := hs.2 r hr x hx; omega, by omega⟩
 rw [hpre]
 simp only [cond_false, cond_true]
 cases hz : zeroA a0 a1
 ·
  rfl
 have he := Fk.solve_small hv hs
 rw [he]
 simp only [Bool.not_true, cond_false, bne_self_eq_false]
 obtain ⟨⟨h1, h2⟩, h3, h4, h5⟩ := validM_iff.1 hv
 have f := Fk.solve_flows hv he
 unfold zeroA at hz
 rw [List.all_eq_true] at hz
 have hrow : ∀ r ∈ a0, r.length = a1.length ∧ (∀ y ∈ a1, 0 ≤ y) ∧ dotL r a1 = 0 := fun r hr => by
  have := hz r hr
  simp only [Bool.and_eq_true, List.all_eq_true, decide_eq_true_eq, beq_iff_eq] at this
  exact ⟨Nat.eq_of_beq_eq_true this.1.1, fun y hy => (this.1.2 y hy).1, this.2⟩
 have hne : ∃ r, r ∈ a0 := by
  cases a0 with
  | nil => simp at h1
  | cons r l => exact ⟨r, by simp⟩
 obtain ⟨r0, hr0⟩ := hne
 have hl1 : a1.length = (a0.headD []).length := by rw [← (hrow r0 hr0).1, h3 r0 hr0]
 have hpos := (hrow r0 hr0).2.1
 have hx : ∀ k, a1.getD k 0 ≠ 0 → ∃ l ∈ (solveS a0).1, Fk.Sub (Fk.fn l) (Fk.fn a1) ∧ l.getD k 0 ≠ 0 := fun k hk => by
  have hsol : Fk.Sol (a0.headD []).length (a0.map Fk.fn) (Fk.fn a1) := ⟨fun i => by
    by_cases hi : Fk.fn a1 i = 0
    ·
     rw [hi]; exact Int.le_refl _
    ·
     exact hpos _ (Fk.fn_mem hi).2, fun i hi => Fk.fn_ge (by omega), ⟨k, hk⟩, fun a ha => by
    obtain ⟨r, hr, rfl⟩ := List.mem_map.1 ha
    rw [← Fk.dotL_dot r a1 _ (h3 r hr) hl1]
    exact (hrow r hr).2.2⟩
  obtain ⟨m, hm, hms, hmk⟩ := Fk.Sol.covered _ _ (Nat.le_refl _) hsol k hk
  obtain ⟨z, hz, hzs⟩ := f.all m hm
  refine ⟨z, hz, hzs.trans hms, ?_⟩
  exact hm.min _ (f.mem z hz).2.1.sol hzs k hmk
 have hlen : (solveS a0).1.length ≤ maxLen := by
  have : (solveS a0).1.length ≤ 1000000 := by
   have hs := startS_ok hv
   have hl : (startS a0).length ≤ 1000000 := by unfold startS; rw [List.length_map, List.length_range]; omega
   unfold solveS at he ⊢
   rw [hv] at he ⊢
   simp only [cond_true] at he ⊢
   cases hc : (solveG (startS a0) 0 a0.length).2 == 0
   ·
    simp
   ·
    obtain ⟨b1, b2⟩ := solveG_ok a0.length _ 0 hs hl (beq0.1 hc)
    have hlen : ∀ (l : List RowT) (acc : List (List Int)), (sortedG acc l).length = acc.length + l.length := fun l => by
     induction l with
     | nil => intro acc; rfl
     | cons x l ih => intro acc; rw [sortedG, ih, insD_len, List.length_cons]; omega
    simp only [cond_true]
    rw [hlen]
    simpa using b2
  unfold maxLen
  omega
 refine (pl31_SemiflowCovers.L1.rng (N := N) _ _ (w1.1) _ _ N 0  (by have := le_fuel (w1.1) hN; omega) (Nat.zero_le _)).trans ?_
 rw [List.drop_zero]
 exact pl31_SemiflowCovers.L1.law (N := N) hN a0 (solveS a0).1 _ f hlen a1 hl1 hx (fun b => kr b) (kr true) _ 0 rfl
theorem pl31_SemiflowCovers.ok : FentOk P 7 pl31_SemiflowCovers.fent := fentOk_of (by kernel_rfl) fun ds hk => by
 obtain ⟨a0, l0, rfl, h0⟩ := ds_cons hk
 obtain ⟨a1, l1, rfl, h1⟩ := ds_cons h0
 obtain rfl := ds0 h1
 exact ⟨true, [.dat (.bool) (pl31_SemiflowCovers.spec a0 a1)], fun h hw => pl31_SemiflowCovers.calls 18446744073709551616 a0 a1 (pl31_SemiflowCovers.law (Nat.le_refl _) a0 a1 hw.1 hw.2.1 _), fun α k => rfl⟩
theorem semiflowCovers_calls (x0 : K.T (.sl (.sl (.int .i64)))) (x1 : K.T (.sl (.int .i64))) (w0 : K.wf (.sl (.sl (.int .i64))) x0) (w1 : K.wf (.sl (.int .i64)) x1) : CallsTo P 7 [⟨.sl (.sl (.int .i64)), x0⟩, ⟨.sl (.int .i64), x1⟩] [.dat .bool true] := pl31_SemiflowCovers.calls 18446744073709551616 x0 x1 (pl31_SemiflowCovers.law (Nat.le_refl _) x0 x1 w0 w1 _)
end Go.VI
