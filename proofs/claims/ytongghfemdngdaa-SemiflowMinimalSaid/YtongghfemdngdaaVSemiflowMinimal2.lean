/- What the functions that SemiflowMinimal calls compute: printed out of the interpreter's normal forms (wip/vi/vigen.py) and proved. -/
import Derived.Test.YtongghfemdngdaaVSemiflowMinimal1
import Derived.Test.YtongghfemdngdaaProg
set_option linter.unusedVariables false
set_option linter.unusedSimpArgs false
set_option maxRecDepth 100000
set_option maxHeartbeats 4000000
noncomputable section
namespace Go.VI
open Go Go.Proofs
namespace pl31_SemiflowMinimal
def an6 : Ann := [(9, [0, 3, 5], [2]), (15, [0, 3, 5, 6], [0, 2, 3, 5])]
def L0.sh : Sh := { sl := [(0, SV.a (SA.d (K.int IntKind.i64).sl.sl)), (3, SV.a (SA.d (K.int IntKind.i64).sl.sl)), (5, SV.a (SA.d (K.int IntKind.i64))), (6, SV.a (SA.d (K.int IntKind.i64)))], os := [], nx := 0 }
def L0.x0 : Sh := { sl := [(0, SV.a (SA.d (K.int IntKind.i64).sl.sl)), (2, SV.a (SA.d K.bool)), (3, SV.a (SA.d (K.int IntKind.i64).sl.sl)), (5, SV.a (SA.d (K.int IntKind.i64)))], os := [], nx := 0 }
def L0.x1 : Sh := { sl := [(0, SV.a (SA.d (K.int IntKind.i64).sl.sl)), (2, SV.j), (3, SV.a (SA.d (K.int IntKind.i64).sl.sl)), (5, SV.a (SA.d (K.int IntKind.i64)))], os := [], nx := 0 }
def L0.st {α : Type} (N : Nat) (x4 : (List (List Int))) (x5 : Int) (φ : (Int → Option α)) (x6 : Int) (k0 : (Bool → Option α)) (k1 : Option α) : Option α :=
 cond (decide (x6 < (↑x4.length : Int))) (cond (decide (x6 < 200)) (cond (x6 != x5) (cond (decide (0 ≤ x6) && decide (x6 < (↑x4.length : Int))) (cond (decide (0 ≤ x5) && decide (x5 < (↑x4.length : Int))) (cond ((pl31_inside.spec (x4.getD x6.toNat []) (x4.getD x5.toNat []))) (k0 (false)) (φ (IntKind.i64.wrap (x6 + 1)))) (none)) (none)) (φ (IntKind.i64.wrap (x6 + 1)))) (k1 )) (k1 )
def L0.f {α : Type} (N : Nat) (c1 : (List (List Int))) (c2 : Int) : Nat → Int → (Bool → Option α) → Option α → Option α
 | 0, _, _, _ => none
 | n + 1, d0, k0, k1 => L0.st N c1 c2 (fun e0 => L0.f N c1 c2 n e0 k0 k1) d0 k0 k1
def L0.up (d : L0.sh.T) (e0 : Int) : L0.sh.T := ((d.1.1, (d.1.2.1, (d.1.2.2.1, (e0, ())))), ())
def L0.k0 {α : Type} (d : L0.sh.T) (K : Cont α) : (Bool → Option α) := fun y0 => K (Exit.ret) (L0.x0.enc ((d.1.1, (y0, (d.1.2.1, (d.1.2.2.1, ())))), ()))
def L0.k1 {α : Type} (d : L0.sh.T) (K : Cont α) : Option α := K (Exit.exit 2) (L0.x1.enc ((d.1.1, ((), (d.1.2.1, (d.1.2.2.1, ())))), ()))
def L0.F {α : Type} (N : Nat) (d : L0.sh.T) (K : Cont α) : Option α := L0.f N d.1.2.1 d.1.2.2.1 N d.1.2.2.2.1 (L0.k0 d K) (L0.k1 d K)
def L1.sh : Sh := { sl := [(0, SV.a (SA.d (K.int IntKind.i64).sl.sl)), (3, SV.a (SA.d (K.int IntKind.i64).sl.sl)), (5, SV.a (SA.d (K.int IntKind.i64)))], os := [], nx := 0 }
def L1.x0 : Sh := { sl := [(2, SV.a (SA.d K.bool))], os := [], nx := 0 }
def L1.x1 : Sh := { sl := [(2, SV.j)], os := [], nx := 0 }
def L1.st {α : Type} (N : Nat) (x0 : (List (List Int))) (x1 : (List (List Int))) (φ : (Int → Option α)) (x2 : Int) (k0 : (Bool → Option α)) (k1 : Option α) : Option α :=
 cond (decide (x2 < (↑x1.length : Int))) (cond (decide (x2 < 200)) (cond (decide (0 ≤ x2) && decide (x2 < (↑x1.length : Int))) (cond ((pl31_large.spec (x1.getD x2.toNat []))) (φ (IntKind.i64.wrap (x2 + 1))) (cond (decide (0 ≤ x2) && decide (x2 < (↑x1.length : Int))) (cond (pl31_zero.pre x0 (x1.getD x2.toNat [])) (cond (!(pl31_zero.spec x0 (x1.getD x2.toNat []))) (k0 (false)) (cond (decide (0 ≤ x2) && decide (x2 < (↑x1.length : Int))) (cond (pl31_gcd.pre (x1.getD x2.toNat [])) (cond ((pl31_gcd.spec (x1.getD x2.toNat [])) != 1) (k0 (false)) (cond (decide (0 < x2)) (cond (decide (0 ≤ IntKind.i64.wrap (x2 - 1)) && decide (IntKind.i64.wrap (x2 - 1) < (↑x1.length : Int))) (cond (decide (0 ≤ x2) && decide (x2 < (↑x1.length : Int))) (cond (decide ((pf03_Compare.spec (x1.getD (IntKind.i64.wrap (x2 - 1)).toNat []) (x1.getD x2.toNat [])) ≤ 0)) (k0 (false)) (L0.f N (x1) (x2) N (0) (fun x7 => k0 (x7)) (φ (IntKind.i64.wrap (x2 + 1))))) (none)) (none)) (L0.f N (x1) (x2) N (0) (fun x8 => k0 (x8)) (φ (IntKind.i64.wrap (x2 + 1)))))) (none)) (none))) (none)) (none))) (none)) (k1 )) (k1 )
def L1.f {α : Type} (N : Nat) (c0 : (List (List Int))) (c1 : (List (List Int))) : Nat → Int → (Bool → Option α) → Option α → Option α
 | 0, _, _, _ => none
 | n + 1, d0, k0, k1 => L1.st N c0 c1 (fun e0 => L1.f N c0 c1 n e0 k0 k1) d0 k0 k1
def L1.up (d : L1.sh.T) (e0 : Int) : L1.sh.T := ((d.1.1, (d.1.2.1, (e0, ()))), ())
def L1.k0 {α : Type} (d : L1.sh.T) (K : Cont α) : (Bool → Option α) := fun y0 => K (Exit.ret) (L1.x0.enc ((y0, ()), ()))
def L1.k1 {α : Type} (d : L1.sh.T) (K : Cont α) : Option α := K (Exit.exit 0) (L1.x1.enc (((), ()), ()))
def L1.F {α : Type} (N : Nat) (d : L1.sh.T) (K : Cont α) : Option α := L1.f N d.1.1 d.1.2.1 N d.1.2.2.1 (L1.k0 d K) (L1.k1 d K)
def ents6 {α : Type} (N : Nat) : List (SmE α) := [⟨0, 50, 15, [⟨L0.sh, L0.F N⟩]⟩, ⟨0, 50, 9, [⟨L1.sh, L1.F N⟩]⟩]
def C (N : Nat) : Ctx := ⟨tys, [(9, pl31_short.fent), (10, pl31_lives.fent), (11, pf08_Valid.fent), (12, semiflow_Solve.fent), (13, pf31_Small.fent), (26, pl31_moderate.fent), (27, pl31_large.fent), (28, pl31_zero.fent), (29, pl31_gcd.fent), (30, pf03_Compare.fent), (31, pl31_inside.fent)], [], N⟩
def L0.B {α : Type} (N : Nat) : Env → Cont α → Option α := evC tys 116 0 (evCall (C N) 50) (evCallQ (C N)) N an6 (smL (ents6 N) 0 50) (loopOf 15 Try.f6)
theorem L0.r {α : Type} (N : Nat) (φ : Env → Option α) (K : Cont α) (d : L0.sh.T) : L0.B N (L0.sh.enc d) (contL φ K (Env.norm 0 [0, 3, 5, 6]) (Env.norm 0 [0, 2, 3, 5])) = L0.st N d.1.2.1 d.1.2.2.1 (fun e0 => φ (L0.sh.enc (L0.up d e0))) d.1.2.2.2.1 (L0.k0 d K) (L0.k1 d K) := by kernel_rfl
theorem L0.e {α : Type} (N : Nat) : ∀ (n : Nat) (d : L0.sh.T) (K : Cont α), evL (L0.B N) (Env.norm 0 [0, 3, 5, 6]) (Env.norm 0 [0, 2, 3, 5]) n (L0.sh.enc d) K = L0.f N d.1.2.1 d.1.2.2.1 n d.1.2.2.2.1 (L0.k0 d K) (L0.k1 d K)
 | 0, d, K => rfl
 | n + 1, d, K => evL_contL.trans ((L0.r N _ K d).trans (congrArg (fun φ => L0.st N d.1.2.1 d.1.2.2.1 φ d.1.2.2.2.1 (L0.k0 d K) (L0.k1 d K)) (funext fun e0 => L0.e N n (L0.up d e0) K)))
def L1.B {α : Type} (N : Nat) : Env → Cont α → Option α := evC tys 116 0 (evCall (C N) 50) (evCallQ (C N)) N an6 (smL (ents6 N) 0 50) (loopOf 9 Try.f6)
theorem L1.r {α : Type} (N : Nat) (φ : Env → Option α) (K : Cont α) (d : L1.sh.T) : L1.B N (L1.sh.enc d) (contL φ K (Env.norm 0 [0, 3, 5]) (Env.norm 0 [2])) = L1.st N d.1.1 d.1.2.1 (fun e0 => φ (L1.sh.enc (L1.up d e0))) d.1.2.2.1 (L1.k0 d K) (L1.k1 d K) := by kernel_rfl
theorem L1.e {α : Type} (N : Nat) : ∀ (n : Nat) (d : L1.sh.T) (K : Cont α), evL (L1.B N) (Env.norm 0 [0, 3, 5]) (Env.norm 0 [2]) n (L1.sh.enc d) K = L1.f N d.1.1 d.1.2.1 n d.1.2.2.1 (L1.k0 d K) (L1.k1 d K)
 | 0, d, K => rfl
 | n + 1, d, K => evL_contL.trans ((L1.r N _ K d).trans (congrArg (fun φ => L1.st N d.1.1 d.1.2.1 φ d.1.2.2.1 (L1.k0 d K) (L1.k1 d K)) (funext fun e0 => L1.e N n (L1.up d e0) K)))
theorem ents6_ok {α : Type} (N : Nat) : AllP (EntOk (C N) Try.f6 an6 (ents6 (α := α) N)) (ents6 N) := ⟨entOk_of (b0 := loopOf 15 Try.f6) (li0 := [0, 3, 5, 6]) (lx0 := [0, 2, 3, 5]) (by kernel_rfl) (by kernel_rfl) ⟨fun d K => L0.e N N d K, trivial⟩, entOk_of (b0 := loopOf 9 Try.f6) (li0 := [0, 3, 5]) (lx0 := [2]) (by kernel_rfl) (by kernel_rfl) ⟨fun d K => L1.e N N d K, trivial⟩, trivial⟩
def g {α : Type} (N : Nat) (a0 : List (List Int)) (kr : (Bool → Option α)) : Option α :=
 cond (!pl31_lives.spec) (kr (false)) (cond (!(pl31_short.spec a0)) (kr (true)) (cond (!(pf08_Valid.spec a0)) (kr (true)) (cond (!(pl31_moderate.spec a0)) (kr (true)) (lt (semiflow_Solve.spec a0) fun v4 => cond (v4.snd != 0) (cond ((↑v4.fst.length : Int) == 0) (cond (v4.snd == 3) (cond (pf31_Small.pre a0) (kr (!(pf31_Small.spec a0))) (none)) (cond (v4.snd == 14) (cond (pf31_Small.pre a0) (kr (!(pf31_Small.spec a0))) (none)) (kr (false)))) (kr (false))) (L1.f N (a0) (v4.fst) N (0) (fun x9 => kr (x9)) (kr (true)))))))
theorem eq (N : Nat) (a0 : List (List Int)) : evF (C N) 50 Try.f6 an6 (smL (ents6 N) 0 50) [((.bool : K), false)] [⟨.sl (.sl (.int .i64)), a0⟩] = g N a0 (fun r0 => some [.dat (K.bool) r0]) := by kernel_rfl
theorem ctxOk (N : Nat) : CtxOk P (C N) := ctxOk_of tysOk mixedOk ⟨pl31_short.ok, pl31_lives.ok, pf08_Valid.ok, semiflow_Solve.ok, pf31_Small.ok, pl31_moderate.ok, pl31_large.ok, pl31_zero.ok, pl31_gcd.ok, pf03_Compare.ok, pl31_inside.ok, trivial⟩ trivial
theorem calls (N : Nat) (a0 : List (List Int)) {rs : List Rs} (h : g N a0 (fun r0 => some [.dat (K.bool) r0]) = some rs) : CallsTo P 6 [⟨.sl (.sl (.int .i64)), a0⟩] rs := evF_calls' (ctxOk N) (by rfl) (ents6_ok N) ((eq N a0).trans h)
def L0.l {α : Type} (N : Nat) (x4 : (List (List Int))) (x5 : Int) (k0 : (Bool → Option α)) (k1 : Option α) : List (List Int) → Int → Option α
 | [], x6 => k1 
 | x :: l, x6 => cond (decide (x6 < 200)) (cond (x6 != x5) ((cond (decide (0 ≤ x5) && decide (x5 < (↑x4.length : Int))) (cond ((pl31_inside.spec x (x4.getD x5.toNat []))) (k0 (false)) (L0.l N x4 x5 k0 k1 l (x6 + 1))) (none))) (L0.l N x4 x5 k0 k1 l (x6 + 1))) (k1 )
theorem L0.rng {α : Type} {N : Nat} (x4 : (List (List Int))) (x5 : Int) (hl : x4.length ≤ maxLen) (k0 : (Bool → Option α)) (k1 : Option α) : ∀ (n j : Nat), x4.length < n + j → j ≤ x4.length → L0.f N x4 x5 n (j : Int) k0 k1 = L0.l N x4 x5 k0 k1 (x4.drop j) (j : Int) :=
 rng0 x4 hl (fun n i => L0.f N x4 x5 n i k0 k1) (fun l i => L0.l N x4 x5 k0 k1 l i) (fun n j hj h ih => by simp only [L0.f, L0.st, L0.l, h.a, h.b, h.c, h.d, h.e, Bool.true_and, Bool.and_true, Bool.and_self, cond_true, ih] <;> rfl) (fun n j h => by simp only [L0.f, L0.st, L0.l, h, cond_false])
def L1.l {α : Type} (N : Nat) (x0 : (List (List Int))) (x1 : (List (List Int))) (k0 : (Bool → Option α)) (k1 : Option α) : List (List Int) → Int → Option α
 | [], x2 => k1 
 | x :: l, x2 => cond (decide (x2 < 200)) ((cond ((pl31_large.spec x)) (L1.l N x0 x1 k0 k1 l (x2 + 1)) ((cond (pl31_zero.pre x0 x) (cond (!(pl31_zero.spec x0 x)) (k0 (false)) ((cond (pl31_gcd.pre x) (cond ((pl31_gcd.spec x) != 1) (k0 (false)) (cond (decide (0 < x2)) (cond (decide (0 ≤ IntKind.i64.wrap (x2 - 1)) && decide (IntKind.i64.wrap (x2 - 1) < (↑x1.length : Int))) ((cond (decide ((pf03_Compare.spec (x1.getD (IntKind.i64.wrap (x2 - 1)).toNat []) x) ≤ 0)) (k0 (false)) (L0.f N (x1) (x2) N (0) (fun x7 => k0 (x7)) (L1.l N x0 x1 k0 k1 l (x2 + 1))))) (none)) (L0.f N (x1) (x2) N (0) (fun x8 => k0 (x8)) (L1.l N x0 x1 k0 k1 l (x2 + 1))))) (none)))) (none))))) (k1 )
theorem L1.rng {α : Type} {N : Nat} (x0 : (List (List Int))) (x1 : (List (List Int))) (hl : x1.length ≤ maxLen) (k0 : (Bool → Option α)) (k1 : Option α) : ∀ (n j : Nat), x1.length < n + j → j ≤ x1.length → L1.f N x0 x1 n (j : Int) k0 k1 = L1.l N x0 x1 k0 k1 (x1.drop j) (j : Int) :=
 rng0 x1 hl (fun n i => L1.f N x0 x1 n i k0 k1) (fun l i => L1.l N x0 x1 k0 k1 l i) (fun n j hj h ih => by simp only [L1.f, L1.st, L1.l, h.a, h.b, h.c, h.d, h.e, Bool.true_and, Bool.and_true, Bool.and_self, cond_true, ih] <;> rfl) (fun n j h => by simp only [L1.f, L1.st, L1.l, h, cond_false])
end pl31_SemiflowMinimal
theorem insL_sub : ∀ {a b : List Int}, insL a b = true → Fk.Sub (Fk.fn a) (Fk.fn b)
 | [], [], _ => fun k hk => hk
 | x :: a, y :: b, h => by
  rw [insL, Bool.and_eq_true] at h
  intro k hk
  cases k with
  | zero =>
   have hx : x ≠ 0 := hk
   have : (x == 0) = false := by simpa using hx
   rw [this] at h
   have h1 := h.1
   simp at h1
   exact h1
  | succ k => exact insL_sub h.2 k hk
 | [], _ :: _, h => by cases h
 | _ :: _, [], h => by cases h
theorem pl31_SemiflowMinimal.L0.law {α : Type} {N : Nat} (L : List (List Int)) (i : Nat) (hi : i < L.length) (hL : ∀ j (hj : j < L.length), j ≠ i → insL L[j] L[i] = false) (k0 : Bool → Option α) (k1 : Option α) : ∀ (l : List (List Int)) (j : Nat), l = L.drop j → pl31_SemiflowMinimal.L0.l N L (i : Int) k0 k1 l (j : Int) = k1
 | [], j, _ => rfl
 | x :: l, j, hl => by
  obtain ⟨hj, hx, hl'⟩ := drop_step hl
  have ih := pl31_SemiflowMinimal.L0.law (N := N) L i hi hL k0 k1 l (j + 1) hl'
  rw [pl31_SemiflowMinimal.L0.l, ← succ_cast, ih, d_0, d_lt hi, getD_at hi]
  cases decide ((j : Int) < 200)
  ·
   rfl
  ·
   by_cases e : j = i
   ·
    subst e
    simp
   ·
    have h1 := hL j hj e
    rw [hx] at h1
    rw [show pl31_inside.spec x L[i] = insL x L[i] from rfl, h1]
    simp
theorem pl31_SemiflowMinimal.L1.law {α : Type} {N : Nat} (hN : 18446744073709551616 ≤ N) (A L : List (List Int)) (n : Nat) (hA : ∀ a ∈ A, a.length = n) (hn : n ≤ 64) (hmod : modA A = true) (f : Fk.Flows A n L) (hw : L.length ≤ maxLen) (k0 : Bool → Option α) (k1 : Option α) : ∀ (l : List (List Int)) (j : Nat), l = L.drop j → pl31_SemiflowMinimal.L1.l N A L (fun b => k0 b) k1 l (j : Int) = k1
 | [], j, _ => rfl
 | x :: l, j, hl => by
  obtain ⟨hj, hx, hl'⟩ := drop_step hl
  have ih := pl31_SemiflowMinimal.L1.law (N := N) hN A L n hA hn hmod f hw k0 k1 l (j + 1) hl'
  have hxm : x ∈ L := by rw [← hx]; exact List.getElem_mem hj
  obtain ⟨m1, m2, m3⟩ := f.mem x hxm
  rw [pl31_SemiflowMinimal.L1.l, ← succ_cast, ih]
  cases decide ((j : Int) < 200)
  ·
   rfl
  rw [show pl31_large.spec x = largeB x from rfl]
  cases hlg : largeB x
  rotate_left
  ·
   rfl
  have hpos : ∀ y ∈ x, 0 ≤ y := fun y hy => by
   obtain ⟨k, hk, rfl⟩ := List.mem_iff_getElem.1 hy
   have := m2.sol.pos k
   rw [Fk.fn_lt hk] at this
   exact this
  have hle : ∀ y ∈ x, y ≤ 1125899906842624 := fun y hy => by
   have := List.any_eq_false.1 hlg y hy
   simp at this
   exact this
  have e1 : pl31_zero.pre A x = true := by
   unfold pl31_zero.pre
   rw [hmod, decide_eq_true (by omega)]
   rfl
  have e2 : pl31_zero.spec A x = true := by
   unfold pl31_zero.spec zeroA
   rw [List.all_eq_true]
   intro a ha
   rw [beq_t (by rw [hA a ha, m1]), Fk.dotL_dot a x n (hA a ha) m1, m2.sol.eq _ (List.mem_map.2 ⟨a, ha, rfl⟩)]
   simp only [Bool.true_and, beq_self_eq_true, Bool.and_true, List.all_eq_true, Bool.and_eq_true, decide_eq_true_eq]
   exact fun y hy => ⟨hpos y hy, hle y hy⟩
  have e3 : pl31_gcd.pre x = true := by
   unfold pl31_gcd.pre
   simp only [List.all_eq_true, decide_eq_true_eq]
   exact hpos
  have e4 : pl31_gcd.spec x = 1 := by
   unfold pl31_gcd.spec
   rw [Fk.gcdL_one m3]
   rfl
  have inner : pl31_SemiflowMinimal.L0.f N L (j : Int) N 0 (fun b => k0 b) k1 = k1 := by
   refine (pl31_SemiflowMinimal.L0.rng (N := N) L (j : Int) hw _ _ N 0 (by have := le_fuel hw hN; omega) (Nat.zero_le _)).trans ?_
   rw [List.drop_zero]
   refine pl31_SemiflowMinimal.L0.law L j hj (fun k hk hne => ?_) _ _ L 0 rfl
   cases hi : insL L[k] L[j]
   ·
    rfl
   ·
    have hs := insL_sub hi
    have hp := List.pairwise_iff_getElem.1 f.apart
    rcases Nat.lt_or_gt_of_ne hne with h | h
    ·
     exact absurd hs (hp k j hk hj h).1
    ·
     exact absurd hs (hp j k hj hk h).2
  rw [e1, e2, e3, e4, inner]
  simp only [Bool.not_true, cond_true, cond_false, bne_self_eq_false]
  by_cases h0 : j = 0
  ·
   subst h0
   rfl
  ·
   rw [decide_eq_true (by omega : (0 : Int) < (j : Int))]
   have ew : IntKind.i64.wrap ((j : Int) - 1) = ((j - 1 : Nat) : Int) := by
    unfold maxLen at hw
    rw [wrap_i64 (inI_i64.2 (by omega))]
    omega
   have hj1 : j - 1 < L.length := by omega
   have hc := List.pairwise_iff_getElem.1 f.desc (j - 1) j hj1 hj (by omega)
   rw [ew, d_0, d_lt hj1, getD_at hj1, show pf03_Compare.spec L[j - 1] x = cmpL L[j - 1] x from rfl, ← hx, decide_eq_false (by omega)]
   rfl
theorem pl31_SemiflowMinimal.law {α : Type} {N : Nat} (hN : 18446744073709551616 ≤ N) (a0 : List (List Int)) (w0 : K.wf (.sl (.sl (.int .i64))) a0) (kr : (Bool → Option α)) : pl31_SemiflowMinimal.g N a0 kr = kr (pl31_SemiflowMinimal.spec a0) := by
 unfold pl31_SemiflowMinimal.g pl31_SemiflowMinimal.spec
 rw [show pl31_lives.spec = true from rfl, show pf08_Valid.spec a0 = validM a0 from rfl, show pl31_moderate.spec a0 = modA a0 from rfl]
 simp only [lt, Bool.not_true, cond_false]
 cases pl31_short.spec a0
 ·
  rfl
 cases hv : validM a0
 ·
  rfl
 cases hm : modA a0
 ·
  rfl
 simp only [Bool.not_true, cond_false]
 rw [show semiflow_Solve.spec a0 = solveS a0 from rfl, show pf31_Small.pre a0 = validM a0 from rfl, hv, show pf31_Small.spec a0 = smallA a0 from rfl]
 obtain ⟨c1, c2⟩ := Fk.solve_code hv
 by_cases he : (solveS a0).2 = 0
 ·
  rw [he]
  simp only [bne_self_eq_false, cond_false]
  obtain ⟨⟨h1, h2⟩, h3, h4, h5⟩ := validM_iff.1 hv
  have f := Fk.solve_flows hv he
  have hw : (solveS a0).1.length ≤ maxLen := by
   have : (solveS a0).1.length ≤ 1000000 := by
    have hs := startS_ok hv
    have hl : (startS a0).length ≤ 1000000 := by unfold startS; rw [List.length_map, List.length_range]; omega
    unfold solveS at he ⊢
    rw [hv] at he ⊢
    simp only [cond_true] at he ⊢
    cases hc : (solveG (startS a0) 0 a0.length).2 == 0
    ·
     simp
    ·
     obtain ⟨b1, b2⟩ := solveG_ok a0.length _ 0 hs hl (beq0.1 hc)
     have hlen : ∀ (l : List RowT) (acc : List (List Int)), (sortedG acc l).length = acc.length + l.length := fun l => by
      induction l with
      | nil => intro acc; rfl
      | cons x l ih => intro acc; rw [sortedG, ih, insD_len, List.length_cons]; omega
     simp only [cond_true]
     rw [hlen]
     simpa using b2
   unfold maxLen
   omega
  refine (pl31_SemiflowMinimal.L1.rng (N := N) _ _ (hw) _ _ N 0  (by have := le_fuel (hw) hN; omega) (Nat.zero_le _)).trans ?_
  rw [List.drop_zero]
  exact pl31_SemiflowMinimal.L1.law (N := N) hN a0 (solveS a0).1 _ h3 h5 hm f hw (fun b => kr b) (kr true) _ 0 rfl
 ·
  have hns : smallA a0 = false := by
   cases hs : smallA a0
   ·
    rfl
   ·
    exact absurd (Fk.solve_small hv hs) he
  rw [c2 he, hns]
  rcases c1 with h | h | h
  ·
   exact absurd h he
  ·
   rw [h]; rfl
  ·
   rw [h]; rfl
theorem pl31_SemiflowMinimal.ok : FentOk P 6 pl31_SemiflowMinimal.fent := fentOk_of (by kernel_rfl) fun ds hk => by
 obtain ⟨a0, l0, rfl, h0⟩ := ds_cons hk
 obtain rfl := ds0 h0
 exact ⟨true, [.dat (.bool) (pl31_SemiflowMinimal.spec a0)], fun h hw => pl31_SemiflowMinimal.calls 18446744073709551616 a0 (pl31_SemiflowMinimal.law (Nat.le_refl _) a0 hw.1 _), fun α k => rfl⟩
theorem semiflowMinimal_calls (x0 : K.T (.sl (.sl (.int .i64)))) (w0 : K.wf (.sl (.sl (.int .i64))) x0) : CallsTo P 6 [⟨.sl (.sl (.int .i64)), x0⟩] [.dat .bool true] := pl31_SemiflowMinimal.calls 18446744073709551616 x0 (pl31_SemiflowMinimal.law (Nat.le_refl _) x0 w0 _)
end Go.VI
