/- What the functions that TransformComplements calls compute: printed out of the interpreter's normal forms (wip/vi/vigen.py) and proved. -/
import Derived.Test.YtlfhhfjlflccgaaDoorVTransformComplements1
import Derived.Test.YtlfhhfjlflccgaaDoorProg
set_option linter.unusedVariables false
set_option linter.unusedSimpArgs false
set_option maxRecDepth 100000
set_option maxHeartbeats 4000000
noncomputable section
namespace Go.VI
open Go Go.Proofs
namespace pf12_may
def an40 : Ann := [(5, [1, 4], [1, 2]), (9, [1, 4, 5, 6], [1, 2, 4]), (17, [1, 7, 8], [2])]
def L0.sh : Sh := { sl := [(1, SV.a (SA.fx (Atom.box 0 0))), (4, SV.a (SA.d (K.int IntKind.i64))), (5, SV.a (SA.d ((K.int IntKind.i64).pr (K.int IntKind.i64)).st.sl)), (6, SV.a (SA.d (K.int IntKind.i64)))], os := [(0, SO.box [SA.d K.str, SA.d (K.str.pr ((K.int IntKind.i64).pr (K.int IntKind.i64))).st.sl, SA.d (K.str.pr (((K.int IntKind.i64).pr (K.int IntKind.i64)).st.sl.pr (((K.int IntKind.i64).pr (K.int IntKind.i64)).st.sl.pr (((K.int IntKind.i64).pr (K.int IntKind.i64)).st.sl.pr (K.int IntKind.i64))))).st.sl])], nx := 1 }
def L0.x0 : Sh := { sl := [(1, SV.a (SA.fx (Atom.box 0 0))), (2, SV.a (SA.d (K.int IntKind.i64))), (4, SV.a (SA.d (K.int IntKind.i64)))], os := [(0, SO.box [SA.d K.str, SA.d (K.str.pr ((K.int IntKind.i64).pr (K.int IntKind.i64))).st.sl, SA.d (K.str.pr (((K.int IntKind.i64).pr (K.int IntKind.i64)).st.sl.pr (((K.int IntKind.i64).pr (K.int IntKind.i64)).st.sl.pr (((K.int IntKind.i64).pr (K.int IntKind.i64)).st.sl.pr (K.int IntKind.i64))))).st.sl])], nx := 1 }
def L0.x1 : Sh := { sl := [(1, SV.a (SA.fx (Atom.box 0 0))), (2, SV.j), (4, SV.a (SA.d (K.int IntKind.i64)))], os := [(0, SO.box [SA.d K.str, SA.d (K.str.pr ((K.int IntKind.i64).pr (K.int IntKind.i64))).st.sl, SA.d (K.str.pr (((K.int IntKind.i64).pr (K.int IntKind.i64)).st.sl.pr (((K.int IntKind.i64).pr (K.int IntKind.i64)).st.sl.pr (((K.int IntKind.i64).pr (K.int IntKind.i64)).st.sl.pr (K.int IntKind.i64))))).st.sl])], nx := 1 }
def L0.st {α : Type} (N : Nat) (x5 : (List (Int × Int))) (x8 : (List (BA × Int × Int))) (φ : (Int → Option α)) (x6 : Int) (k0 : (Int → Option α)) (k1 : Option α) : Option α :=
 cond (decide (x6 < (↑x5.length : Int))) (cond (decide (0 ≤ x6) && decide (x6 < (↑x5.length : Int))) (cond (decide (0 ≤ (x5.getD x6.toNat ((0 : Int), (0 : Int))).fst) && decide ((x5.getD x6.toNat ((0 : Int), (0 : Int))).fst < (↑x8.length : Int))) (cond ((x8.getD (Int.toNat (x5.getD x6.toNat ((0 : Int), (0 : Int))).fst) (eBA, 0, 0)).snd.snd == 0) (k0 (12)) (φ (IntKind.i64.wrap (x6 + 1)))) (none)) (none)) (k1 )
def L0.f {α : Type} (N : Nat) (c1 : (List (Int × Int))) (c3 : (List (BA × Int × Int))) : Nat → Int → (Int → Option α) → Option α → Option α
 | 0, _, _, _ => none
 | n + 1, d0, k0, k1 => L0.st N c1 c3 (fun e0 => L0.f N c1 c3 n e0 k0 k1) d0 k0 k1
def L0.up (d : L0.sh.T) (e0 : Int) : L0.sh.T := (((), (d.1.2.1, (d.1.2.2.1, (e0, ())))), ((d.2.1.1, (d.2.1.2.1, (d.2.1.2.2.1, ()))), ()))
def L0.k0 {α : Type} (d : L0.sh.T) (K : Cont α) : (Int → Option α) := fun y0 => K (Exit.ret) (L0.x0.enc (((), (y0, (d.1.2.1, ()))), ((d.2.1.1, (d.2.1.2.1, (d.2.1.2.2.1, ()))), ())))
def L0.k1 {α : Type} (d : L0.sh.T) (K : Cont α) : Option α := K (Exit.exit 2) (L0.x1.enc (((), ((), (d.1.2.1, ()))), ((d.2.1.1, (d.2.1.2.1, (d.2.1.2.2.1, ()))), ())))
def L0.F {α : Type} (N : Nat) (d : L0.sh.T) (K : Cont α) : Option α := L0.f N d.1.2.2.1 d.2.1.2.1 N d.1.2.2.2.1 (L0.k0 d K) (L0.k1 d K)
def L1.sh : Sh := { sl := [(1, SV.a (SA.fx (Atom.box 0 0))), (4, SV.a (SA.d (K.int IntKind.i64)))], os := [(0, SO.box [SA.d K.str, SA.d (K.str.pr ((K.int IntKind.i64).pr (K.int IntKind.i64))).st.sl, SA.d (K.str.pr (((K.int IntKind.i64).pr (K.int IntKind.i64)).st.sl.pr (((K.int IntKind.i64).pr (K.int IntKind.i64)).st.sl.pr (((K.int IntKind.i64).pr (K.int IntKind.i64)).st.sl.pr (K.int IntKind.i64))))).st.sl])], nx := 1 }
def L1.x0 : Sh := { sl := [(1, SV.a (SA.fx (Atom.box 0 0))), (2, SV.a (SA.d (K.int IntKind.i64)))], os := [(0, SO.box [SA.d K.str, SA.d (K.str.pr ((K.int IntKind.i64).pr (K.int IntKind.i64))).st.sl, SA.d (K.str.pr (((K.int IntKind.i64).pr (K.int IntKind.i64)).st.sl.pr (((K.int IntKind.i64).pr (K.int IntKind.i64)).st.sl.pr (((K.int IntKind.i64).pr (K.int IntKind.i64)).st.sl.pr (K.int IntKind.i64))))).st.sl])], nx := 1 }
def L1.x1 : Sh := { sl := [(1, SV.a (SA.fx (Atom.box 0 0))), (2, SV.j)], os := [(0, SO.box [SA.d K.str, SA.d (K.str.pr ((K.int IntKind.i64).pr (K.int IntKind.i64))).st.sl, SA.d (K.str.pr (((K.int IntKind.i64).pr (K.int IntKind.i64)).st.sl.pr (((K.int IntKind.i64).pr (K.int IntKind.i64)).st.sl.pr (((K.int IntKind.i64).pr (K.int IntKind.i64)).st.sl.pr (K.int IntKind.i64))))).st.sl])], nx := 1 }
def L1.st {α : Type} (N : Nat) (x2 : (List (BA × Int × Int))) (x3 : (List (BA × List (Int × Int) × List (Int × Int) × List (Int × Int) × Int))) (φ : (Int → Option α)) (x0 : Int) (k0 : (Int → Option α)) (k1 : Option α) : Option α :=
 cond (decide (x0 < (↑x3.length : Int))) (cond (decide (0 ≤ x0) && decide (x0 < (↑x3.length : Int))) (L0.f N ((x3.getD x0.toNat (eBA, [], [], [], 0)).snd.snd.snd.fst) (x2) N (0) (fun x10 => k0 (x10)) (φ (IntKind.i64.wrap (x0 + 1)))) (none)) (k1 )
def L1.f {α : Type} (N : Nat) (c1 : (List (BA × Int × Int))) (c2 : (List (BA × List (Int × Int) × List (Int × Int) × List (Int × Int) × Int))) : Nat → Int → (Int → Option α) → Option α → Option α
 | 0, _, _, _ => none
 | n + 1, d0, k0, k1 => L1.st N c1 c2 (fun e0 => L1.f N c1 c2 n e0 k0 k1) d0 k0 k1
def L1.up (d : L1.sh.T) (e0 : Int) : L1.sh.T := (((), (e0, ())), ((d.2.1.1, (d.2.1.2.1, (d.2.1.2.2.1, ()))), ()))
def L1.k0 {α : Type} (d : L1.sh.T) (K : Cont α) : (Int → Option α) := fun y0 => K (Exit.ret) (L1.x0.enc (((), (y0, ())), ((d.2.1.1, (d.2.1.2.1, (d.2.1.2.2.1, ()))), ())))
def L1.k1 {α : Type} (d : L1.sh.T) (K : Cont α) : Option α := K (Exit.exit 0) (L1.x1.enc (((), ((), ())), ((d.2.1.1, (d.2.1.2.1, (d.2.1.2.2.1, ()))), ())))
def L1.F {α : Type} (N : Nat) (d : L1.sh.T) (K : Cont α) : Option α := L1.f N d.2.1.2.1 d.2.1.2.2.1 N d.1.2.1 (L1.k0 d K) (L1.k1 d K)
def L2.sh : Sh := { sl := [(1, SV.a (SA.fx (Atom.box 0 0))), (7, SV.a (SA.fx (Atom.sl 1 0 none))), (8, SV.a (SA.d (K.int IntKind.i64)))], os := [(0, SO.box [SA.d K.str, SA.d (K.str.pr ((K.int IntKind.i64).pr (K.int IntKind.i64))).st.sl, SA.d (K.str.pr (((K.int IntKind.i64).pr (K.int IntKind.i64)).st.sl.pr (((K.int IntKind.i64).pr (K.int IntKind.i64)).st.sl.pr (((K.int IntKind.i64).pr (K.int IntKind.i64)).st.sl.pr (K.int IntKind.i64))))).st.sl]), (1, SO.row (K.int IntKind.i64) 0)], nx := 2 }
def L2.x0 : Sh := { sl := [(2, SV.a (SA.d (K.int IntKind.i64)))], os := [], nx := 0 }
def L2.x1 : Sh := { sl := [(2, SV.j)], os := [], nx := 0 }
def L2.st {α : Type} (N : Nat) (x13 : BA) (x14 : (List (BA × Int × Int))) (x15 : (List (BA × List (Int × Int) × List (Int × Int) × List (Int × Int) × Int))) (x16 : (List Int)) (φ : (Int → Option α)) (x12 : Int) (k0 : (Int → Option α)) (k1 : Option α) : Option α :=
 cond (decide (x12 < (↑x16.length : Int))) (cond (decide (0 ≤ x12) && decide (x12 < (↑x16.length : Int))) (cond (pf12_digits.pre (x16.getD (0 + x12.toNat) 0)) (cond (decide ((ByteArray.mk (#[95])).data.toList.length + (pf12_digits.spec (x16.getD (0 + x12.toNat) 0)).data.toList.length ≤ 1099511627776)) (cond (decide (0 ≤ x12) && decide (x12 < (↑x16.length : Int))) (cond (pf12_digits.pre (x16.getD (0 + x12.toNat) 0)) (cond (decide ((ByteArray.mk (#[95])).data.toList.length + (pf12_digits.spec (x16.getD (0 + x12.toNat) 0)).data.toList.length ≤ 1099511627776)) (cond ((pf12_known.spec (x13, x14, x15) (sCat (ByteArray.mk (#[95])) (pf12_digits.spec (x16.getD (0 + x12.toNat) 0))))) (k0 (6)) (φ (IntKind.i64.wrap (x12 + 1)))) (none)) (none)) (none)) (none)) (none)) (none)) (k1 )
def L2.f {α : Type} (N : Nat) (c0 : BA) (c1 : (List (BA × Int × Int))) (c2 : (List (BA × List (Int × Int) × List (Int × Int) × List (Int × Int) × Int))) (c3 : (List Int)) : Nat → Int → (Int → Option α) → Option α → Option α
 | 0, _, _, _ => none
 | n + 1, d0, k0, k1 => L2.st N c0 c1 c2 c3 (fun e0 => L2.f N c0 c1 c2 c3 n e0 k0 k1) d0 k0 k1
def L2.up (d : L2.sh.T) (e0 : Int) : L2.sh.T := (((), ((), (e0, ()))), ((d.2.1.1, (d.2.1.2.1, (d.2.1.2.2.1, ()))), (d.2.2.1, ())))
def L2.k0 {α : Type} (d : L2.sh.T) (K : Cont α) : (Int → Option α) := fun y0 => K (Exit.ret) (L2.x0.enc ((y0, ()), ()))
def L2.k1 {α : Type} (d : L2.sh.T) (K : Cont α) : Option α := K (Exit.exit 4) (L2.x1.enc (((), ()), ()))
def L2.F {α : Type} (N : Nat) (d : L2.sh.T) (K : Cont α) : Option α := L2.f N d.2.1.1 d.2.1.2.1 d.2.1.2.2.1 d.2.2.1 N d.1.2.2.1 (L2.k0 d K) (L2.k1 d K)
def ents40 {α : Type} (N : Nat) : List (SmE α) := [⟨0, 50, 9, [⟨L0.sh, L0.F N⟩]⟩, ⟨0, 50, 5, [⟨L1.sh, L1.F N⟩]⟩, ⟨0, 50, 17, [⟨L2.sh, L2.F N⟩]⟩]
def C (N : Nat) : Ctx := ⟨tys, [(41, pf12_bounded.fent), (42, pf12_digits.fent), (56, pf09_Check.fent), (66, pf12_known.fent)], [], N⟩
def L0.B {α : Type} (N : Nat) : Env → Cont α → Option α := evC tys 68 0 (evCall (C N) 50) (evCallQ (C N)) N an40 (smL (ents40 N) 0 50) (loopOf 9 Tryd.f40)
theorem L0.r {α : Type} (N : Nat) (φ : Env → Option α) (K : Cont α) (d : L0.sh.T) : L0.B N (L0.sh.enc d) (contL φ K (Env.norm 0 [1, 4, 5, 6]) (Env.norm 0 [1, 2, 4])) = L0.st N d.1.2.2.1 d.2.1.2.1 (fun e0 => φ (L0.sh.enc (L0.up d e0))) d.1.2.2.2.1 (L0.k0 d K) (L0.k1 d K) := by kernel_rfl
theorem L0.e {α : Type} (N : Nat) : ∀ (n : Nat) (d : L0.sh.T) (K : Cont α), evL (L0.B N) (Env.norm 0 [1, 4, 5, 6]) (Env.norm 0 [1, 2, 4]) n (L0.sh.enc d) K = L0.f N d.1.2.2.1 d.2.1.2.1 n d.1.2.2.2.1 (L0.k0 d K) (L0.k1 d K)
 | 0, d, K => rfl
 | n + 1, d, K => evL_contL.trans ((L0.r N _ K d).trans (congrArg (fun φ => L0.st N d.1.2.2.1 d.2.1.2.1 φ d.1.2.2.2.1 (L0.k0 d K) (L0.k1 d K)) (funext fun e0 => L0.e N n (L0.up d e0) K)))
def L1.B {α : Type} (N : Nat) : Env → Cont α → Option α := evC tys 68 0 (evCall (C N) 50) (evCallQ (C N)) N an40 (smL (ents40 N) 0 50) (loopOf 5 Tryd.f40)
theorem L1.r {α : Type} (N : Nat) (φ : Env → Option α) (K : Cont α) (d : L1.sh.T) : L1.B N (L1.sh.enc d) (contL φ K (Env.norm 0 [1, 4]) (Env.norm 0 [1, 2])) = L1.st N d.2.1.2.1 d.2.1.2.2.1 (fun e0 => φ (L1.sh.enc (L1.up d e0))) d.1.2.1 (L1.k0 d K) (L1.k1 d K) := by kernel_rfl
theorem L1.e {α : Type} (N : Nat) : ∀ (n : Nat) (d : L1.sh.T) (K : Cont α), evL (L1.B N) (Env.norm 0 [1, 4]) (Env.norm 0 [1, 2]) n (L1.sh.enc d) K = L1.f N d.2.1.2.1 d.2.1.2.2.1 n d.1.2.1 (L1.k0 d K) (L1.k1 d K)
 | 0, d, K => rfl
 | n + 1, d, K => evL_contL.trans ((L1.r N _ K d).trans (congrArg (fun φ => L1.st N d.2.1.2.1 d.2.1.2.2.1 φ d.1.2.1 (L1.k0 d K) (L1.k1 d K)) (funext fun e0 => L1.e N n (L1.up d e0) K)))
def L2.B {α : Type} (N : Nat) : Env → Cont α → Option α := evC tys 68 0 (evCall (C N) 50) (evCallQ (C N)) N an40 (smL (ents40 N) 0 50) (loopOf 17 Tryd.f40)
theorem L2.r {α : Type} (N : Nat) (φ : Env → Option α) (K : Cont α) (d : L2.sh.T) : L2.B N (L2.sh.enc d) (contL φ K (Env.norm 0 [1, 7, 8]) (Env.norm 0 [2])) = L2.st N d.2.1.1 d.2.1.2.1 d.2.1.2.2.1 d.2.2.1 (fun e0 => φ (L2.sh.enc (L2.up d e0))) d.1.2.2.1 (L2.k0 d K) (L2.k1 d K) := by kernel_rfl
theorem L2.e {α : Type} (N : Nat) : ∀ (n : Nat) (d : L2.sh.T) (K : Cont α), evL (L2.B N) (Env.norm 0 [1, 7, 8]) (Env.norm 0 [2]) n (L2.sh.enc d) K = L2.f N d.2.1.1 d.2.1.2.1 d.2.1.2.2.1 d.2.2.1 n d.1.2.2.1 (L2.k0 d K) (L2.k1 d K)
 | 0, d, K => rfl
 | n + 1, d, K => evL_contL.trans ((L2.r N _ K d).trans (congrArg (fun φ => L2.st N d.2.1.1 d.2.1.2.1 d.2.1.2.2.1 d.2.2.1 φ d.1.2.2.1 (L2.k0 d K) (L2.k1 d K)) (funext fun e0 => L2.e N n (L2.up d e0) K)))
theorem ents40_ok {α : Type} (N : Nat) : AllP (EntOk (C N) Tryd.f40 an40 (ents40 (α := α) N)) (ents40 N) := ⟨entOk_of (b0 := loopOf 9 Tryd.f40) (li0 := [1, 4, 5, 6]) (lx0 := [1, 2, 4]) (by kernel_rfl) (by kernel_rfl) ⟨fun d K => L0.e N N d K, trivial⟩, entOk_of (b0 := loopOf 5 Tryd.f40) (li0 := [1, 4]) (lx0 := [1, 2]) (by kernel_rfl) (by kernel_rfl) ⟨fun d K => L1.e N N d K, trivial⟩, entOk_of (b0 := loopOf 17 Tryd.f40) (li0 := [1, 7, 8]) (lx0 := [2]) (by kernel_rfl) (by kernel_rfl) ⟨fun d K => L2.e N N d K, trivial⟩, trivial⟩
def g {α : Type} (N : Nat) (a0 : BA × List (BA × Int × Int) × List (BA × List (Int × Int) × List (Int × Int) × List (Int × Int) × Int)) (kr : (Int → Option α)) : Option α :=
 cond ((pf09_Check.spec a0).fst != 0) (kr ((pf09_Check.spec a0).fst)) (L1.f N (a0.snd.fst) (a0.snd.snd) N (0) (fun x11 => kr (x11)) (cond (pf12_bounded.pre a0) (cond (decide (24 < IntKind.i64.wrap ((↑(List.length a0.snd.fst) : Int) + (↑(pf12_bounded.spec a0).length : Int)))) (kr (2)) (L2.f N (a0.fst) (a0.snd.fst) (a0.snd.snd) ((pf12_bounded.spec a0)) N (0) (fun x17 => kr (x17)) (kr (0)))) (none)))
theorem eq (N : Nat) (a0 : BA × List (BA × Int × Int) × List (BA × List (Int × Int) × List (Int × Int) × List (Int × Int) × Int)) : evF (C N) 50 Tryd.f40 an40 (smL (ents40 N) 0 50) [((.int .i64 : K), false)] [⟨.st (.pr (.str) (.pr (.sl (.st (.pr (.str) (.pr (.int .i64) (.int .i64))))) (.sl (.st (.pr (.str) (.pr (.sl (.st (.pr (.int .i64) (.int .i64)))) (.pr (.sl (.st (.pr (.int .i64) (.int .i64)))) (.pr (.sl (.st (.pr (.int .i64) (.int .i64)))) (.int .i64))))))))), a0⟩] = g N a0 (fun r0 => some [.dat (K.int IntKind.i64) r0]) := by kernel_rfl
theorem ctxOk (N : Nat) : CtxOk P (C N) := ctxOk_of tysOk mixedOk ⟨pf12_bounded.ok, pf12_digits.ok, pf09_Check.ok, pf12_known.ok, trivial⟩ trivial
theorem calls (N : Nat) (a0 : BA × List (BA × Int × Int) × List (BA × List (Int × Int) × List (Int × Int) × List (Int × Int) × Int)) {rs : List Rs} (h : g N a0 (fun r0 => some [.dat (K.int IntKind.i64) r0]) = some rs) : CallsTo P 40 [⟨.st (.pr (.str) (.pr (.sl (.st (.pr (.str) (.pr (.int .i64) (.int .i64))))) (.sl (.st (.pr (.str) (.pr (.sl (.st (.pr (.int .i64) (.int .i64)))) (.pr (.sl (.st (.pr (.int .i64) (.int .i64)))) (.pr (.sl (.st (.pr (.int .i64) (.int .i64)))) (.int .i64))))))))), a0⟩] rs := evF_calls' (ctxOk N) (by rfl) (ents40_ok N) ((eq N a0).trans h)
def L0.l {α : Type} (N : Nat) (x5 : (List (Int × Int))) (x8 : (List (BA × Int × Int))) (k0 : (Int → Option α)) (k1 : Option α) : List (Int × Int) → Int → Option α
 | [], x6 => k1 
 | x :: l, x6 => (cond (decide (0 ≤ x.fst) && decide (x.fst < (↑x8.length : Int))) (cond ((x8.getD (Int.toNat x.fst) (eBA, 0, 0)).snd.snd == 0) (k0 (12)) (L0.l N x5 x8 k0 k1 l (x6 + 1))) (none))
theorem L0.rng {α : Type} {N : Nat} (x5 : (List (Int × Int))) (x8 : (List (BA × Int × Int))) (hl : x5.length ≤ maxLen) (k0 : (Int → Option α)) (k1 : Option α) : ∀ (n j : Nat), x5.length < n + j → j ≤ x5.length → L0.f N x5 x8 n (j : Int) k0 k1 = L0.l N x5 x8 k0 k1 (x5.drop j) (j : Int) :=
 rng0 x5 hl (fun n i => L0.f N x5 x8 n i k0 k1) (fun l i => L0.l N x5 x8 k0 k1 l i) (fun n j hj h ih => by simp only [L0.f, L0.st, L0.l, h.a, h.b, h.c, h.d, h.e, Bool.true_and, Bool.and_true, Bool.and_self, cond_true, ih] <;> rfl) (fun n j h => by simp only [L0.f, L0.st, L0.l, h, cond_false])
def L1.l {α : Type} (N : Nat) (x2 : (List (BA × Int × Int))) (x3 : (List (BA × List (Int × Int) × List (Int × Int) × List (Int × Int) × Int))) (k0 : (Int → Option α)) (k1 : Option α) : List (BA × List (Int × Int) × List (Int × Int) × List (Int × Int) × Int) → Int → Option α
 | [], x0 => k1 
 | x :: l, x0 => (L0.f N (x.snd.snd.snd.fst) (x2) N (0) (fun x10 => k0 (x10)) (L1.l N x2 x3 k0 k1 l (x0 + 1)))
theorem L1.rng {α : Type} {N : Nat} (x2 : (List (BA × Int × Int))) (x3 : (List (BA × List (Int × Int) × List (Int × Int) × List (Int × Int) × Int))) (hl : x3.length ≤ maxLen) (k0 : (Int → Option α)) (k1 : Option α) : ∀ (n j : Nat), x3.length < n + j → j ≤ x3.length → L1.f N x2 x3 n (j : Int) k0 k1 = L1.l N x2 x3 k0 k1 (x3.drop j) (j : Int) :=
 rng0 x3 hl (fun n i => L1.f N x2 x3 n i k0 k1) (fun l i => L1.l N x2 x3 k0 k1 l i) (fun n j hj h ih => by simp only [L1.f, L1.st, L1.l, h.a, h.b, h.c, h.d, h.e, Bool.true_and, Bool.and_true, Bool.and_self, cond_true, ih] <;> rfl) (fun n j h => by simp only [L1.f, L1.st, L1.l, h, cond_false])
def L2.l {α : Type} (N : Nat) (x13 : BA) (x14 : (List (BA × Int × Int))) (x15 : (List (BA × List (Int × Int) × List (Int × Int) × List (Int × Int) × Int))) (x16 : (List Int)) (k0 : (Int → Option α)) (k1 : Option α) : List Int → Int → Option α
 | [], x12 => k1 
 | x :: l, x12 => (cond (pf12_digits.pre x) (cond (decide ((ByteArray.mk (#[95])).data.toList.length + (pf12_digits.spec x).data.toList.length ≤ 1099511627776)) ((cond (pf12_digits.pre x) (cond (decide ((ByteArray.mk (#[95])).data.toList.length + (pf12_digits.spec x).data.toList.length ≤ 1099511627776)) (cond ((pf12_known.spec (x13, x14, x15) (sCat (ByteArray.mk (#[95])) (pf12_digits.spec x)))) (k0 (6)) (L2.l N x13 x14 x15 x16 k0 k1 l (x12 + 1))) (none)) (none))) (none)) (none))
theorem L2.rng {α : Type} {N : Nat} (x13 : BA) (x14 : (List (BA × Int × Int))) (x15 : (List (BA × List (Int × Int) × List (Int × Int) × List (Int × Int) × Int))) (x16 : (List Int)) (hl : x16.length ≤ maxLen) (k0 : (Int → Option α)) (k1 : Option α) : ∀ (n j : Nat), x16.length < n + j → j ≤ x16.length → L2.f N x13 x14 x15 x16 n (j : Int) k0 k1 = L2.l N x13 x14 x15 x16 k0 k1 (x16.drop j) (j : Int) :=
 rng0 x16 hl (fun n i => L2.f N x13 x14 x15 x16 n i k0 k1) (fun l i => L2.l N x13 x14 x15 x16 k0 k1 l i) (fun n j hj h ih => by simp only [L2.f, L2.st, L2.l, h.a, h.b, h.c, h.d, h.e, Bool.true_and, Bool.and_true, Bool.and_self, cond_true, ih] <;> rfl) (fun n j h => by simp only [L2.f, L2.st, L2.l, h, cond_false])
end pf12_may
theorem pf12_may.L0.law {α : Type} {N : Nat} (x5 : (List (Int × Int))) (x8 : (List (BA × Int × Int))) (k0 : (Int → Option α)) (k1 : Option α) : ∀ (l : List (Int × Int)) (j : Int), (∀ a ∈ l, 0 ≤ a.1 ∧ a.1 < (x8.length : Int)) → pf12_may.L0.l N x5 x8 k0 k1 l j = cond (l.any fun a => (x8.getD (Int.toNat a.1) (eBA, 0, 0)).2.2 == 0) (k0 12) k1
 | [], j, _ => rfl
 | x :: l, j, h => by
  have h0 := h x (by simp)
  rw [pf12_may.L0.l, decide_eq_true h0.1, decide_eq_true h0.2, List.any_cons, pf12_may.L0.law _ _ _ _ l _ fun a ha => h a (by simp [ha])]
  cases (x8.getD (Int.toNat x.1) (eBA, 0, 0)).2.2 == 0 <;> rfl
theorem pf12_may.L1.law {α : Type} {N : Nat} (hN : 18446744073709551616 ≤ N) (x2 : (List (BA × Int × Int))) (x3 : (List (BA × List (Int × Int) × List (Int × Int) × List (Int × Int) × Int))) (k0 : (Int → Option α)) (k1 : Option α) (hx : x2.length ≤ 24) : ∀ (l : List TransT) (j : Int), (∀ t ∈ l, ArcsOk (x2.length : Int) t.2.2.2.1) → pf12_may.L1.l N x2 x3 k0 k1 l j = cond (l.any fun t => t.2.2.2.1.any fun a => (x2.getD (Int.toNat a.1) (eBA, 0, 0)).2.2 == 0) (k0 12) k1
 | [], j, _ => rfl
 | x :: l, j, h => by
  have h0 := h x (by simp)
  have hw : x.2.2.2.1.length ≤ maxLen := by have := h0.short hx; unfold maxLen; omega
  rw [pf12_may.L1.l]
  refine (pf12_may.L0.rng (N := N) _ _ (hw) _ _ N 0  (by have := le_fuel (hw) hN; omega) (Nat.zero_le _)).trans ?_
  refine (pf12_may.L0.law _ _ _ _ _ _ (by simpa using fun a b ha => (h0.rg (a, b) ha).1)).trans ?_
  rw [List.drop_zero, pf12_may.L1.law hN _ _ _ _ hx l _ fun t ht => h t (by simp [ht]), List.any_cons]
  cases (x.2.2.2.1.any _) <;> rfl
theorem pf12_may.L2.law {α : Type} {N : Nat} (x13 : BA) (x14 : (List (BA × Int × Int))) (x15 : (List (BA × List (Int × Int) × List (Int × Int) × List (Int × Int) × Int))) (x16 : (List Int)) (k0 : (Int → Option α)) (k1 : Option α) : ∀ (l : List Int) (j : Int), (∀ i ∈ l, 0 ≤ i ∧ i < 100) → pf12_may.L2.l N x13 x14 x15 x16 k0 k1 l j = cond (l.any fun i => knownN (x13, x14, x15) (cmName i)) (k0 6) k1
 | [], j, _ => rfl
 | x :: l, j, h => by
  rw [pf12_may.L2.l, show pf12_digits.pre x = true from dig_pre (h x (by simp)), show decide ((ByteArray.mk (#[95])).data.toList.length + (pf12_digits.spec x).data.toList.length ≤ 1099511627776) = true from cat_ok x]
  simp only [pf12_digits.spec, pf12_known.spec, cond_true]
  rw [pf12_may.L2.law _ _ _ _ _ _ l _ fun a ha => h a (by simp [ha]), List.any_cons]
  unfold cmName
  cases knownN (x13, x14, x15) (sCat (ByteArray.mk #[95]) (digB x)) <;> rfl
theorem pf12_may.law {α : Type} {N : Nat} (hN : 18446744073709551616 ≤ N) (a0 : BA × (List (BA × Int × Int)) × List (BA × (List (Int × Int)) × (List (Int × Int)) × (List (Int × Int)) × Int)) (w0 : K.wf (.st (.pr (.str) (.pr (.sl (.st (.pr (.str) (.pr (.int .i64) (.int .i64))))) (.sl (.st (.pr (.str) (.pr (.sl (.st (.pr (.int .i64) (.int .i64)))) (.pr (.sl (.st (.pr (.int .i64) (.int .i64)))) (.pr (.sl (.st (.pr (.int .i64) (.int .i64)))) (.int .i64)))))))))) a0) (kr : (Int → Option α)) : pf12_may.g N a0 kr = kr (pf12_may.spec a0) := by
 unfold pf12_may.g pf12_may.spec mayE
 simp only [pf09_Check.spec, bne]
 cases hc : (checkN a0).1 == 0
 ·
  rfl
 have hv := checkN_t.1 hc
 have hnp := hv.np
 simp only [Bool.not_true, cond_false, cond_true]
 refine (pf12_may.L1.rng (N := N) _ _ (w0.2.2.1) _ _ N 0  (by have := le_fuel (w0.2.2.1) hN; omega) (Nat.zero_le _)).trans ?_
 refine (pf12_may.L1.law hN _ _ _ _ hnp.2 _ _ (by simpa using fun t ht => (hv.trans t ht).inh)).trans ?_
 rw [List.drop_zero]
 unfold inhE
 cases (a0.2.2.any _)
 ·
  simp only [cond_false]
  rw [show pf12_bounded.pre a0 = true from bigL_of (by omega), cond_true]
  have hl := bndL_len a0.2.1 0
  rw [show pf12_bounded.spec a0 = bndL 0 a0.2.1 from rfl, wrap_i64 (inI_i64.2 (by omega)), show decide ((24 : Int) < ((a0.2.1.length : Nat) : Int) + (((bndL 0 a0.2.1).length : Nat) : Int)) = decide (24 < a0.2.1.length + (bndL 0 a0.2.1).length) by rw [decide_eq_decide]; omega]
  cases decide (24 < a0.2.1.length + (bndL 0 a0.2.1).length)
  ·
   simp only [cond_false]
   have hw : (bndL 0 a0.2.1).length ≤ maxLen := by unfold maxLen; omega
   refine (pf12_may.L2.rng (N := N) _ _ _ _ (hw) _ _ N 0  (by have := le_fuel (hw) hN; omega) (Nat.zero_le _)).trans ?_
   refine (pf12_may.L2.law _ _ _ _ _ _ _ _ (by rw [List.drop_zero]; exact fun i hi => by have := bndL_mem hi; omega)).trans ?_
   rw [List.drop_zero]
   cases (List.any (bndL 0 a0.2.1) _) <;> rfl
  ·
   rfl
 ·
  rfl
theorem pf12_may.ok : FentOk P 40 pf12_may.fent := fentOk_of (by kernel_rfl) fun ds hk => by
 obtain ⟨a0, l0, rfl, h0⟩ := ds_cons hk
 obtain rfl := ds0 h0
 exact ⟨true, [.dat (.int .i64) (pf12_may.spec a0)], fun h hw => pf12_may.calls 18446744073709551616 a0 (pf12_may.law (Nat.le_refl _) a0 hw.1 _), fun α k => rfl⟩
end Go.VI
namespace Go.VI
open Go Go.Proofs
namespace pf09_Weight
def an43 : Ann := [(2, [0, 1, 5], [4])]
def L0.sh : Sh := { sl := [(0, SV.a (SA.d ((K.int IntKind.i64).pr (K.int IntKind.i64)).st.sl)), (1, SV.a (SA.d (K.int IntKind.i64))), (5, SV.a (SA.d (K.int IntKind.i64)))], os := [], nx := 0 }
def L0.x0 : Sh := { sl := [(4, SV.a (SA.d (K.int IntKind.i64)))], os := [], nx := 0 }
def L0.x1 : Sh := { sl := [(4, SV.j)], os := [], nx := 0 }
def L0.st {α : Type} (N : Nat) (x0 : (List (Int × Int))) (x1 : Int) (φ : (Int → Option α)) (x2 : Int) (k0 : (Int → Option α)) (k1 : Option α) : Option α :=
 cond (decide (x2 < (↑x0.length : Int))) (cond (decide (0 ≤ x2) && decide (x2 < (↑x0.length : Int))) (cond ((x0.getD x2.toNat ((0 : Int), (0 : Int))).fst == x1) (cond (decide (0 ≤ x2) && decide (x2 < (↑x0.length : Int))) (k0 ((x0.getD x2.toNat ((0 : Int), (0 : Int))).snd)) (none)) (φ (IntKind.i64.wrap (x2 + 1)))) (none)) (k1 )
def L0.f {α : Type} (N : Nat) (c0 : (List (Int × Int))) (c1 : Int) : Nat → Int → (Int → Option α) → Option α → Option α
 | 0, _, _, _ => none
 | n + 1, d0, k0, k1 => L0.st N c0 c1 (fun e0 => L0.f N c0 c1 n e0 k0 k1) d0 k0 k1
def L0.up (d : L0.sh.T) (e0 : Int) : L0.sh.T := ((d.1.1, (d.1.2.1, (e0, ()))), ())
def L0.k0 {α : Type} (d : L0.sh.T) (K : Cont α) : (Int → Option α) := fun y0 => K (Exit.ret) (L0.x0.enc ((y0, ()), ()))
def L0.k1 {α : Type} (d : L0.sh.T) (K : Cont α) : Option α := K (Exit.exit 0) (L0.x1.enc (((), ()), ()))
def L0.F {α : Type} (N : Nat) (d : L0.sh.T) (K : Cont α) : Option α := L0.f N d.1.1 d.1.2.1 N d.1.2.2.1 (L0.k0 d K) (L0.k1 d K)
def ents43 {α : Type} (N : Nat) : List (SmE α) := [⟨0, 50, 2, [⟨L0.sh, L0.F N⟩]⟩]
def C (N : Nat) : Ctx := ⟨tys, [], [], N⟩
def L0.B {α : Type} (N : Nat) : Env → Cont α → Option α := evC tys 24 0 (evCall (C N) 50) (evCallQ (C N)) N an43 (smL (ents43 N) 0 50) (loopOf 2 Tryd.f43)
theorem L0.r {α : Type} (N : Nat) (φ : Env → Option α) (K : Cont α) (d : L0.sh.T) : L0.B N (L0.sh.enc d) (contL φ K (Env.norm 0 [0, 1, 5]) (Env.norm 0 [4])) = L0.st N d.1.1 d.1.2.1 (fun e0 => φ (L0.sh.enc (L0.up d e0))) d.1.2.2.1 (L0.k0 d K) (L0.k1 d K) := by kernel_rfl
theorem L0.e {α : Type} (N : Nat) : ∀ (n : Nat) (d : L0.sh.T) (K : Cont α), evL (L0.B N) (Env.norm 0 [0, 1, 5]) (Env.norm 0 [4]) n (L0.sh.enc d) K = L0.f N d.1.1 d.1.2.1 n d.1.2.2.1 (L0.k0 d K) (L0.k1 d K)
 | 0, d, K => rfl
 | n + 1, d, K => evL_contL.trans ((L0.r N _ K d).trans (congrArg (fun φ => L0.st N d.1.1 d.1.2.1 φ d.1.2.2.1 (L0.k0 d K) (L0.k1 d K)) (funext fun e0 => L0.e N n (L0.up d e0) K)))
theorem ents43_ok {α : Type} (N : Nat) : AllP (EntOk (C N) Tryd.f43 an43 (ents43 (α := α) N)) (ents43 N) := ⟨entOk_of (b0 := loopOf 2 Tryd.f43) (li0 := [0, 1, 5]) (lx0 := [4]) (by kernel_rfl) (by kernel_rfl) ⟨fun d K => L0.e N N d K, trivial⟩, trivial⟩
def g {α : Type} (N : Nat) (a0 : List (Int × Int)) (a1 : Int) (kr : (Int → Option α)) : Option α :=
 L0.f N (a0) (a1) N (0) (fun x3 => kr (x3)) (kr (0))
theorem eq (N : Nat) (a0 : List (Int × Int)) (a1 : Int) : evF (C N) 50 Tryd.f43 an43 (smL (ents43 N) 0 50) [((.int .i64 : K), false)] [⟨.sl (.st (.pr (.int .i64) (.int .i64))), a0⟩, ⟨.int .i64, a1⟩] = g N a0 a1 (fun r0 => some [.dat (K.int IntKind.i64) r0]) := by kernel_rfl
theorem ctxOk (N : Nat) : CtxOk P (C N) := ctxOk_of tysOk mixedOk trivial trivial
theorem calls (N : Nat) (a0 : List (Int × Int)) (a1 : Int) {rs : List Rs} (h : g N a0 a1 (fun r0 => some [.dat (K.int IntKind.i64) r0]) = some rs) : CallsTo P 43 [⟨.sl (.st (.pr (.int .i64) (.int .i64))), a0⟩, ⟨.int .i64, a1⟩] rs := evF_calls' (ctxOk N) (by rfl) (ents43_ok N) ((eq N a0 a1).trans h)
def L0.l {α : Type} (N : Nat) (x0 : (List (Int × Int))) (x1 : Int) (k0 : (Int → Option α)) (k1 : Option α) : List (Int × Int) → Int → Option α
 | [], x2 => k1 
 | x :: l, x2 => (cond (x.fst == x1) ((k0 (x.snd))) (L0.l N x0 x1 k0 k1 l (x2 + 1)))
theorem L0.rng {α : Type} {N : Nat} (x0 : (List (Int × Int))) (x1 : Int) (hl : x0.length ≤ maxLen) (k0 : (Int → Option α)) (k1 : Option α) : ∀ (n j : Nat), x0.length < n + j → j ≤ x0.length → L0.f N x0 x1 n (j : Int) k0 k1 = L0.l N x0 x1 k0 k1 (x0.drop j) (j : Int) :=
 rng0 x0 hl (fun n i => L0.f N x0 x1 n i k0 k1) (fun l i => L0.l N x0 x1 k0 k1 l i) (fun n j hj h ih => by simp only [L0.f, L0.st, L0.l, h.a, h.b, h.c, h.d, h.e, Bool.true_and, Bool.and_true, Bool.and_self, cond_true, ih] <;> rfl) (fun n j h => by simp only [L0.f, L0.st, L0.l, h, cond_false])
end pf09_Weight
theorem pf09_Weight.L0.law {α : Type} {N : Nat} (p : Int) (xs : List (Int × Int)) (k0 : Int → Option α) : ∀ (l : List (Int × Int)) (i : Int),
  pf09_Weight.L0.l N xs p k0 (k0 0) l i = k0 (weightS l p)
 | [], i => rfl
 | x :: l, i => by
  rw [pf09_Weight.L0.l, pf09_Weight.L0.law p xs k0 l, weightS]
  cases x.1 == p <;> rfl
theorem pf09_Weight.law {α : Type} {N : Nat} (hN : 18446744073709551616 ≤ N) (a0 : List (Int × Int)) (a1 : Int) (w0 : K.wf (.sl (.st (.pr (.int .i64) (.int .i64)))) a0) (w1 : K.wf (.int .i64) a1) (kr : (Int → Option α)) : pf09_Weight.g N a0 a1 kr = kr (pf09_Weight.spec a0 a1) := by
 unfold pf09_Weight.g pf09_Weight.spec
 refine (pf09_Weight.L0.rng (N := N) a0 a1 w0.1 (fun x => kr x) (kr 0) N 0 (by have := le_fuel w0.1 hN; omega) (Nat.zero_le _)).trans ?_
 rw [List.drop_zero]
 exact pf09_Weight.L0.law a1 a0 (fun x => kr x) a0 0
theorem pf09_Weight.ok : FentOk P 43 pf09_Weight.fent := fentOk_of (by kernel_rfl) fun ds hk => by
 obtain ⟨a0, l0, rfl, h0⟩ := ds_cons hk
 obtain ⟨a1, l1, rfl, h1⟩ := ds_cons h0
 obtain rfl := ds0 h1
 exact ⟨true, [.dat (.int .i64) (pf09_Weight.spec a0 a1)], fun h hw => pf09_Weight.calls 18446744073709551616 a0 a1 (pf09_Weight.law (Nat.le_refl _) a0 a1 hw.1 hw.2.1 _), fun α k => rfl⟩
end Go.VI
namespace Go.VI
open Go Go.Proofs
namespace pf12_Complement
def an14 : Ann := [(7, [1, 2, 5, 6, 7], [1, 2, 5, 6]), (11, [1, 2, 5, 6, 8], [1, 2, 5, 6]), (15, [1, 2, 5, 6, 9], [2, 3, 6]), (22, [1, 2, 5, 6, 9, 10, 11, 12], [1, 2, 3, 5, 6, 9, 11])]
def L0.sh : Sh := { sl := [(1, SV.a (SA.fx (Atom.box 0 0))), (2, SV.a (SA.fx (Atom.box 1 0))), (5, SV.a (SA.fx (Atom.sl 2 0 none))), (6, SV.a (SA.fx (Atom.box 3 0))), (7, SV.a (SA.d (K.int IntKind.i64)))], os := [(0, SO.box [SA.d K.str, SA.d (K.str.pr ((K.int IntKind.i64).pr (K.int IntKind.i64))).st.sl, SA.d (K.str.pr (((K.int IntKind.i64).pr (K.int IntKind.i64)).st.sl.pr (((K.int IntKind.i64).pr (K.int IntKind.i64)).st.sl.pr (((K.int IntKind.i64).pr (K.int IntKind.i64)).st.sl.pr (K.int IntKind.i64))))).st.sl]), (1, SO.box [SA.d K.str, SA.fx (Atom.sl 4 0 none), SA.fx (Atom.sl 5 0 none)]), (2, SO.row (K.int IntKind.i64) 0), (3, SO.box [SA.d K.str, SA.fx (Atom.sl 6 0 none), SA.fx (Atom.sl 7 0 none)]), (4, SO.row (K.str.pr ((K.int IntKind.i64).pr (K.int IntKind.i64))).st 0), (5, SO.row (K.str.pr (((K.int IntKind.i64).pr (K.int IntKind.i64)).st.sl.pr (((K.int IntKind.i64).pr (K.int IntKind.i64)).st.sl.pr (((K.int IntKind.i64).pr (K.int IntKind.i64)).st.sl.pr (K.int IntKind.i64))))).st 0), (6, SO.row (K.str.pr ((K.int IntKind.i64).pr (K.int IntKind.i64))).st 0), (7, SO.row (K.str.pr (((K.int IntKind.i64).pr (K.int IntKind.i64)).st.sl.pr (((K.int IntKind.i64).pr (K.int IntKind.i64)).st.sl.pr (((K.int IntKind.i64).pr (K.int IntKind.i64)).st.sl.pr (K.int IntKind.i64))))).st 0)], nx := 8 }
def L0.x0 : Sh := { sl := [(1, SV.a (SA.fx (Atom.box 0 0))), (2, SV.a (SA.fx (Atom.box 1 0))), (5, SV.a (SA.fx (Atom.sl 2 0 none))), (6, SV.a (SA.fx (Atom.box 3 0)))], os := [(0, SO.box [SA.d K.str, SA.d (K.str.pr ((K.int IntKind.i64).pr (K.int IntKind.i64))).st.sl, SA.d (K.str.pr (((K.int IntKind.i64).pr (K.int IntKind.i64)).st.sl.pr (((K.int IntKind.i64).pr (K.int IntKind.i64)).st.sl.pr (((K.int IntKind.i64).pr (K.int IntKind.i64)).st.sl.pr (K.int IntKind.i64))))).st.sl]), (1, SO.box [SA.d K.str, SA.fx (Atom.sl 4 0 none), SA.fx (Atom.sl 5 0 none)]), (2, SO.row (K.int IntKind.i64) 0), (3, SO.box [SA.d K.str, SA.fx (Atom.sl 6 0 none), SA.fx (Atom.sl 7 0 none)]), (4, SO.row (K.str.pr ((K.int IntKind.i64).pr (K.int IntKind.i64))).st 0), (5, SO.row (K.str.pr (((K.int IntKind.i64).pr (K.int IntKind.i64)).st.sl.pr (((K.int IntKind.i64).pr (K.int IntKind.i64)).st.sl.pr (((K.int IntKind.i64).pr (K.int IntKind.i64)).st.sl.pr (K.int IntKind.i64))))).st 0), (6, SO.row (K.str.pr ((K.int IntKind.i64).pr (K.int IntKind.i64))).st 0), (7, SO.row (K.str.pr (((K.int IntKind.i64).pr (K.int IntKind.i64)).st.sl.pr (((K.int IntKind.i64).pr (K.int IntKind.i64)).st.sl.pr (((K.int IntKind.i64).pr (K.int IntKind.i64)).st.sl.pr (K.int IntKind.i64))))).st 0)], nx := 8 }
def L0.st {α : Type} (N : Nat) (x2 : (List (BA × Int × Int))) (φ : (Int → (List (BA × Int × Int)) → Option α)) (x0 : Int) (x9 : (List (BA × Int × Int))) (k0 : ((List (BA × Int × Int)) → Option α)) : Option α :=
 cond (decide (x0 < (↑x2.length : Int))) (cond (decide (0 ≤ x0) && decide (x0 < (↑x2.length : Int))) (cond (decide (0 ≤ x0) && decide (x0 < (↑x2.length : Int))) (cond ((x9.length + 1).ble mxl) (φ (IntKind.i64.wrap (x0 + 1)) (x9 ++ [((x2.getD x0.toNat (eBA, 0, 0)).fst, (x2.getD x0.toNat (eBA, 0, 0)).snd.fst, 0)])) (none)) (none)) (none)) (k0 (x9))
def L0.f {α : Type} (N : Nat) (c1 : (List (BA × Int × Int))) : Nat → Int → (List (BA × Int × Int)) → ((List (BA × Int × Int)) → Option α) → Option α
 | 0, _, _, _ => none
 | n + 1, d0, d1, k0 => L0.st N c1 (fun e0 e1 => L0.f N c1 n e0 e1 k0) d0 d1 k0
def L0.up (d : L0.sh.T) (e0 : Int) (e1 : (List (BA × Int × Int))) : L0.sh.T := (((), ((), ((), ((), (e0, ()))))), ((d.2.1.1, (d.2.1.2.1, (d.2.1.2.2.1, ()))), ((d.2.2.1.1, ((), ((), ()))), (d.2.2.2.1, ((d.2.2.2.2.1.1, ((), ((), ()))), (d.2.2.2.2.2.1, (d.2.2.2.2.2.2.1, (e1, (d.2.2.2.2.2.2.2.2.1, ())))))))))
def L0.k0 {α : Type} (d : L0.sh.T) (K : Cont α) : ((List (BA × Int × Int)) → Option α) := fun y0 => K (Exit.exit 0) (L0.x0.enc (((), ((), ((), ((), ())))), ((d.2.1.1, (d.2.1.2.1, (d.2.1.2.2.1, ()))), ((d.2.2.1.1, ((), ((), ()))), (d.2.2.2.1, ((d.2.2.2.2.1.1, ((), ((), ()))), (d.2.2.2.2.2.1, (d.2.2.2.2.2.2.1, (y0, (d.2.2.2.2.2.2.2.2.1, ()))))))))))
def L0.F {α : Type} (N : Nat) (d : L0.sh.T) (K : Cont α) : Option α := L0.f N d.2.1.2.1 N d.1.2.2.2.2.1 d.2.2.2.2.2.2.2.1 (L0.k0 d K)
def L1.sh : Sh := { sl := [(1, SV.a (SA.fx (Atom.box 0 0))), (2, SV.a (SA.fx (Atom.box 1 0))), (5, SV.a (SA.fx (Atom.sl 2 0 none))), (6, SV.a (SA.fx (Atom.box 3 0))), (8, SV.a (SA.d (K.int IntKind.i64)))], os := [(0, SO.box [SA.d K.str, SA.d (K.str.pr ((K.int IntKind.i64).pr (K.int IntKind.i64))).st.sl, SA.d (K.str.pr (((K.int IntKind.i64).pr (K.int IntKind.i64)).st.sl.pr (((K.int IntKind.i64).pr (K.int IntKind.i64)).st.sl.pr (((K.int IntKind.i64).pr (K.int IntKind.i64)).st.sl.pr (K.int IntKind.i64))))).st.sl]), (1, SO.box [SA.d K.str, SA.fx (Atom.sl 4 0 none), SA.fx (Atom.sl 5 0 none)]), (2, SO.row (K.int IntKind.i64) 0), (3, SO.box [SA.d K.str, SA.fx (Atom.sl 6 0 none), SA.fx (Atom.sl 7 0 none)]), (4, SO.row (K.str.pr ((K.int IntKind.i64).pr (K.int IntKind.i64))).st 0), (5, SO.row (K.str.pr (((K.int IntKind.i64).pr (K.int IntKind.i64)).st.sl.pr (((K.int IntKind.i64).pr (K.int IntKind.i64)).st.sl.pr (((K.int IntKind.i64).pr (K.int IntKind.i64)).st.sl.pr (K.int IntKind.i64))))).st 0), (6, SO.row (K.str.pr ((K.int IntKind.i64).pr (K.int IntKind.i64))).st 0), (7, SO.row (K.str.pr (((K.int IntKind.i64).pr (K.int IntKind.i64)).st.sl.pr (((K.int IntKind.i64).pr (K.int IntKind.i64)).st.sl.pr (((K.int IntKind.i64).pr (K.int IntKind.i64)).st.sl.pr (K.int IntKind.i64))))).st 0)], nx := 8 }
def L1.x0 : Sh := { sl := [(1, SV.a (SA.fx (Atom.box 0 0))), (2, SV.a (SA.fx (Atom.box 1 0))), (5, SV.a (SA.fx (Atom.sl 2 0 none))), (6, SV.a (SA.fx (Atom.box 3 0)))], os := [(0, SO.box [SA.d K.str, SA.d (K.str.pr ((K.int IntKind.i64).pr (K.int IntKind.i64))).st.sl, SA.d (K.str.pr (((K.int IntKind.i64).pr (K.int IntKind.i64)).st.sl.pr (((K.int IntKind.i64).pr (K.int IntKind.i64)).st.sl.pr (((K.int IntKind.i64).pr (K.int IntKind.i64)).st.sl.pr (K.int IntKind.i64))))).st.sl]), (1, SO.box [SA.d K.str, SA.fx (Atom.sl 4 0 none), SA.fx (Atom.sl 5 0 none)]), (2, SO.row (K.int IntKind.i64) 0), (3, SO.box [SA.d K.str, SA.fx (Atom.sl 6 0 none), SA.fx (Atom.sl 7 0 none)]), (4, SO.row (K.str.pr ((K.int IntKind.i64).pr (K.int IntKind.i64))).st 0), (5, SO.row (K.str.pr (((K.int IntKind.i64).pr (K.int IntKind.i64)).st.sl.pr (((K.int IntKind.i64).pr (K.int IntKind.i64)).st.sl.pr (((K.int IntKind.i64).pr (K.int IntKind.i64)).st.sl.pr (K.int IntKind.i64))))).st 0), (6, SO.row (K.str.pr ((K.int IntKind.i64).pr (K.int IntKind.i64))).st 0), (7, SO.row (K.str.pr (((K.int IntKind.i64).pr (K.int IntKind.i64)).st.sl.pr (((K.int IntKind.i64).pr (K.int IntKind.i64)).st.sl.pr (((K.int IntKind.i64).pr (K.int IntKind.i64)).st.sl.pr (K.int IntKind.i64))))).st 0)], nx := 8 }
def L1.st {α : Type} (N : Nat) (x14 : (List (BA × Int × Int))) (x17 : (List Int)) (φ : (Int → (List (BA × Int × Int)) → Option α)) (x12 : Int) (x21 : (List (BA × Int × Int))) (k0 : ((List (BA × Int × Int)) → Option α)) : Option α :=
 cond (decide (x12 < (↑x17.length : Int))) (cond (decide (0 ≤ x12) && decide (x12 < (↑x17.length : Int))) (cond (pf12_digits.pre (x17.getD (0 + x12.toNat) 0)) (cond (decide ((ByteArray.mk (#[95])).data.toList.length + (pf12_digits.spec (x17.getD (0 + x12.toNat) 0)).data.toList.length ≤ 1099511627776)) (cond (decide (0 ≤ x12) && decide (x12 < (↑x17.length : Int))) (cond (decide (0 ≤ x17.getD (0 + x12.toNat) 0) && decide (x17.getD (0 + x12.toNat) 0 < (↑x14.length : Int))) (cond (decide (0 ≤ x12) && decide (x12 < (↑x17.length : Int))) (cond (decide (0 ≤ x17.getD (0 + x12.toNat) 0) && decide (x17.getD (0 + x12.toNat) 0 < (↑x14.length : Int))) (cond ((x21.length + 1).ble mxl) (cond (decide (0 ≤ x12) && decide (x12 < (↑x17.length : Int))) (cond (pf12_digits.pre (x17.getD (0 + x12.toNat) 0)) (cond (decide ((ByteArray.mk (#[95])).data.toList.length + (pf12_digits.spec (x17.getD (0 + x12.toNat) 0)).data.toList.length ≤ 1099511627776)) (cond (decide (0 ≤ x12) && decide (x12 < (↑x17.length : Int))) (cond (decide (0 ≤ x17.getD (0 + x12.toNat) 0) && decide (x17.getD (0 + x12.toNat) 0 < (↑x14.length : Int))) (cond (decide (0 ≤ x12) && decide (x12 < (↑x17.length : Int))) (cond (decide (0 ≤ x17.getD (0 + x12.toNat) 0) && decide (x17.getD (0 + x12.toNat) 0 < (↑x14.length : Int))) (cond ((x21.length + 1).ble mxl) (φ (IntKind.i64.wrap (x12 + 1)) (x21 ++ [(sCat (ByteArray.mk (#[95])) (pf12_digits.spec (x17.getD (0 + x12.toNat) 0)), IntKind.i64.wrap ((x14.getD (Int.toNat (x17.getD (0 + x12.toNat) 0)) (eBA, 0, 0)).snd.snd - (x14.getD (Int.toNat (x17.getD (0 + x12.toNat) 0)) (eBA, 0, 0)).snd.fst), 0)])) (none)) (none)) (none)) (none)) (none)) (none)) (none)) (none)) (none)) (none)) (none)) (none)) (none)) (none)) (none)) (none)) (k0 (x21))
def L1.f {α : Type} (N : Nat) (c1 : (List (BA × Int × Int))) (c4 : (List Int)) : Nat → Int → (List (BA × Int × Int)) → ((List (BA × Int × Int)) → Option α) → Option α
 | 0, _, _, _ => none
 | n + 1, d0, d1, k0 => L1.st N c1 c4 (fun e0 e1 => L1.f N c1 c4 n e0 e1 k0) d0 d1 k0
def L1.up (d : L1.sh.T) (e0 : Int) (e1 : (List (BA × Int × Int))) : L1.sh.T := (((), ((), ((), ((), (e0, ()))))), ((d.2.1.1, (d.2.1.2.1, (d.2.1.2.2.1, ()))), ((d.2.2.1.1, ((), ((), ()))), (d.2.2.2.1, ((d.2.2.2.2.1.1, ((), ((), ()))), (d.2.2.2.2.2.1, (d.2.2.2.2.2.2.1, (e1, (d.2.2.2.2.2.2.2.2.1, ())))))))))
def L1.k0 {α : Type} (d : L1.sh.T) (K : Cont α) : ((List (BA × Int × Int)) → Option α) := fun y0 => K (Exit.exit 2) (L1.x0.enc (((), ((), ((), ((), ())))), ((d.2.1.1, (d.2.1.2.1, (d.2.1.2.2.1, ()))), ((d.2.2.1.1, ((), ((), ()))), (d.2.2.2.1, ((d.2.2.2.2.1.1, ((), ((), ()))), (d.2.2.2.2.2.1, (d.2.2.2.2.2.2.1, (y0, (d.2.2.2.2.2.2.2.2.1, ()))))))))))
def L1.F {α : Type} (N : Nat) (d : L1.sh.T) (K : Cont α) : Option α := L1.f N d.2.1.2.1 d.2.2.2.1 N d.1.2.2.2.2.1 d.2.2.2.2.2.2.2.1 (L1.k0 d K)
def L2.sh : Sh := { sl := [(1, SV.a (SA.fx (Atom.box 0 0))), (2, SV.a (SA.fx (Atom.box 1 0))), (5, SV.a (SA.fx (Atom.sl 2 0 none))), (6, SV.a (SA.fx (Atom.box 3 0))), (9, SV.a (SA.d (K.int IntKind.i64))), (10, SV.a (SA.fx (Atom.box 4 0))), (11, SV.a (SA.fx (Atom.box 5 0))), (12, SV.a (SA.d (K.int IntKind.i64)))], os := [(0, SO.box [SA.d K.str, SA.d (K.str.pr ((K.int IntKind.i64).pr (K.int IntKind.i64))).st.sl, SA.d (K.str.pr (((K.int IntKind.i64).pr (K.int IntKind.i64)).st.sl.pr (((K.int IntKind.i64).pr (K.int IntKind.i64)).st.sl.pr (((K.int IntKind.i64).pr (K.int IntKind.i64)).st.sl.pr (K.int IntKind.i64))))).st.sl]), (1, SO.box [SA.d K.str, SA.fx (Atom.sl 6 0 none), SA.fx (Atom.sl 7 0 none)]), (2, SO.row (K.int IntKind.i64) 0), (3, SO.box [SA.d K.str, SA.fx (Atom.sl 8 0 none), SA.fx (Atom.sl 9 0 none)]), (4, SO.box [SA.d K.str, SA.d ((K.int IntKind.i64).pr (K.int IntKind.i64)).st.sl, SA.d ((K.int IntKind.i64).pr (K.int IntKind.i64)).st.sl, SA.d ((K.int IntKind.i64).pr (K.int IntKind.i64)).st.sl, SA.d (K.int IntKind.i64)]), (5, SO.box [SA.d K.str, SA.fx (Atom.sl 10 0 none), SA.fx (Atom.sl 11 0 none), SA.fx (Atom.sl 12 0 none), SA.d (K.int IntKind.i64)]), (6, SO.row (K.str.pr ((K.int IntKind.i64).pr (K.int IntKind.i64))).st 0), (7, SO.row (K.str.pr (((K.int IntKind.i64).pr (K.int IntKind.i64)).st.sl.pr (((K.int IntKind.i64).pr (K.int IntKind.i64)).st.sl.pr (((K.int IntKind.i64).pr (K.int IntKind.i64)).st.sl.pr (K.int IntKind.i64))))).st 0), (8, SO.row (K.str.pr ((K.int IntKind.i64).pr (K.int IntKind.i64))).st 0), (9, SO.row (K.str.pr (((K.int IntKind.i64).pr (K.int IntKind.i64)).st.sl.pr (((K.int IntKind.i64).pr (K.int IntKind.i64)).st.sl.pr (((K.int IntKind.i64).pr (K.int IntKind.i64)).st.sl.pr (K.int IntKind.i64))))).st 0), (10, SO.row ((K.int IntKind.i64).pr (K.int IntKind.i64)).st 0), (11, SO.row ((K.int IntKind.i64).pr (K.int IntKind.i64)).st 0), (12, SO.row ((K.int IntKind.i64).pr (K.int IntKind.i64)).st 0)], nx := 13 }
def L2.x0 : Sh := { sl := [(1, SV.a (SA.fx (Atom.box 0 0))), (2, SV.a (SA.fx (Atom.box 1 0))), (3, SV.a (SA.d (K.int IntKind.i64))), (5, SV.a (SA.fx (Atom.sl 2 0 none))), (6, SV.a (SA.fx (Atom.box 3 0))), (9, SV.a (SA.d (K.int IntKind.i64))), (11, SV.a (SA.fx (Atom.box 4 0)))], os := [(0, SO.box [SA.d K.str, SA.d (K.str.pr ((K.int IntKind.i64).pr (K.int IntKind.i64))).st.sl, SA.d (K.str.pr (((K.int IntKind.i64).pr (K.int IntKind.i64)).st.sl.pr (((K.int IntKind.i64).pr (K.int IntKind.i64)).st.sl.pr (((K.int IntKind.i64).pr (K.int IntKind.i64)).st.sl.pr (K.int IntKind.i64))))).st.sl]), (1, SO.box [SA.d K.str, SA.fx (Atom.sl 5 0 none), SA.fx (Atom.sl 6 0 none)]), (2, SO.row (K.int IntKind.i64) 0), (3, SO.box [SA.d K.str, SA.fx (Atom.sl 7 0 none), SA.fx (Atom.sl 8 0 none)]), (4, SO.box [SA.d K.str, SA.fx (Atom.sl 9 0 none), SA.fx (Atom.sl 10 0 none), SA.fx (Atom.sl 11 0 none), SA.d (K.int IntKind.i64)]), (5, SO.row (K.str.pr ((K.int IntKind.i64).pr (K.int IntKind.i64))).st 0), (6, SO.row (K.str.pr (((K.int IntKind.i64).pr (K.int IntKind.i64)).st.sl.pr (((K.int IntKind.i64).pr (K.int IntKind.i64)).st.sl.pr (((K.int IntKind.i64).pr (K.int IntKind.i64)).st.sl.pr (K.int IntKind.i64))))).st 0), (7, SO.row (K.str.pr ((K.int IntKind.i64).pr (K.int IntKind.i64))).st 0), (8, SO.row (K.str.pr (((K.int IntKind.i64).pr (K.int IntKind.i64)).st.sl.pr (((K.int IntKind.i64).pr (K.int IntKind.i64)).st.sl.pr (((K.int IntKind.i64).pr (K.int IntKind.i64)).st.sl.pr (K.int IntKind.i64))))).st 0), (9, SO.row ((K.int IntKind.i64).pr (K.int IntKind.i64)).st 0), (10, SO.row ((K.int IntKind.i64).pr (K.int IntKind.i64)).st 0), (11, SO.row ((K.int IntKind.i64).pr (K.int IntKind.i64)).st 0)], nx := 12 }
def L2.x1 : Sh := { sl := [(1, SV.a (SA.fx (Atom.box 0 0))), (2, SV.a (SA.fx (Atom.box 1 0))), (3, SV.j), (5, SV.a (SA.fx (Atom.sl 2 0 none))), (6, SV.a (SA.fx (Atom.box 3 0))), (9, SV.a (SA.d (K.int IntKind.i64))), (11, SV.a (SA.fx (Atom.box 4 0)))], os := [(0, SO.box [SA.d K.str, SA.d (K.str.pr ((K.int IntKind.i64).pr (K.int IntKind.i64))).st.sl, SA.d (K.str.pr (((K.int IntKind.i64).pr (K.int IntKind.i64)).st.sl.pr (((K.int IntKind.i64).pr (K.int IntKind.i64)).st.sl.pr (((K.int IntKind.i64).pr (K.int IntKind.i64)).st.sl.pr (K.int IntKind.i64))))).st.sl]), (1, SO.box [SA.d K.str, SA.fx (Atom.sl 5 0 none), SA.fx (Atom.sl 6 0 none)]), (2, SO.row (K.int IntKind.i64) 0), (3, SO.box [SA.d K.str, SA.fx (Atom.sl 7 0 none), SA.fx (Atom.sl 8 0 none)]), (4, SO.box [SA.d K.str, SA.fx (Atom.sl 9 0 none), SA.fx (Atom.sl 10 0 none), SA.fx (Atom.sl 11 0 none), SA.d (K.int IntKind.i64)]), (5, SO.row (K.str.pr ((K.int IntKind.i64).pr (K.int IntKind.i64))).st 0), (6, SO.row (K.str.pr (((K.int IntKind.i64).pr (K.int IntKind.i64)).st.sl.pr (((K.int IntKind.i64).pr (K.int IntKind.i64)).st.sl.pr (((K.int IntKind.i64).pr (K.int IntKind.i64)).st.sl.pr (K.int IntKind.i64))))).st 0), (7, SO.row (K.str.pr ((K.int IntKind.i64).pr (K.int IntKind.i64))).st 0), (8, SO.row (K.str.pr (((K.int IntKind.i64).pr (K.int IntKind.i64)).st.sl.pr (((K.int IntKind.i64).pr (K.int IntKind.i64)).st.sl.pr (((K.int IntKind.i64).pr (K.int IntKind.i64)).st.sl.pr (K.int IntKind.i64))))).st 0), (9, SO.row ((K.int IntKind.i64).pr (K.int IntKind.i64)).st 0), (10, SO.row ((K.int IntKind.i64).pr (K.int IntKind.i64)).st 0), (11, SO.row ((K.int IntKind.i64).pr (K.int IntKind.i64)).st 0)], nx := 12 }
def L2.st {α : Type} (N : Nat) (x38 : (List (BA × Int × Int))) (x41 : (List Int)) (x44 : (List (Int × Int))) (x45 : (List (Int × Int))) (x46 : (List (Int × Int))) (φ : (Int → (List (Int × Int)) → (List (Int × Int)) → Option α)) (x36 : Int) (x54 : (List (Int × Int))) (x55 : (List (Int × Int))) (k0 : (Int → BA → (List (BA × Int × Int)) → (List (BA × List (Int × Int) × List (Int × Int) × List (Int × Int) × Int)) → (List (Int × Int)) → (List (Int × Int)) → Option α)) (k1 : ((List (Int × Int)) → (List (Int × Int)) → Option α)) : Option α :=
 cond (decide (x36 < (↑x41.length : Int))) (cond (decide (0 ≤ x36) && decide (x36 < (↑x41.length : Int))) (cond (decide (0 ≤ x36) && decide (x36 < (↑x41.length : Int))) (cond (decide (0 ≤ x36) && decide (x36 < (↑x41.length : Int))) (lt (pf09_Weight.spec x45 (x41.getD (0 + x36.toNat) 0)) fun v6 => cond (decide (0 ≤ x36) && decide (x36 < (↑x41.length : Int))) (lt (pf09_Weight.spec x44 (x41.getD (0 + x36.toNat) 0)) fun v7 => cond (decide (0 ≤ x36) && decide (x36 < (↑x41.length : Int))) (lt (pf09_Weight.spec x46 (x41.getD (0 + x36.toNat) 0)) fun v8 => cond (decide (0 < v8)) (cond (decide (0 ≤ x36) && decide (x36 < (↑x41.length : Int))) (cond (decide (0 ≤ x41.getD (0 + x36.toNat) 0) && decide (x41.getD (0 + x36.toNat) 0 < (↑x38.length : Int))) (cond (decide (99 < imax (imax 0 (IntKind.i64.wrap (v6 - v7))) (IntKind.i64.wrap (IntKind.i64.wrap ((x38.getD (Int.toNat (x41.getD (0 + x36.toNat) 0)) (eBA, 0, 0)).snd.snd - v8) + 1)))) (k0 (9) ((ByteArray.mk (#[]))) ([]) ([]) (x54) (x55)) (cond (decide (99 < IntKind.i64.wrap (imax (imax 0 (IntKind.i64.wrap (v6 - v7))) (IntKind.i64.wrap (IntKind.i64.wrap ((x38.getD (Int.toNat (x41.getD (0 + x36.toNat) 0)) (eBA, 0, 0)).snd.snd - v8) + 1)) - IntKind.i64.wrap (v6 - v7)))) (k0 (9) ((ByteArray.mk (#[]))) ([]) ([]) (x54) (x55)) (cond (decide (0 < imax (imax 0 (IntKind.i64.wrap (v6 - v7))) (IntKind.i64.wrap (IntKind.i64.wrap ((x38.getD (Int.toNat (x41.getD (0 + x36.toNat) 0)) (eBA, 0, 0)).snd.snd - v8) + 1)))) (cond ((x54.length + 1).ble mxl) (cond (decide (0 < IntKind.i64.wrap (imax (imax 0 (IntKind.i64.wrap (v6 - v7))) (IntKind.i64.wrap (IntKind.i64.wrap ((x38.getD (Int.toNat (x41.getD (0 + x36.toNat) 0)) (eBA, 0, 0)).snd.snd - v8) + 1)) - IntKind.i64.wrap (v6 - v7)))) (cond ((x55.length + 1).ble mxl) (φ (IntKind.i64.wrap (x36 + 1)) (x54 ++ [(IntKind.i64.wrap ((↑x38.length : Int) + x36), imax (imax 0 (IntKind.i64.wrap (v6 - v7))) (IntKind.i64.wrap (IntKind.i64.wrap ((x38.getD (Int.toNat (x41.getD (0 + x36.toNat) 0)) (eBA, 0, 0)).snd.snd - v8) + 1)))]) (x55 ++ [(IntKind.i64.wrap ((↑x38.length : Int) + x36), IntKind.i64.wrap (imax (imax 0 (IntKind.i64.wrap (v6 - v7))) (IntKind.i64.wrap (IntKind.i64.wrap ((x38.getD (Int.toNat (x41.getD (0 + x36.toNat) 0)) (eBA, 0, 0)).snd.snd - v8) + 1)) - IntKind.i64.wrap (v6 - v7)))])) (none)) (φ (IntKind.i64.wrap (x36 + 1)) (x54 ++ [(IntKind.i64.wrap ((↑x38.length : Int) + x36), imax (imax 0 (IntKind.i64.wrap (v6 - v7))) (IntKind.i64.wrap (IntKind.i64.wrap ((x38.getD (Int.toNat (x41.getD (0 + x36.toNat) 0)) (eBA, 0, 0)).snd.snd - v8) + 1)))]) (x55))) (none)) (cond (decide (0 < IntKind.i64.wrap (imax (imax 0 (IntKind.i64.wrap (v6 - v7))) (IntKind.i64.wrap (IntKind.i64.wrap ((x38.getD (Int.toNat (x41.getD (0 + x36.toNat) 0)) (eBA, 0, 0)).snd.snd - v8) + 1)) - IntKind.i64.wrap (v6 - v7)))) (cond ((x55.length + 1).ble mxl) (φ (IntKind.i64.wrap (x36 + 1)) (x54) (x55 ++ [(IntKind.i64.wrap ((↑x38.length : Int) + x36), IntKind.i64.wrap (imax (imax 0 (IntKind.i64.wrap (v6 - v7))) (IntKind.i64.wrap (IntKind.i64.wrap ((x38.getD (Int.toNat (x41.getD (0 + x36.toNat) 0)) (eBA, 0, 0)).snd.snd - v8) + 1)) - IntKind.i64.wrap (v6 - v7)))])) (none)) (φ (IntKind.i64.wrap (x36 + 1)) (x54) (x55)))))) (none)) (none)) (cond (decide (99 < imax 0 (IntKind.i64.wrap (v6 - v7)))) (k0 (9) ((ByteArray.mk (#[]))) ([]) ([]) (x54) (x55)) (cond (decide (99 < IntKind.i64.wrap (imax 0 (IntKind.i64.wrap (v6 - v7)) - IntKind.i64.wrap (v6 - v7)))) (k0 (9) ((ByteArray.mk (#[]))) ([]) ([]) (x54) (x55)) (cond (decide (0 < imax 0 (IntKind.i64.wrap (v6 - v7)))) (cond ((x54.length + 1).ble mxl) (cond (decide (0 < IntKind.i64.wrap (imax 0 (IntKind.i64.wrap (v6 - v7)) - IntKind.i64.wrap (v6 - v7)))) (cond ((x55.length + 1).ble mxl) (φ (IntKind.i64.wrap (x36 + 1)) (x54 ++ [(IntKind.i64.wrap ((↑x38.length : Int) + x36), imax 0 (IntKind.i64.wrap (v6 - v7)))]) (x55 ++ [(IntKind.i64.wrap ((↑x38.length : Int) + x36), IntKind.i64.wrap (imax 0 (IntKind.i64.wrap (v6 - v7)) - IntKind.i64.wrap (v6 - v7)))])) (none)) (φ (IntKind.i64.wrap (x36 + 1)) (x54 ++ [(IntKind.i64.wrap ((↑x38.length : Int) + x36), imax 0 (IntKind.i64.wrap (v6 - v7)))]) (x55))) (none)) (cond (decide (0 < IntKind.i64.wrap (imax 0 (IntKind.i64.wrap (v6 - v7)) - IntKind.i64.wrap (v6 - v7)))) (cond ((x55.length + 1).ble mxl) (φ (IntKind.i64.wrap (x36 + 1)) (x54) (x55 ++ [(IntKind.i64.wrap ((↑x38.length : Int) + x36), IntKind.i64.wrap (imax 0 (IntKind.i64.wrap (v6 - v7)) - IntKind.i64.wrap (v6 - v7)))])) (none)) (φ (IntKind.i64.wrap (x36 + 1)) (x54) (x55))))))) (none)) (none)) (none)) (none)) (none)) (k1 (x54) (x55))
def L2.f {α : Type} (N : Nat) (c2 : (List (BA × Int × Int))) (c5 : (List Int)) (c8 : (List (Int × Int))) (c9 : (List (Int × Int))) (c10 : (List (Int × Int))) : Nat → Int → (List (Int × Int)) → (List (Int × Int)) → (Int → BA → (List (BA × Int × Int)) → (List (BA × List (Int × Int) × List (Int × Int) × List (Int × Int) × Int)) → (List (Int × Int)) → (List (Int × Int)) → Option α) → ((List (Int × Int)) → (List (Int × Int)) → Option α) → Option α
 | 0, _, _, _, _, _ => none
 | n + 1, d0, d1, d2, k0, k1 => L2.st N c2 c5 c8 c9 c10 (fun e0 e1 e2 => L2.f N c2 c5 c8 c9 c10 n e0 e1 e2 k0 k1) d0 d1 d2 k0 k1
def L2.up (d : L2.sh.T) (e0 : Int) (e1 : (List (Int × Int))) (e2 : (List (Int × Int))) : L2.sh.T := (((), ((), ((), ((), (d.1.2.2.2.2.1, ((), ((), (e0, ())))))))), ((d.2.1.1, (d.2.1.2.1, (d.2.1.2.2.1, ()))), ((d.2.2.1.1, ((), ((), ()))), (d.2.2.2.1, ((d.2.2.2.2.1.1, ((), ((), ()))), ((d.2.2.2.2.2.1.1, (d.2.2.2.2.2.1.2.1, (d.2.2.2.2.2.1.2.2.1, (d.2.2.2.2.2.1.2.2.2.1, (d.2.2.2.2.2.1.2.2.2.2.1, ()))))), ((d.2.2.2.2.2.2.1.1, ((), ((), ((), (d.2.2.2.2.2.2.1.2.2.2.2.1, ()))))), (d.2.2.2.2.2.2.2.1, (d.2.2.2.2.2.2.2.2.1, (d.2.2.2.2.2.2.2.2.2.1, (d.2.2.2.2.2.2.2.2.2.2.1, (e1, (e2, (d.2.2.2.2.2.2.2.2.2.2.2.2.2.1, ()))))))))))))))
def L2.k0 {α : Type} (d : L2.sh.T) (K : Cont α) : (Int → BA → (List (BA × Int × Int)) → (List (BA × List (Int × Int) × List (Int × Int) × List (Int × Int) × Int)) → (List (Int × Int)) → (List (Int × Int)) → Option α) := fun y0 y1 y2 y3 y4 y5 => K (Exit.ret) (L2.x0.enc (((), ((), (y0, ((), ((), (d.1.2.2.2.2.1, ((), ()))))))), ((d.2.1.1, (d.2.1.2.1, (d.2.1.2.2.1, ()))), ((y1, ((), ((), ()))), (d.2.2.2.1, ((d.2.2.2.2.1.1, ((), ((), ()))), ((d.2.2.2.2.2.2.1.1, ((), ((), ((), (d.2.2.2.2.2.2.1.2.2.2.2.1, ()))))), (y2, (y3, (d.2.2.2.2.2.2.2.2.2.1, (d.2.2.2.2.2.2.2.2.2.2.1, (y4, (y5, (d.2.2.2.2.2.2.2.2.2.2.2.2.2.1, ()))))))))))))))
def L2.k1 {α : Type} (d : L2.sh.T) (K : Cont α) : ((List (Int × Int)) → (List (Int × Int)) → Option α) := fun y0 y1 => K (Exit.exit 6) (L2.x1.enc (((), ((), ((), ((), ((), (d.1.2.2.2.2.1, ((), ()))))))), ((d.2.1.1, (d.2.1.2.1, (d.2.1.2.2.1, ()))), ((d.2.2.1.1, ((), ((), ()))), (d.2.2.2.1, ((d.2.2.2.2.1.1, ((), ((), ()))), ((d.2.2.2.2.2.2.1.1, ((), ((), ((), (d.2.2.2.2.2.2.1.2.2.2.2.1, ()))))), (d.2.2.2.2.2.2.2.1, (d.2.2.2.2.2.2.2.2.1, (d.2.2.2.2.2.2.2.2.2.1, (d.2.2.2.2.2.2.2.2.2.2.1, (y0, (y1, (d.2.2.2.2.2.2.2.2.2.2.2.2.2.1, ()))))))))))))))
def L2.F {α : Type} (N : Nat) (d : L2.sh.T) (K : Cont α) : Option α := L2.f N d.2.1.2.1 d.2.2.2.1 d.2.2.2.2.2.1.2.1 d.2.2.2.2.2.1.2.2.1 d.2.2.2.2.2.1.2.2.2.1 N d.1.2.2.2.2.2.2.2.1 d.2.2.2.2.2.2.2.2.2.2.2.1 d.2.2.2.2.2.2.2.2.2.2.2.2.1 (L2.k0 d K) (L2.k1 d K)
def L3.sh : Sh := { sl := [(1, SV.a (SA.fx (Atom.box 0 0))), (2, SV.a (SA.fx (Atom.box 1 0))), (5, SV.a (SA.fx (Atom.sl 2 0 none))), (6, SV.a (SA.fx (Atom.box 3 0))), (9, SV.a (SA.d (K.int IntKind.i64)))], os := [(0, SO.box [SA.d K.str, SA.d (K.str.pr ((K.int IntKind.i64).pr (K.int IntKind.i64))).st.sl, SA.d (K.str.pr (((K.int IntKind.i64).pr (K.int IntKind.i64)).st.sl.pr (((K.int IntKind.i64).pr (K.int IntKind.i64)).st.sl.pr (((K.int IntKind.i64).pr (K.int IntKind.i64)).st.sl.pr (K.int IntKind.i64))))).st.sl]), (1, SO.box [SA.d K.str, SA.fx (Atom.sl 4 0 none), SA.fx (Atom.sl 5 0 none)]), (2, SO.row (K.int IntKind.i64) 0), (3, SO.box [SA.d K.str, SA.fx (Atom.sl 6 0 none), SA.fx (Atom.sl 7 0 none)]), (4, SO.row (K.str.pr ((K.int IntKind.i64).pr (K.int IntKind.i64))).st 0), (5, SO.row (K.str.pr (((K.int IntKind.i64).pr (K.int IntKind.i64)).st.sl.pr (((K.int IntKind.i64).pr (K.int IntKind.i64)).st.sl.pr (((K.int IntKind.i64).pr (K.int IntKind.i64)).st.sl.pr (K.int IntKind.i64))))).st 0), (6, SO.row (K.str.pr ((K.int IntKind.i64).pr (K.int IntKind.i64))).st 0), (7, SO.row (K.str.pr (((K.int IntKind.i64).pr (K.int IntKind.i64)).st.sl.pr (((K.int IntKind.i64).pr (K.int IntKind.i64)).st.sl.pr (((K.int IntKind.i64).pr (K.int IntKind.i64)).st.sl.pr (K.int IntKind.i64))))).st 0)], nx := 8 }
def L3.x0 : Sh := { sl := [(2, SV.a (SA.fx (Atom.box 0 0))), (3, SV.a (SA.d (K.int IntKind.i64))), (6, SV.a (SA.fx (Atom.box 1 0)))], os := [(0, SO.box [SA.d K.str, SA.fx (Atom.sl 2 0 none), SA.fx (Atom.sl 3 0 none)]), (1, SO.box [SA.d K.str, SA.fx (Atom.sl 4 0 none), SA.fx (Atom.sl 5 0 none)]), (2, SO.row (K.str.pr ((K.int IntKind.i64).pr (K.int IntKind.i64))).st 0), (3, SO.row (K.str.pr (((K.int IntKind.i64).pr (K.int IntKind.i64)).st.sl.pr (((K.int IntKind.i64).pr (K.int IntKind.i64)).st.sl.pr (((K.int IntKind.i64).pr (K.int IntKind.i64)).st.sl.pr (K.int IntKind.i64))))).st 0), (4, SO.row (K.str.pr ((K.int IntKind.i64).pr (K.int IntKind.i64))).st 0), (5, SO.row (K.str.pr (((K.int IntKind.i64).pr (K.int IntKind.i64)).st.sl.pr (((K.int IntKind.i64).pr (K.int IntKind.i64)).st.sl.pr (((K.int IntKind.i64).pr (K.int IntKind.i64)).st.sl.pr (K.int IntKind.i64))))).st 0)], nx := 6 }
def L3.x1 : Sh := { sl := [(2, SV.a (SA.fx (Atom.box 0 0))), (3, SV.j), (6, SV.a (SA.fx (Atom.box 1 0)))], os := [(0, SO.box [SA.d K.str, SA.fx (Atom.sl 2 0 none), SA.fx (Atom.sl 3 0 none)]), (1, SO.box [SA.d K.str, SA.fx (Atom.sl 4 0 none), SA.fx (Atom.sl 5 0 none)]), (2, SO.row (K.str.pr ((K.int IntKind.i64).pr (K.int IntKind.i64))).st 0), (3, SO.row (K.str.pr (((K.int IntKind.i64).pr (K.int IntKind.i64)).st.sl.pr (((K.int IntKind.i64).pr (K.int IntKind.i64)).st.sl.pr (((K.int IntKind.i64).pr (K.int IntKind.i64)).st.sl.pr (K.int IntKind.i64))))).st 0), (4, SO.row (K.str.pr ((K.int IntKind.i64).pr (K.int IntKind.i64))).st 0), (5, SO.row (K.str.pr (((K.int IntKind.i64).pr (K.int IntKind.i64)).st.sl.pr (((K.int IntKind.i64).pr (K.int IntKind.i64)).st.sl.pr (((K.int IntKind.i64).pr (K.int IntKind.i64)).st.sl.pr (K.int IntKind.i64))))).st 0)], nx := 6 }
def L3.st {α : Type} (N : Nat) (x26 : (List (BA × Int × Int))) (x27 : (List (BA × List (Int × Int) × List (Int × Int) × List (Int × Int) × Int))) (x29 : (List Int)) (φ : (Int → (List (BA × List (Int × Int) × List (Int × Int) × List (Int × Int) × Int)) → Option α)) (x24 : Int) (x34 : (List (BA × List (Int × Int) × List (Int × Int) × List (Int × Int) × Int))) (k0 : (Int → BA → (List (BA × Int × Int)) → (List (BA × List (Int × Int) × List (Int × Int) × List (Int × Int) × Int)) → (List (BA × List (Int × Int) × List (Int × Int) × List (Int × Int) × Int)) → Option α)) (k1 : ((List (BA × List (Int × Int) × List (Int × Int) × List (Int × Int) × Int)) → Option α)) : Option α :=
 cond (decide (x24 < (↑x27.length : Int))) (cond (decide (0 ≤ x24) && decide (x24 < (↑x27.length : Int))) (cond ((List.length (x27.getD x24.toNat (eBA, [], [], [], 0)).snd.fst).ble mxl) (cond ((List.length (x27.getD x24.toNat (eBA, [], [], [], 0)).snd.snd.fst).ble mxl) (L2.f N (x26) (x29) ((x27.getD x24.toNat (eBA, [], [], [], 0)).snd.fst) ((x27.getD x24.toNat (eBA, [], [], [], 0)).snd.snd.fst) ((x27.getD x24.toNat (eBA, [], [], [], 0)).snd.snd.snd.fst) N (0) ((x27.getD x24.toNat (eBA, [], [], [], 0)).snd.fst) ((x27.getD x24.toNat (eBA, [], [], [], 0)).snd.snd.fst) (fun x57 x58 x59 x60 x61 x62 => k0 (x57) (x58) (x59) (x60) (x34)) (fun x63 x64 => cond ((x34.length + 1).ble mxl) (φ (IntKind.i64.wrap (x24 + 1)) (x34 ++ [((x27.getD x24.toNat (eBA, [], [], [], 0)).fst, x63, x64, [], (x27.getD x24.toNat (eBA, [], [], [], 0)).snd.snd.snd.snd)])) (none))) (none)) (none)) (none)) (k1 (x34))
def L3.f {α : Type} (N : Nat) (c1 : (List (BA × Int × Int))) (c2 : (List (BA × List (Int × Int) × List (Int × Int) × List (Int × Int) × Int))) (c4 : (List Int)) : Nat → Int → (List (BA × List (Int × Int) × List (Int × Int) × List (Int × Int) × Int)) → (Int → BA → (List (BA × Int × Int)) → (List (BA × List (Int × Int) × List (Int × Int) × List (Int × Int) × Int)) → (List (BA × List (Int × Int) × List (Int × Int) × List (Int × Int) × Int)) → Option α) → ((List (BA × List (Int × Int) × List (Int × Int) × List (Int × Int) × Int)) → Option α) → Option α
 | 0, _, _, _, _ => none
 | n + 1, d0, d1, k0, k1 => L3.st N c1 c2 c4 (fun e0 e1 => L3.f N c1 c2 c4 n e0 e1 k0 k1) d0 d1 k0 k1
def L3.up (d : L3.sh.T) (e0 : Int) (e1 : (List (BA × List (Int × Int) × List (Int × Int) × List (Int × Int) × Int))) : L3.sh.T := (((), ((), ((), ((), (e0, ()))))), ((d.2.1.1, (d.2.1.2.1, (d.2.1.2.2.1, ()))), ((d.2.2.1.1, ((), ((), ()))), (d.2.2.2.1, ((d.2.2.2.2.1.1, ((), ((), ()))), (d.2.2.2.2.2.1, (d.2.2.2.2.2.2.1, (d.2.2.2.2.2.2.2.1, (e1, ())))))))))
def L3.k0 {α : Type} (d : L3.sh.T) (K : Cont α) : (Int → BA → (List (BA × Int × Int)) → (List (BA × List (Int × Int) × List (Int × Int) × List (Int × Int) × Int)) → (List (BA × List (Int × Int) × List (Int × Int) × List (Int × Int) × Int)) → Option α) := fun y0 y1 y2 y3 y4 => K (Exit.ret) (L3.x0.enc (((), (y0, ((), ()))), ((y1, ((), ((), ()))), ((d.2.2.2.2.1.1, ((), ((), ()))), (y2, (y3, (d.2.2.2.2.2.2.2.1, (y4, ()))))))))
def L3.k1 {α : Type} (d : L3.sh.T) (K : Cont α) : ((List (BA × List (Int × Int) × List (Int × Int) × List (Int × Int) × Int)) → Option α) := fun y0 => K (Exit.exit 4) (L3.x1.enc (((), ((), ((), ()))), ((d.2.2.1.1, ((), ((), ()))), ((d.2.2.2.2.1.1, ((), ((), ()))), (d.2.2.2.2.2.1, (d.2.2.2.2.2.2.1, (d.2.2.2.2.2.2.2.1, (y0, ()))))))))
def L3.F {α : Type} (N : Nat) (d : L3.sh.T) (K : Cont α) : Option α := L3.f N d.2.1.2.1 d.2.1.2.2.1 d.2.2.2.1 N d.1.2.2.2.2.1 d.2.2.2.2.2.2.2.2.1 (L3.k0 d K) (L3.k1 d K)
def ents14 {α : Type} (N : Nat) : List (SmE α) := [⟨0, 50, 7, [⟨L0.sh, L0.F N⟩]⟩, ⟨0, 50, 11, [⟨L1.sh, L1.F N⟩]⟩, ⟨0, 50, 22, [⟨L2.sh, L2.F N⟩]⟩, ⟨0, 50, 15, [⟨L3.sh, L3.F N⟩]⟩]
def C (N : Nat) : Ctx := ⟨tys, [(40, pf12_may.fent), (41, pf12_bounded.fent), (42, pf12_digits.fent), (43, pf09_Weight.fent)], [], N⟩
def L0.B {α : Type} (N : Nat) : Env → Cont α → Option α := evC tys 212 0 (evCall (C N) 50) (evCallQ (C N)) N an14 (smL (ents14 N) 0 50) (loopOf 7 Tryd.f14)
theorem L0.r {α : Type} (N : Nat) (φ : Env → Option α) (K : Cont α) (d : L0.sh.T) : L0.B N (L0.sh.enc d) (contL φ K (Env.norm 0 [1, 2, 5, 6, 7]) (Env.norm 0 [1, 2, 5, 6])) = L0.st N d.2.1.2.1 (fun e0 e1 => φ (L0.sh.enc (L0.up d e0 e1))) d.1.2.2.2.2.1 d.2.2.2.2.2.2.2.1 (L0.k0 d K) := by kernel_rfl
theorem L0.e {α : Type} (N : Nat) : ∀ (n : Nat) (d : L0.sh.T) (K : Cont α), evL (L0.B N) (Env.norm 0 [1, 2, 5, 6, 7]) (Env.norm 0 [1, 2, 5, 6]) n (L0.sh.enc d) K = L0.f N d.2.1.2.1 n d.1.2.2.2.2.1 d.2.2.2.2.2.2.2.1 (L0.k0 d K)
 | 0, d, K => rfl
 | n + 1, d, K => evL_contL.trans ((L0.r N _ K d).trans (congrArg (fun φ => L0.st N d.2.1.2.1 φ d.1.2.2.2.2.1 d.2.2.2.2.2.2.2.1 (L0.k0 d K)) (funext fun e0 => funext fun e1 => L0.e N n (L0.up d e0 e1) K)))
def L1.B {α : Type} (N : Nat) : Env → Cont α → Option α := evC tys 212 0 (evCall (C N) 50) (evCallQ (C N)) N an14 (smL (ents14 N) 0 50) (loopOf 11 Tryd.f14)
theorem L1.r {α : Type} (N : Nat) (φ : Env → Option α) (K : Cont α) (d : L1.sh.T) : L1.B N (L1.sh.enc d) (contL φ K (Env.norm 0 [1, 2, 5, 6, 8]) (Env.norm 0 [1, 2, 5, 6])) = L1.st N d.2.1.2.1 d.2.2.2.1 (fun e0 e1 => φ (L1.sh.enc (L1.up d e0 e1))) d.1.2.2.2.2.1 d.2.2.2.2.2.2.2.1 (L1.k0 d K) := by kernel_rfl
theorem L1.e {α : Type} (N : Nat) : ∀ (n : Nat) (d : L1.sh.T) (K : Cont α), evL (L1.B N) (Env.norm 0 [1, 2, 5, 6, 8]) (Env.norm 0 [1, 2, 5, 6]) n (L1.sh.enc d) K = L1.f N d.2.1.2.1 d.2.2.2.1 n d.1.2.2.2.2.1 d.2.2.2.2.2.2.2.1 (L1.k0 d K)
 | 0, d, K => rfl
 | n + 1, d, K => evL_contL.trans ((L1.r N _ K d).trans (congrArg (fun φ => L1.st N d.2.1.2.1 d.2.2.2.1 φ d.1.2.2.2.2.1 d.2.2.2.2.2.2.2.1 (L1.k0 d K)) (funext fun e0 => funext fun e1 => L1.e N n (L1.up d e0 e1) K)))
def L2.B {α : Type} (N : Nat) : Env → Cont α → Option α := evC tys 212 0 (evCall (C N) 50) (evCallQ (C N)) N an14 (smL (ents14 N) 0 50) (loopOf 22 Tryd.f14)
theorem L2.r {α : Type} (N : Nat) (φ : Env → Option α) (K : Cont α) (d : L2.sh.T) : L2.B N (L2.sh.enc d) (contL φ K (Env.norm 0 [1, 2, 5, 6, 9, 10, 11, 12]) (Env.norm 0 [1, 2, 3, 5, 6, 9, 11])) = L2.st N d.2.1.2.1 d.2.2.2.1 d.2.2.2.2.2.1.2.1 d.2.2.2.2.2.1.2.2.1 d.2.2.2.2.2.1.2.2.2.1 (fun e0 e1 e2 => φ (L2.sh.enc (L2.up d e0 e1 e2))) d.1.2.2.2.2.2.2.2.1 d.2.2.2.2.2.2.2.2.2.2.2.1 d.2.2.2.2.2.2.2.2.2.2.2.2.1 (L2.k0 d K) (L2.k1 d K) := by kernel_rfl
theorem L2.e {α : Type} (N : Nat) : ∀ (n : Nat) (d : L2.sh.T) (K : Cont α), evL (L2.B N) (Env.norm 0 [1, 2, 5, 6, 9, 10, 11, 12]) (Env.norm 0 [1, 2, 3, 5, 6, 9, 11]) n (L2.sh.enc d) K = L2.f N d.2.1.2.1 d.2.2.2.1 d.2.2.2.2.2.1.2.1 d.2.2.2.2.2.1.2.2.1 d.2.2.2.2.2.1.2.2.2.1 n d.1.2.2.2.2.2.2.2.1 d.2.2.2.2.2.2.2.2.2.2.2.1 d.2.2.2.2.2.2.2.2.2.2.2.2.1 (L2.k0 d K) (L2.k1 d K)
 | 0, d, K => rfl
 | n + 1, d, K => evL_contL.trans ((L2.r N _ K d).trans (congrArg (fun φ => L2.st N d.2.1.2.1 d.2.2.2.1 d.2.2.2.2.2.1.2.1 d.2.2.2.2.2.1.2.2.1 d.2.2.2.2.2.1.2.2.2.1 φ d.1.2.2.2.2.2.2.2.1 d.2.2.2.2.2.2.2.2.2.2.2.1 d.2.2.2.2.2.2.2.2.2.2.2.2.1 (L2.k0 d K) (L2.k1 d K)) (funext fun e0 => funext fun e1 => funext fun e2 => L2.e N n (L2.up d e0 e1 e2) K)))
def L3.B {α : Type} (N : Nat) : Env → Cont α → Option α := evC tys 212 0 (evCall (C N) 50) (evCallQ (C N)) N an14 (smL (ents14 N) 0 50) (loopOf 15 Tryd.f14)
theorem L3.r {α : Type} (N : Nat) (φ : Env → Option α) (K : Cont α) (d : L3.sh.T) : L3.B N (L3.sh.enc d) (contL φ K (Env.norm 0 [1, 2, 5, 6, 9]) (Env.norm 0 [2, 3, 6])) = L3.st N d.2.1.2.1 d.2.1.2.2.1 d.2.2.2.1 (fun e0 e1 => φ (L3.sh.enc (L3.up d e0 e1))) d.1.2.2.2.2.1 d.2.2.2.2.2.2.2.2.1 (L3.k0 d K) (L3.k1 d K) := by kernel_rfl
theorem L3.e {α : Type} (N : Nat) : ∀ (n : Nat) (d : L3.sh.T) (K : Cont α), evL (L3.B N) (Env.norm 0 [1, 2, 5, 6, 9]) (Env.norm 0 [2, 3, 6]) n (L3.sh.enc d) K = L3.f N d.2.1.2.1 d.2.1.2.2.1 d.2.2.2.1 n d.1.2.2.2.2.1 d.2.2.2.2.2.2.2.2.1 (L3.k0 d K) (L3.k1 d K)
 | 0, d, K => rfl
 | n + 1, d, K => evL_contL.trans ((L3.r N _ K d).trans (congrArg (fun φ => L3.st N d.2.1.2.1 d.2.1.2.2.1 d.2.2.2.1 φ d.1.2.2.2.2.1 d.2.2.2.2.2.2.2.2.1 (L3.k0 d K) (L3.k1 d K)) (funext fun e0 => funext fun e1 => L3.e N n (L3.up d e0 e1) K)))
theorem ents14_ok {α : Type} (N : Nat) : AllP (EntOk (C N) Tryd.f14 an14 (ents14 (α := α) N)) (ents14 N) := ⟨entOk_of (b0 := loopOf 7 Tryd.f14) (li0 := [1, 2, 5, 6, 7]) (lx0 := [1, 2, 5, 6]) (by kernel_rfl) (by kernel_rfl) ⟨fun d K => L0.e N N d K, trivial⟩, entOk_of (b0 := loopOf 11 Tryd.f14) (li0 := [1, 2, 5, 6, 8]) (lx0 := [1, 2, 5, 6]) (by kernel_rfl) (by kernel_rfl) ⟨fun d K => L1.e N N d K, trivial⟩, entOk_of (b0 := loopOf 22 Tryd.f14) (li0 := [1, 2, 5, 6, 9, 10, 11, 12]) (lx0 := [1, 2, 3, 5, 6, 9, 11]) (by kernel_rfl) (by kernel_rfl) ⟨fun d K => L2.e N N d K, trivial⟩, entOk_of (b0 := loopOf 15 Tryd.f14) (li0 := [1, 2, 5, 6, 9]) (lx0 := [2, 3, 6]) (by kernel_rfl) (by kernel_rfl) ⟨fun d K => L3.e N N d K, trivial⟩, trivial⟩
def g {α : Type} (N : Nat) (a0 : BA × List (BA × Int × Int) × List (BA × List (Int × Int) × List (Int × Int) × List (Int × Int) × Int)) (kr : ((BA × List (BA × Int × Int) × List (BA × List (Int × Int) × List (Int × Int) × List (Int × Int) × Int)) → Int → Option α)) : Option α :=
 cond ((pf12_may.spec a0) != 0) (kr (((ByteArray.mk (#[])), [], [])) ((pf12_may.spec a0))) (cond (pf12_bounded.pre a0) (L0.f N (a0.snd.fst) N (0) ([]) (fun x11 => L1.f N (a0.snd.fst) ((pf12_bounded.spec a0)) N (0) (x11) (fun x23 => L3.f N (a0.snd.fst) (a0.snd.snd) ((pf12_bounded.spec a0)) N (0) ([]) (fun x65 x66 x67 x68 x69 => kr ((x66, x67, x68)) (x65)) (fun x70 => kr ((a0.fst, x23, x70)) (0))))) (none))
theorem eq (N : Nat) (a0 : BA × List (BA × Int × Int) × List (BA × List (Int × Int) × List (Int × Int) × List (Int × Int) × Int)) : evF (C N) 50 Tryd.f14 an14 (smL (ents14 N) 0 50) [((.st (.pr (.str) (.pr (.sl (.st (.pr (.str) (.pr (.int .i64) (.int .i64))))) (.sl (.st (.pr (.str) (.pr (.sl (.st (.pr (.int .i64) (.int .i64)))) (.pr (.sl (.st (.pr (.int .i64) (.int .i64)))) (.pr (.sl (.st (.pr (.int .i64) (.int .i64)))) (.int .i64))))))))) : K), false), ((.int .i64 : K), false)] [⟨.st (.pr (.str) (.pr (.sl (.st (.pr (.str) (.pr (.int .i64) (.int .i64))))) (.sl (.st (.pr (.str) (.pr (.sl (.st (.pr (.int .i64) (.int .i64)))) (.pr (.sl (.st (.pr (.int .i64) (.int .i64)))) (.pr (.sl (.st (.pr (.int .i64) (.int .i64)))) (.int .i64))))))))), a0⟩] = g N a0 (fun r0 r1 => some [.dat ((K.str.pr ((K.str.pr ((K.int IntKind.i64).pr (K.int IntKind.i64))).st.sl.pr (K.str.pr (((K.int IntKind.i64).pr (K.int IntKind.i64)).st.sl.pr (((K.int IntKind.i64).pr (K.int IntKind.i64)).st.sl.pr (((K.int IntKind.i64).pr (K.int IntKind.i64)).st.sl.pr (K.int IntKind.i64))))).st.sl)).st) r0, .dat (K.int IntKind.i64) r1]) := by kernel_rfl
theorem ctxOk (N : Nat) : CtxOk P (C N) := ctxOk_of tysOk mixedOk ⟨pf12_may.ok, pf12_bounded.ok, pf12_digits.ok, pf09_Weight.ok, trivial⟩ trivial
theorem calls (N : Nat) (a0 : BA × List (BA × Int × Int) × List (BA × List (Int × Int) × List (Int × Int) × List (Int × Int) × Int)) {rs : List Rs} (h : g N a0 (fun r0 r1 => some [.dat ((K.str.pr ((K.str.pr ((K.int IntKind.i64).pr (K.int IntKind.i64))).st.sl.pr (K.str.pr (((K.int IntKind.i64).pr (K.int IntKind.i64)).st.sl.pr (((K.int IntKind.i64).pr (K.int IntKind.i64)).st.sl.pr (((K.int IntKind.i64).pr (K.int IntKind.i64)).st.sl.pr (K.int IntKind.i64))))).st.sl)).st) r0, .dat (K.int IntKind.i64) r1]) = some rs) : CallsTo P 14 [⟨.st (.pr (.str) (.pr (.sl (.st (.pr (.str) (.pr (.int .i64) (.int .i64))))) (.sl (.st (.pr (.str) (.pr (.sl (.st (.pr (.int .i64) (.int .i64)))) (.pr (.sl (.st (.pr (.int .i64) (.int .i64)))) (.pr (.sl (.st (.pr (.int .i64) (.int .i64)))) (.int .i64))))))))), a0⟩] rs := evF_calls' (ctxOk N) (by rfl) (ents14_ok N) ((eq N a0).trans h)
def L0.l {α : Type} (N : Nat) (x2 : (List (BA × Int × Int))) (k0 : ((List (BA × Int × Int)) → Option α)) : List (BA × Int × Int) → Int → (List (BA × Int × Int)) → Option α
 | [], x0, x9 => k0 (x9)
 | x :: l, x0, x9 => ((cond ((x9.length + 1).ble mxl) (L0.l N x2 k0 l (x0 + 1) (x9 ++ [(x.fst, x.snd.fst, 0)])) (none)))
theorem L0.rng {α : Type} {N : Nat} (x2 : (List (BA × Int × Int))) (hl : x2.length ≤ maxLen) (k0 : ((List (BA × Int × Int)) → Option α)) : ∀ (n j : Nat) (x9 : (List (BA × Int × Int))), x2.length < n + j → j ≤ x2.length → L0.f N x2 n (j : Int) x9 k0 = L0.l N x2 k0 (x2.drop j) (j : Int) x9 :=
 rng1 x2 hl (fun n i x9 => L0.f N x2 n i x9 k0) (fun l i x9 => L0.l N x2 k0 l i x9) (fun n j hj h ih x9 => by simp only [L0.f, L0.st, L0.l, h.a, h.b, h.c, h.d, h.e, Bool.true_and, Bool.and_true, Bool.and_self, cond_true, ih] <;> rfl) (fun n j h x9 => by simp only [L0.f, L0.st, L0.l, h, cond_false])
def L1.l {α : Type} (N : Nat) (x14 : (List (BA × Int × Int))) (x17 : (List Int)) (k0 : ((List (BA × Int × Int)) → Option α)) : List Int → Int → (List (BA × Int × Int)) → Option α
 | [], x12, x21 => k0 (x21)
 | x :: l, x12, x21 => (cond (pf12_digits.pre x) (cond (decide ((ByteArray.mk (#[95])).data.toList.length + (pf12_digits.spec x).data.toList.length ≤ 1099511627776)) ((cond (decide (0 ≤ x) && decide (x < (↑x14.length : Int))) ((cond (decide (0 ≤ x) && decide (x < (↑x14.length : Int))) (cond ((x21.length + 1).ble mxl) ((cond (pf12_digits.pre x) (cond (decide ((ByteArray.mk (#[95])).data.toList.length + (pf12_digits.spec x).data.toList.length ≤ 1099511627776)) ((cond (decide (0 ≤ x) && decide (x < (↑x14.length : Int))) ((cond (decide (0 ≤ x) && decide (x < (↑x14.length : Int))) (cond ((x21.length + 1).ble mxl) (L1.l N x14 x17 k0 l (x12 + 1) (x21 ++ [(sCat (ByteArray.mk (#[95])) (pf12_digits.spec x), IntKind.i64.wrap ((x14.getD (Int.toNat x) (eBA, 0, 0)).snd.snd - (x14.getD (Int.toNat x) (eBA, 0, 0)).snd.fst), 0)])) (none)) (none))) (none))) (none)) (none))) (none)) (none))) (none))) (none)) (none))
theorem L1.rng {α : Type} {N : Nat} (x14 : (List (BA × Int × Int))) (x17 : (List Int)) (hl : x17.length ≤ maxLen) (k0 : ((List (BA × Int × Int)) → Option α)) : ∀ (n j : Nat) (x21 : (List (BA × Int × Int))), x17.length < n + j → j ≤ x17.length → L1.f N x14 x17 n (j : Int) x21 k0 = L1.l N x14 x17 k0 (x17.drop j) (j : Int) x21 :=
 rng1 x17 hl (fun n i x21 => L1.f N x14 x17 n i x21 k0) (fun l i x21 => L1.l N x14 x17 k0 l i x21) (fun n j hj h ih x21 => by simp only [L1.f, L1.st, L1.l, h.a, h.b, h.c, h.d, h.e, Bool.true_and, Bool.and_true, Bool.and_self, cond_true, ih] <;> rfl) (fun n j h x21 => by simp only [L1.f, L1.st, L1.l, h, cond_false])
def L2.l {α : Type} (N : Nat) (x38 : (List (BA × Int × Int))) (x41 : (List Int)) (x44 : (List (Int × Int))) (x45 : (List (Int × Int))) (x46 : (List (Int × Int))) (k0 : (Int → BA → (List (BA × Int × Int)) → (List (BA × List (Int × Int) × List (Int × Int) × List (Int × Int) × Int)) → (List (Int × Int)) → (List (Int × Int)) → Option α)) (k1 : ((List (Int × Int)) → (List (Int × Int)) → Option α)) : List Int → Int → (List (Int × Int)) → (List (Int × Int)) → Option α
 | [], x36, x54, x55 => k1 (x54) (x55)
 | x :: l, x36, x54, x55 => (((lt (pf09_Weight.spec x45 x) fun v6 => (lt (pf09_Weight.spec x44 x) fun v7 => (lt (pf09_Weight.spec x46 x) fun v8 => cond (decide (0 < v8)) ((cond (decide (0 ≤ x) && decide (x < (↑x38.length : Int))) (cond (decide (99 < imax (imax 0 (IntKind.i64.wrap (v6 - v7))) (IntKind.i64.wrap (IntKind.i64.wrap ((x38.getD (Int.toNat x) (eBA, 0, 0)).snd.snd - v8) + 1)))) (k0 (9) ((ByteArray.mk (#[]))) ([]) ([]) (x54) (x55)) (cond (decide (99 < IntKind.i64.wrap (imax (imax 0 (IntKind.i64.wrap (v6 - v7))) (IntKind.i64.wrap (IntKind.i64.wrap ((x38.getD (Int.toNat x) (eBA, 0, 0)).snd.snd - v8) + 1)) - IntKind.i64.wrap (v6 - v7)))) (k0 (9) ((ByteArray.mk (#[]))) ([]) ([]) (x54) (x55)) (cond (decide (0 < imax (imax 0 (IntKind.i64.wrap (v6 - v7))) (IntKind.i64.wrap (IntKind.i64.wrap ((x38.getD (Int.toNat x) (eBA, 0, 0)).snd.snd - v8) + 1)))) (cond ((x54.length + 1).ble mxl) (cond (decide (0 < IntKind.i64.wrap (imax (imax 0 (IntKind.i64.wrap (v6 - v7))) (IntKind.i64.wrap (IntKind.i64.wrap ((x38.getD (Int.toNat x) (eBA, 0, 0)).snd.snd - v8) + 1)) - IntKind.i64.wrap (v6 - v7)))) (cond ((x55.length + 1).ble mxl) (L2.l N x38 x41 x44 x45 x46 k0 k1 l (x36 + 1) (x54 ++ [(IntKind.i64.wrap ((↑x38.length : Int) + x36), imax (imax 0 (IntKind.i64.wrap (v6 - v7))) (IntKind.i64.wrap (IntKind.i64.wrap ((x38.getD (Int.toNat x) (eBA, 0, 0)).snd.snd - v8) + 1)))]) (x55 ++ [(IntKind.i64.wrap ((↑x38.length : Int) + x36), IntKind.i64.wrap (imax (imax 0 (IntKind.i64.wrap (v6 - v7))) (IntKind.i64.wrap (IntKind.i64.wrap ((x38.getD (Int.toNat x) (eBA, 0, 0)).snd.snd - v8) + 1)) - IntKind.i64.wrap (v6 - v7)))])) (none)) (L2.l N x38 x41 x44 x45 x46 k0 k1 l (x36 + 1) (x54 ++ [(IntKind.i64.wrap ((↑x38.length : Int) + x36), imax (imax 0 (IntKind.i64.wrap (v6 - v7))) (IntKind.i64.wrap (IntKind.i64.wrap ((x38.getD (Int.toNat x) (eBA, 0, 0)).snd.snd - v8) + 1)))]) (x55))) (none)) (cond (decide (0 < IntKind.i64.wrap (imax (imax 0 (IntKind.i64.wrap (v6 - v7))) (IntKind.i64.wrap (IntKind.i64.wrap ((x38.getD (Int.toNat x) (eBA, 0, 0)).snd.snd - v8) + 1)) - IntKind.i64.wrap (v6 - v7)))) (cond ((x55.length + 1).ble mxl) (L2.l N x38 x41 x44 x45 x46 k0 k1 l (x36 + 1) (x54) (x55 ++ [(IntKind.i64.wrap ((↑x38.length : Int) + x36), IntKind.i64.wrap (imax (imax 0 (IntKind.i64.wrap (v6 - v7))) (IntKind.i64.wrap (IntKind.i64.wrap ((x38.getD (Int.toNat x) (eBA, 0, 0)).snd.snd - v8) + 1)) - IntKind.i64.wrap (v6 - v7)))])) (none)) (L2.l N x38 x41 x44 x45 x46 k0 k1 l (x36 + 1) (x54) (x55)))))) (none))) (cond (decide (99 < imax 0 (IntKind.i64.wrap (v6 - v7)))) (k0 (9) ((ByteArray.mk (#[]))) ([]) ([]) (x54) (x55)) (cond (decide (99 < IntKind.i64.wrap (imax 0 (IntKind.i64.wrap (v6 - v7)) - IntKind.i64.wrap (v6 - v7)))) (k0 (9) ((ByteArray.mk (#[]))) ([]) ([]) (x54) (x55)) (cond (decide (0 < imax 0 (IntKind.i64.wrap (v6 - v7)))) (cond ((x54.length + 1).ble mxl) (cond (decide (0 < IntKind.i64.wrap (imax 0 (IntKind.i64.wrap (v6 - v7)) - IntKind.i64.wrap (v6 - v7)))) (cond ((x55.length + 1).ble mxl) (L2.l N x38 x41 x44 x45 x46 k0 k1 l (x36 + 1) (x54 ++ [(IntKind.i64.wrap ((↑x38.length : Int) + x36), imax 0 (IntKind.i64.wrap (v6 - v7)))]) (x55 ++ [(IntKind.i64.wrap ((↑x38.length : Int) + x36), IntKind.i64.wrap (imax 0 (IntKind.i64.wrap (v6 - v7)) - IntKind.i64.wrap (v6 - v7)))])) (none)) (L2.l N x38 x41 x44 x45 x46 k0 k1 l (x36 + 1) (x54 ++ [(IntKind.i64.wrap ((↑x38.length : Int) + x36), imax 0 (IntKind.i64.wrap (v6 - v7)))]) (x55))) (none)) (cond (decide (0 < IntKind.i64.wrap (imax 0 (IntKind.i64.wrap (v6 - v7)) - IntKind.i64.wrap (v6 - v7)))) (cond ((x55.length + 1).ble mxl) (L2.l N x38 x41 x44 x45 x46 k0 k1 l (x36 + 1) (x54) (x55 ++ [(IntKind.i64.wrap ((↑x38.length : Int) + x36), IntKind.i64.wrap (imax 0 (IntKind.i64.wrap (v6 - v7)) - IntKind.i64.wrap (v6 - v7)))])) (none)) (L2.l N x38 x41 x44 x45 x46 k0 k1 l (x36 + 1) (x54) (x55)))))))))))
theorem L2.rng {α : Type} {N : Nat} (x38 : (List (BA × Int × Int))) (x41 : (List Int)) (x44 : (List (Int × Int))) (x45 : (List (Int × Int))) (x46 : (List (Int × Int))) (hl : x41.length ≤ maxLen) (k0 : (Int → BA → (List (BA × Int × Int)) → (List (BA × List (Int × Int) × List (Int × Int) × List (Int × Int) × Int)) → (List (Int × Int)) → (List (Int × Int)) → Option α)) (k1 : ((List (Int × Int)) → (List (Int × Int)) → Option α)) : ∀ (n j : Nat) (x54 : (List (Int × Int))) (x55 : (List (Int × Int))), x41.length < n + j → j ≤ x41.length → L2.f N x38 x41 x44 x45 x46 n (j : Int) x54 x55 k0 k1 = L2.l N x38 x41 x44 x45 x46 k0 k1 (x41.drop j) (j : Int) x54 x55 :=
 rng2 x41 hl (fun n i x54 x55 => L2.f N x38 x41 x44 x45 x46 n i x54 x55 k0 k1) (fun l i x54 x55 => L2.l N x38 x41 x44 x45 x46 k0 k1 l i x54 x55) (fun n j hj h ih x54 x55 => by simp only [L2.f, L2.st, L2.l, h.a, h.b, h.c, h.d, h.e, Bool.true_and, Bool.and_true, Bool.and_self, cond_true, ih] <;> rfl) (fun n j h x54 x55 => by simp only [L2.f, L2.st, L2.l, h, cond_false])
def L3.l {α : Type} (N : Nat) (x26 : (List (BA × Int × Int))) (x27 : (List (BA × List (Int × Int) × List (Int × Int) × List (Int × Int) × Int))) (x29 : (List Int)) (k0 : (Int → BA → (List (BA × Int × Int)) → (List (BA × List (Int × Int) × List (Int × Int) × List (Int × Int) × Int)) → (List (BA × List (Int × Int) × List (Int × Int) × List (Int × Int) × Int)) → Option α)) (k1 : ((List (BA × List (Int × Int) × List (Int × Int) × List (Int × Int) × Int)) → Option α)) : List (BA × List (Int × Int) × List (Int × Int) × List (Int × Int) × Int) → Int → (List (BA × List (Int × Int) × List (Int × Int) × List (Int × Int) × Int)) → Option α
 | [], x24, x34 => k1 (x34)
 | x :: l, x24, x34 => (cond ((List.length x.snd.fst).ble mxl) (cond ((List.length x.snd.snd.fst).ble mxl) (L2.f N (x26) (x29) (x.snd.fst) (x.snd.snd.fst) (x.snd.snd.snd.fst) N (0) (x.snd.fst) (x.snd.snd.fst) (fun x57 x58 x59 x60 x61 x62 => k0 (x57) (x58) (x59) (x60) (x34)) (fun x63 x64 => cond ((x34.length + 1).ble mxl) (L3.l N x26 x27 x29 k0 k1 l (x24 + 1) (x34 ++ [(x.fst, x63, x64, [], x.snd.snd.snd.snd)])) (none))) (none)) (none))
theorem L3.rng {α : Type} {N : Nat} (x26 : (List (BA × Int × Int))) (x27 : (List (BA × List (Int × Int) × List (Int × Int) × List (Int × Int) × Int))) (x29 : (List Int)) (hl : x27.length ≤ maxLen) (k0 : (Int → BA → (List (BA × Int × Int)) → (List (BA × List (Int × Int) × List (Int × Int) × List (Int × Int) × Int)) → (List (BA × List (Int × Int) × List (Int × Int) × List (Int × Int) × Int)) → Option α)) (k1 : ((List (BA × List (Int × Int) × List (Int × Int) × List (Int × Int) × Int)) → Option α)) : ∀ (n j : Nat) (x34 : (List (BA × List (Int × Int) × List (Int × Int) × List (Int × Int) × Int))), x27.length < n + j → j ≤ x27.length → L3.f N x26 x27 x29 n (j : Int) x34 k0 k1 = L3.l N x26 x27 x29 k0 k1 (x27.drop j) (j : Int) x34 :=
 rng1 x27 hl (fun n i x34 => L3.f N x26 x27 x29 n i x34 k0 k1) (fun l i x34 => L3.l N x26 x27 x29 k0 k1 l i x34) (fun n j hj h ih x34 => by simp only [L3.f, L3.st, L3.l, h.a, h.b, h.c, h.d, h.e, Bool.true_and, Bool.and_true, Bool.and_self, cond_true, ih] <;> rfl) (fun n j h x34 => by simp only [L3.f, L3.st, L3.l, h, cond_false])
end pf12_Complement
theorem pf12_Complement.L0.law {α : Type} {N : Nat} (x2 : (List (BA × Int × Int))) (k0 : ((List (BA × Int × Int)) → Option α)) : ∀ (l : List PlaceT) (j : Int) (acc : List PlaceT), acc.length + l.length ≤ 1000 → pf12_Complement.L0.l N x2 k0 l j acc = k0 (acc ++ l.map fun p => (p.1, p.2.1, 0))
 | [], j, acc, _ => by rw [pf12_Complement.L0.l, List.map_nil, List.append_nil]
 | x :: l, j, acc, h0 => by
  simp only [List.length_cons] at h0
  rw [pf12_Complement.L0.l, ble1 _ (by omega), cond_true, pf12_Complement.L0.law _ _ l _ _ (by simp; omega), List.append_assoc]
  rfl
theorem pf12_Complement.L1.law {α : Type} {N : Nat} (x14 : (List (BA × Int × Int))) (x17 : (List Int)) (k0 : ((List (BA × Int × Int)) → Option α)) (h14 : x14.length ≤ 24) : ∀ (ps q : List PlaceT) (j : Int) (acc : List PlaceT), x14 = q ++ ps → acc.length + ps.length ≤ 1000 → (∀ p ∈ ps, PlaceOk p) → pf12_Complement.L1.l N x14 x17 k0 (bndL (q.length : Int) ps) j acc = k0 (acc ++ cmPlaces (q.length : Int) ps)
 | [], q, j, acc, _, _, _ => by rw [bndL, pf12_Complement.L1.l, cmPlaces, List.append_nil]
 | p :: ps, q, j, acc, hx, h0, hp => by
  simp only [List.length_cons] at h0
  have hpo := hp p (by simp)
  have e1 : ((q.length : Int) + 1) = (((q ++ [p]).length : Nat) : Int) := by simp
  have hx' : x14 = (q ++ [p]) ++ ps := by rw [hx]; simp
  have hps : ∀ p ∈ ps, PlaceOk p := fun u hu => hp u (by simp [hu])
  rw [bndL, cmPlaces, pos_cap hpo.cap.1, e1]
  cases p.2.2 == 0
  ·
   simp only [Bool.not_false, cond_true, cond_false]
   have hj : q.length < x14.length := by rw [hx]; simp
   have hg : ∀ z, x14.getD (Int.toNat (q.length : Int)) z = p := fun z => by rw [getD_at hj]; simp [hx]
   have hc := hpo.cap
   have hi := hpo.init
   rw [pf12_Complement.L1.l, show pf12_digits.pre (q.length : Int) = true from dig_pre (by omega), show decide ((ByteArray.mk (#[95])).data.toList.length + (pf12_digits.spec (q.length : Int)).data.toList.length ≤ 1099511627776) = true from cat_ok _, ble1 _ (by omega)]
   simp only [pf12_digits.spec, d_0, d_lt hj, hg, Bool.and_self, cond_true]
   rw [ wrap_i64 (inI_i64.2 (by omega)), pf12_Complement.L1.law _ _ _ h14 ps (q ++ [p]) _ _ hx' (by simp; omega) hps, List.append_assoc]
   rfl
  ·
   simp only [Bool.not_true, cond_true, cond_false]
   exact pf12_Complement.L1.law _ _ _ h14 ps (q ++ [p]) _ _ hx' (by omega) hps
theorem pf12_Complement.L2.law {α : Type} {N : Nat} (x38 : (List (BA × Int × Int))) (x41 : (List Int)) (x44 : (List (Int × Int))) (x45 : (List (Int × Int))) (x46 : (List (Int × Int))) (k0 : (Int → BA → (List (BA × Int × Int)) → (List (BA × List (Int × Int) × List (Int × Int) × List (Int × Int) × Int)) → (List (Int × Int)) → (List (Int × Int)) → Option α)) (k1 : ((List (Int × Int)) → (List (Int × Int)) → Option α)) {t : TransT} (h44 : x44 = t.2.1) (h45 : x45 = t.2.2.1) (h46 : x46 = t.2.2.2.1) (ht : TransOk (x38.length : Int) t) (h38 : x38.length ≤ 24) {R : Option α} (hk : ∀ a b, k0 9 (ByteArray.mk #[]) [] [] a b = R) : ∀ (ps q : List PlaceT) (j : Int) (pre post : List (Int × Int)), x38 = q ++ ps → 0 ≤ j → j ≤ q.length → pre.length + ps.length ≤ 1000 → post.length + ps.length ≤ 1000 → (∀ p ∈ ps, PlaceOk p) →
  pf12_Complement.L2.l N x38 x41 x44 x45 x46 k0 k1 (bndL (q.length : Int) ps) j pre post = cond (badT t ((x38.length : Int) + j) (q.length : Int) ps) R (k1 (pre ++ compPre t ((x38.length : Int) + j) (q.length : Int) ps) (post ++ compPost t ((x38.length : Int) + j) (q.length : Int) ps))
 | [], q, j, pre, post, _, _, _, _, _, _ => by
  rw [bndL, pf12_Complement.L2.l, compPre, compPost, List.append_nil, List.append_nil]
  rfl
 | p :: ps, q, j, pre, post, hx, hj0, hj1, h1, h2, hp => by
  simp only [List.length_cons] at h1 h2
  have hpo := hp p (by simp)
  have e1 : ((q.length : Int) + 1) = (((q ++ [p]).length : Nat) : Int) := by simp
  have hx' : x38 = (q ++ [p]) ++ ps := by rw [hx]; simp
  have hps : ∀ p ∈ ps, PlaceOk p := fun u hu => hp u (by simp [hu])
  have hkr := compK_rg ht (i := (q.length : Int)) hpo.cap
  have hw1 := ht.pre.wt (q.length : Int)
  have hw2 := ht.post.wt (q.length : Int)
  have hw3 := ht.inh.wt (q.length : Int)
  have hc := hpo.cap
  have ih := fun j pre post => pf12_Complement.L2.law (N := N) x38 x41 x44 x45 x46 k0 k1 h44 h45 h46 ht h38 hk ps (q ++ [p]) j pre post hx'
  rw [← e1] at ih
  rw [bndL, pos_cap hpo.cap.1]
  cases hz : p.2.2 == 0
  ·
   rw [bad_cons hz hkr.1, compPre, compPost, hz]
   simp only [Bool.not_false, cond_true, cond_false]
   have hj : q.length < x38.length := by rw [hx]; simp
   have hg : ∀ z, x38.getD (Int.toNat (q.length : Int)) z = p := fun z => by rw [getD_at hj]; simp [hx]
   have n1 : IntKind.i64.wrap (weightS t.2.2.1 (q.length : Int) - weightS t.2.1 (q.length : Int)) = compD t (q.length : Int) := by rw [wrap_i64 (inI_i64.2 (by omega))]; rfl
   have n2 : IntKind.i64.wrap (p.2.2 - weightS t.2.2.2.1 (q.length : Int)) = p.2.2 - weightS t.2.2.2.1 (q.length : Int) := wrap_i64 (inI_i64.2 (by omega))
   have n3 : IntKind.i64.wrap (p.2.2 - weightS t.2.2.2.1 (q.length : Int) + 1) = p.2.2 - weightS t.2.2.2.1 (q.length : Int) + 1 := wrap_i64 (inI_i64.2 (by omega))
   have n4 : IntKind.i64.wrap (compK t (q.length : Int) p.2.2 - compD t (q.length : Int)) = compK t (q.length : Int) p.2.2 - compD t (q.length : Int) := wrap_i64 (inI_i64.2 (by omega))
   have n5 : IntKind.i64.wrap ((x38.length : Int) + j) = (x38.length : Int) + j := wrap_i64 (inI_i64.2 (by omega))
   have n6 : decide (0 < compK t (q.length : Int) p.2.2 - compD t (q.length : Int)) = decide (compD t (q.length : Int) < compK t (q.length : Int) p.2.2) := by rw [decide_eq_decide]; omega
   have n7 : (x38.length : Int) + (j + 1) = (x38.length : Int) + j + 1 := by omega
   have b1 := ble1 pre (by omega)
   have b2 := ble1 post (by omega)
   have ih' := fun (pr po : List (Int × Int)) (a : pr.length + ps.length ≤ 1000) (b : po.length + ps.length ≤ 1000) => ih (j + 1) pr po (by omega) (by first | omega | (simp; omega)) a b hps
   rw [n7] at ih'
   rw [pf12_Complement.L2.l]
   subst h44 h45 h46
   simp only [lt, show ∀ l i, pf09_Weight.spec l i = weightS l i from fun _ _ => rfl, n1, n2, n3, n5, d_0, d_lt hj, hg, Bool.and_self, cond_true, b1, b2, hk]
   have fin : ∀ K, K = compK t (q.length : Int) p.2.2 → cond (decide (99 < K)) R (cond (decide (99 < IntKind.i64.wrap (K - compD t (q.length : Int)))) R (cond (decide (0 < K)) (cond (decide (0 < IntKind.i64.wrap (K - compD t (q.length : Int)))) (pf12_Complement.L2.l N x38 x41 t.2.1 t.2.2.1 t.2.2.2.1 k0 k1 (bndL ((q.length : Int) + 1) ps) (j + 1) (pre ++ [((x38.length : Int) + j, K)]) (post ++ [((x38.length : Int) + j, IntKind.i64.wrap (K - compD t (q.length : Int)))])) (pf12_Complement.L2.l N x38 x41 t.2.1 t.2.2.1 t.2.2.2.1 k0 k1 (bndL ((q.length : Int) + 1) ps) (j + 1) (pre ++ [((x38.length : Int) + j, K)]) post)) (cond (decide (0 < IntKind.i64.wrap (K - compD t (q.length : Int)))) (pf12_Complement.L2.l N x38 x41 t.2.1 t.2.2.1 t.2.2.2.1 k0 k1 (bndL ((q.length : Int) + 1) ps) (j + 1) pre (post ++ [((x38.length : Int) + j, IntKind.i64.wrap (K - compD t (q.length : Int)))])) (pf12_Complement.L2.l N x38 x41 t.2.1 t.2.2.1 t.2.2.2.1 k0 k1 (bndL ((q.length : Int) + 1) ps) (j + 1) pre post)))) = cond (decide (99 < compK t (q.length : Int) p.2.2) || (decide (99 < compK t (q.length : Int) p.2.2 - compD t (q.length : Int)) || badT t ((x38.length : Int) + j + 1) ((q.length : Int) + 1) ps)) R (k1 (pre ++ cond (decide (0 < compK t (q.length : Int) p.2.2)) (((x38.length : Int) + j, compK t (q.length : Int) p.2.2) :: compPre t ((x38.length : Int) + j + 1) ((q.length : Int) + 1) ps) (compPre t ((x38.length : Int) + j + 1) ((q.length : Int) + 1) ps)) (post ++ cond (decide (compD t (q.length : Int) < compK t (q.length : Int) p.2.2)) (((x38.length : Int) + j, compK t (q.length : Int) p.2.2 - compD t (q.length : Int)) :: compPost t ((x38.length : Int) + j + 1) ((q.length : Int) + 1) ps) (compPost t ((x38.length : Int) + j + 1) ((q.length : Int) + 1) ps))) := by
    rintro K rfl
    rw [n4, n6]
    cases decide (99 < compK t (q.length : Int) p.2.2)
    ·
     cases decide (99 < compK t (q.length : Int) p.2.2 - compD t (q.length : Int))
     ·
      simp only [cond_false, Bool.false_or]
      cases decide (0 < compK t (q.length : Int) p.2.2)
      ·
       cases decide (compD t (q.length : Int) < compK t (q.length : Int) p.2.2)
       ·
        simp only [cond_false]
        rw [ih' _ _ (by omega) (by omega)]
       ·
        simp only [cond_false, cond_true]
        rw [ih' _ _ (by omega) (by simp; omega), List.append_assoc]
        rfl
      ·
       cases decide (compD t (q.length : Int) < compK t (q.length : Int) p.2.2)
       ·
        simp only [cond_false, cond_true]
        rw [ih' _ _ (by simp; omega) (by omega), List.append_assoc]
        rfl
       ·
        simp only [cond_true]
        rw [ih' _ _ (by simp; omega) (by simp; omega), List.append_assoc, List.append_assoc]
        rfl
     ·
      rfl
    ·
     rfl
   by_cases hv : 0 < weightS t.2.2.2.1 (q.length : Int)
   ·
    have hK : imax (imax 0 (compD t (q.length : Int))) (p.2.2 - weightS t.2.2.2.1 (q.length : Int) + 1) = compK t (q.length : Int) p.2.2 := by
     unfold compK compD; rw [imax_max, imax_max, decide_eq_true hv, cond_true]
    rw [decide_eq_true hv, cond_true]
    exact fin _ hK
   ·
    have hK : imax 0 (compD t (q.length : Int)) = compK t (q.length : Int) p.2.2 := by
     unfold compK compD; rw [imax_max, decide_eq_false hv, cond_false]
    rw [decide_eq_false hv, cond_false]
    exact fin _ hK
  ·
   have hb : badT t ((x38.length : Int) + j) (q.length : Int) (p :: ps) = badT t ((x38.length : Int) + j) ((q.length : Int) + 1) ps := by
    unfold badT; rw [compPre, compPost, hz, cond_true, cond_true]
   rw [hb, compPre, compPost, hz]
   simp only [Bool.not_true, cond_true, cond_false]
   exact ih j pre post hj0 (by first | omega | (simp; omega)) (by omega) (by omega) hps
theorem pf12_Complement.L3.law {α : Type} {N : Nat} (hN : 18446744073709551616 ≤ N) (x26 : (List (BA × Int × Int))) (x27 : (List (BA × List (Int × Int) × List (Int × Int) × List (Int × Int) × Int))) (x29 : (List Int)) (k0 : (Int → BA → (List (BA × Int × Int)) → (List (BA × List (Int × Int) × List (Int × Int) × List (Int × Int) × Int)) → (List (BA × List (Int × Int) × List (Int × Int) × List (Int × Int) × Int)) → Option α)) (k1 : ((List (BA × List (Int × Int) × List (Int × Int) × List (Int × Int) × Int)) → Option α)) {n : NetT} (h26 : x26 = n.2.1) (h29 : x29 = bndL 0 n.2.1) (hn : n.2.1.length ≤ 24) (hpl : ∀ p ∈ n.2.1, PlaceOk p) {R : Option α} (hk : ∀ a, k0 9 (ByteArray.mk #[]) [] [] a = R) : ∀ (l : List TransT) (j : Int) (acc : List TransT), acc.length + l.length ≤ 1000 → (∀ t ∈ l, TransOk (n.2.1.length : Int) t) →
  pf12_Complement.L3.l N x26 x27 x29 k0 k1 l j acc = cond (l.any fun t => badT t (n.2.1.length : Int) 0 n.2.1) R (k1 (acc ++ l.map (compT n)))
 | [], j, acc, _, _ => by rw [pf12_Complement.L3.l, List.map_nil, List.append_nil]; rfl
 | x :: l, j, acc, h0, h => by
  simp only [List.length_cons] at h0
  have hx := h x (by simp)
  have l1 := hx.pre.short hn
  have l2 := hx.post.short hn
  have hl := bndL_len n.2.1 0
  have hw : x29.length ≤ maxLen := by rw [h29]; unfold maxLen; omega
  rw [pf12_Complement.L3.l, ble0 (by omega), ble0 (by omega), cond_true, cond_true]
  refine (pf12_Complement.L2.rng (N := N) _ _ _ _ _ (hw) _ _ N 0 _ _ (by have := le_fuel (hw) hN; omega) (Nat.zero_le _)).trans ?_
  subst h26 h29
  have := pf12_Complement.L2.law (N := N) n.2.1 (bndL 0 n.2.1) x.2.1 x.2.2.1 x.2.2.2.1 (fun x57 x58 x59 x60 x61 x62 => k0 x57 x58 x59 x60 acc) (fun x63 x64 => cond ((acc.length + 1).ble mxl) (pf12_Complement.L3.l N n.2.1 x27 (bndL 0 n.2.1) k0 k1 l (j + 1) (acc ++ [(x.1, x63, x64, [], x.2.2.2.2)])) none) rfl rfl rfl hx hn (R := R) (fun _ _ => hk _) n.2.1 [] 0 x.2.1 x.2.2.1 rfl (by omega) (by simp) (by omega) (by omega) hpl
  refine Eq.trans ?_ (this.trans ?_)
  ·
   rfl
  ·
   simp only [List.length_nil, Int.add_zero, Int.natCast_zero]
   rw [ble1 _ (by omega), cond_true, List.any_cons, pf12_Complement.L3.law hN _ _ _ _ _ rfl rfl hn hpl hk l _ _ (by simp; omega) fun t ht => h t (by simp [ht]), List.append_assoc]
   cases badT x (n.2.1.length : Int) 0 n.2.1 <;> rfl
theorem pf12_Complement.law {α : Type} {N : Nat} (hN : 18446744073709551616 ≤ N) (a0 : BA × (List (BA × Int × Int)) × List (BA × (List (Int × Int)) × (List (Int × Int)) × (List (Int × Int)) × Int)) (w0 : K.wf (.st (.pr (.str) (.pr (.sl (.st (.pr (.str) (.pr (.int .i64) (.int .i64))))) (.sl (.st (.pr (.str) (.pr (.sl (.st (.pr (.int .i64) (.int .i64)))) (.pr (.sl (.st (.pr (.int .i64) (.int .i64)))) (.pr (.sl (.st (.pr (.int .i64) (.int .i64)))) (.int .i64)))))))))) a0) (kr : ((BA × (List (BA × Int × Int)) × List (BA × (List (Int × Int)) × (List (Int × Int)) × (List (Int × Int)) × Int)) → Int → Option α)) : pf12_Complement.g N a0 kr = kr (pf12_Complement.spec a0).1 (pf12_Complement.spec a0).2 := by
 unfold pf12_Complement.g pf12_Complement.spec
 simp only [pf12_may.spec, bne]
 cases hm : mayE a0 == 0
 ·
  rw [mayE_ne hm]
  rfl
 obtain ⟨hv, hle⟩ := mayE_ok hm
 have hnp := hv.np
 have hnt := hv.nt
 unfold cmE
 rw [hm]
 simp only [Bool.not_true, cond_false, cond_true]
 rw [show pf12_bounded.pre a0 = true from bigL_of (by omega), cond_true, show pf12_bounded.spec a0 = bndL 0 a0.2.1 from rfl]
 have hl := bndL_len a0.2.1 0
 have hw : (bndL 0 a0.2.1).length ≤ maxLen := by unfold maxLen; omega
 refine (pf12_Complement.L0.rng (N := N) _ (w0.2.1.1) _ N 0 _ (by have := le_fuel (w0.2.1.1) hN; omega) (Nat.zero_le _)).trans ?_
 refine (pf12_Complement.L0.law _ _ _ _ _ (by simp; omega)).trans ?_
 simp only [List.drop_zero, List.nil_append]
 refine (pf12_Complement.L1.rng (N := N) _ _ (hw) _ N 0 _ (by have := le_fuel (hw) hN; omega) (Nat.zero_le _)).trans ?_
 refine (pf12_Complement.L1.law _ _ _ hnp.2 a0.2.1 [] _ _ rfl (by simp; omega) hv.place).trans ?_
 refine (pf12_Complement.L3.rng (N := N) _ _ _ (w0.2.2.1) _ _ N 0 _ (by have := le_fuel (w0.2.2.1) hN; omega) (Nat.zero_le _)).trans ?_
 refine (pf12_Complement.L3.law hN _ _ _ _ _ rfl rfl hnp.2 hv.place (R := kr noNet 9) (fun _ => rfl) _ _ _ (by simp; omega) (by simpa using hv.trans)).trans ?_
 rw [List.drop_zero, show (cmN a0).2.2 = a0.2.2.map (compT a0) from rfl, bigW_comp hv.trans]
 cases (List.any a0.2.2 _) <;> rfl
theorem pf12_Complement.ok : FentOk P 14 pf12_Complement.fent := fentOk_of (by kernel_rfl) fun ds hk => by
 obtain ⟨a0, l0, rfl, h0⟩ := ds_cons hk
 obtain rfl := ds0 h0
 exact ⟨true, [.dat (.st (.pr (.str) (.pr (.sl (.st (.pr (.str) (.pr (.int .i64) (.int .i64))))) (.sl (.st (.pr (.str) (.pr (.sl (.st (.pr (.int .i64) (.int .i64)))) (.pr (.sl (.st (.pr (.int .i64) (.int .i64)))) (.pr (.sl (.st (.pr (.int .i64) (.int .i64)))) (.int .i64)))))))))) (pf12_Complement.spec a0).1, .dat (.int .i64) (pf12_Complement.spec a0).2], fun h hw => pf12_Complement.calls 18446744073709551616 a0 (pf12_Complement.law (Nat.le_refl _) a0 hw.1 _), fun α k => rfl⟩
end Go.VI
namespace Go.VI
open Go Go.Proofs
namespace pf04_Valid
def an45 : Ann := [(2, [0, 1, 5], [0, 1, 4])]
def L0.sh : Sh := { sl := [(0, SV.a (SA.d (K.int IntKind.i64).sl)), (1, SV.a (SA.d (K.int IntKind.i64))), (5, SV.a (SA.d (K.int IntKind.i64)))], os := [], nx := 0 }
def L0.x0 : Sh := { sl := [(0, SV.a (SA.d (K.int IntKind.i64).sl)), (1, SV.a (SA.d (K.int IntKind.i64))), (4, SV.a (SA.d K.bool))], os := [], nx := 0 }
def L0.x1 : Sh := { sl := [(0, SV.a (SA.d (K.int IntKind.i64).sl)), (1, SV.a (SA.d (K.int IntKind.i64))), (4, SV.j)], os := [], nx := 0 }
def L0.st {α : Type} (N : Nat) (x0 : (List Int)) (φ : (Int → Option α)) (x2 : Int) (k0 : (Bool → Option α)) (k1 : Option α) : Option α :=
 cond (decide (x2 < (↑x0.length : Int))) (cond (decide (0 ≤ x2) && decide (x2 < (↑x0.length : Int))) (cond (decide (x0.getD x2.toNat 0 < 0)) (k0 (false)) (cond (decide (0 ≤ x2) && decide (x2 < (↑x0.length : Int))) (cond (decide (1048576 < x0.getD x2.toNat (0 : Int))) (k0 (false)) (φ (IntKind.i64.wrap (x2 + 1)))) (none))) (none)) (k1 )
def L0.f {α : Type} (N : Nat) (c0 : (List Int)) : Nat → Int → (Bool → Option α) → Option α → Option α
 | 0, _, _, _ => none
 | n + 1, d0, k0, k1 => L0.st N c0 (fun e0 => L0.f N c0 n e0 k0 k1) d0 k0 k1
def L0.up (d : L0.sh.T) (e0 : Int) : L0.sh.T := ((d.1.1, (d.1.2.1, (e0, ()))), ())
def L0.k0 {α : Type} (d : L0.sh.T) (K : Cont α) : (Bool → Option α) := fun y0 => K (Exit.ret) (L0.x0.enc ((d.1.1, (d.1.2.1, (y0, ()))), ()))
def L0.k1 {α : Type} (d : L0.sh.T) (K : Cont α) : Option α := K (Exit.exit 0) (L0.x1.enc ((d.1.1, (d.1.2.1, ((), ()))), ()))
def L0.F {α : Type} (N : Nat) (d : L0.sh.T) (K : Cont α) : Option α := L0.f N d.1.1 N d.1.2.2.1 (L0.k0 d K) (L0.k1 d K)
def ents45 {α : Type} (N : Nat) : List (SmE α) := [⟨0, 50, 2, [⟨L0.sh, L0.F N⟩]⟩]
def C (N : Nat) : Ctx := ⟨tys, [], [], N⟩
def L0.B {α : Type} (N : Nat) : Env → Cont α → Option α := evC tys 28 0 (evCall (C N) 50) (evCallQ (C N)) N an45 (smL (ents45 N) 0 50) (loopOf 2 Tryd.f45)
theorem L0.r {α : Type} (N : Nat) (φ : Env → Option α) (K : Cont α) (d : L0.sh.T) : L0.B N (L0.sh.enc d) (contL φ K (Env.norm 0 [0, 1, 5]) (Env.norm 0 [0, 1, 4])) = L0.st N d.1.1 (fun e0 => φ (L0.sh.enc (L0.up d e0))) d.1.2.2.1 (L0.k0 d K) (L0.k1 d K) := by kernel_rfl
theorem L0.e {α : Type} (N : Nat) : ∀ (n : Nat) (d : L0.sh.T) (K : Cont α), evL (L0.B N) (Env.norm 0 [0, 1, 5]) (Env.norm 0 [0, 1, 4]) n (L0.sh.enc d) K = L0.f N d.1.1 n d.1.2.2.1 (L0.k0 d K) (L0.k1 d K)
 | 0, d, K => rfl
 | n + 1, d, K => evL_contL.trans ((L0.r N _ K d).trans (congrArg (fun φ => L0.st N d.1.1 φ d.1.2.2.1 (L0.k0 d K) (L0.k1 d K)) (funext fun e0 => L0.e N n (L0.up d e0) K)))
theorem ents45_ok {α : Type} (N : Nat) : AllP (EntOk (C N) Tryd.f45 an45 (ents45 (α := α) N)) (ents45 N) := ⟨entOk_of (b0 := loopOf 2 Tryd.f45) (li0 := [0, 1, 5]) (lx0 := [0, 1, 4]) (by kernel_rfl) (by kernel_rfl) ⟨fun d K => L0.e N N d K, trivial⟩, trivial⟩
def g {α : Type} (N : Nat) (a0 : List Int) (a1 : Int) (kr : (Bool → Option α)) : Option α :=
 L0.f N (a0) N (0) (fun x3 => kr (x3)) (kr ((↑a0.length : Int) == a1))
theorem eq (N : Nat) (a0 : List Int) (a1 : Int) : evF (C N) 50 Tryd.f45 an45 (smL (ents45 N) 0 50) [((.bool : K), false)] [⟨.sl (.int .i64), a0⟩, ⟨.int .i64, a1⟩] = g N a0 a1 (fun r0 => some [.dat (K.bool) r0]) := by kernel_rfl
theorem ctxOk (N : Nat) : CtxOk P (C N) := ctxOk_of tysOk mixedOk trivial trivial
theorem calls (N : Nat) (a0 : List Int) (a1 : Int) {rs : List Rs} (h : g N a0 a1 (fun r0 => some [.dat (K.bool) r0]) = some rs) : CallsTo P 45 [⟨.sl (.int .i64), a0⟩, ⟨.int .i64, a1⟩] rs := evF_calls' (ctxOk N) (by rfl) (ents45_ok N) ((eq N a0 a1).trans h)
def L0.l {α : Type} (N : Nat) (x0 : (List Int)) (k0 : (Bool → Option α)) (k1 : Option α) : List Int → Int → Option α
 | [], x2 => k1 
 | x :: l, x2 => (cond (decide (x < 0)) (k0 (false)) ((cond (decide (1048576 < x)) (k0 (false)) (L0.l N x0 k0 k1 l (x2 + 1)))))
theorem L0.rng {α : Type} {N : Nat} (x0 : (List Int)) (hl : x0.length ≤ maxLen) (k0 : (Bool → Option α)) (k1 : Option α) : ∀ (n j : Nat), x0.length < n + j → j ≤ x0.length → L0.f N x0 n (j : Int) k0 k1 = L0.l N x0 k0 k1 (x0.drop j) (j : Int) :=
 rng0 x0 hl (fun n i => L0.f N x0 n i k0 k1) (fun l i => L0.l N x0 k0 k1 l i) (fun n j hj h ih => by simp only [L0.f, L0.st, L0.l, h.a, h.b, h.c, h.d, h.e, Bool.true_and, Bool.and_true, Bool.and_self, cond_true, ih] <;> rfl) (fun n j h => by simp only [L0.f, L0.st, L0.l, h, cond_false])
end pf04_Valid
theorem pf04_Valid.L0.law {α : Type} {N : Nat} (x0 : (List Int)) (k0 : (Bool → Option α)) (k1 : Option α) : ∀ l j, pf04_Valid.L0.l N x0 k0 k1 l j = cond (l.all fun k => decide (0 ≤ k) && decide (k ≤ 1048576)) k1 (k0 false)
 | [], j => rfl
 | x :: l, j => by
  rw [pf04_Valid.L0.l, pf04_Valid.L0.law, List.all_cons]
  by_cases h1 : x < 0
  ·
   rw [decide_eq_true h1, decide_eq_false (by omega : ¬ 0 ≤ x)]; rfl
  ·
   rw [decide_eq_false h1, decide_eq_true (by omega : 0 ≤ x)]
   by_cases h2 : 1048576 < x
   ·
    rw [decide_eq_true h2, decide_eq_false (by omega : ¬ x ≤ 1048576)]; rfl
   ·
    rw [decide_eq_false h2, decide_eq_true (by omega : x ≤ 1048576)]; rfl
theorem pf04_Valid.law {α : Type} {N : Nat} (hN : 18446744073709551616 ≤ N) (a0 : List Int) (a1 : Int) (w0 : K.wf (.sl (.int .i64)) a0) (w1 : K.wf (.int .i64) a1) (kr : (Bool → Option α)) : pf04_Valid.g N a0 a1 kr = kr (pf04_Valid.spec a0 a1) := by
 unfold pf04_Valid.g pf04_Valid.spec marking_Valid.spec
 refine (pf04_Valid.L0.rng (N := N) _ (w0.1) _ _ N 0  (by have := le_fuel (w0.1) hN; omega) (Nat.zero_le _)).trans ?_
 rw [List.drop_zero, pf04_Valid.L0.law]
 have e : ((a0.length : Int) == a1) = decide ((a0.length : Int) = a1) := by
  by_cases h : (a0.length : Int) = a1
  ·
   simp [h]
  ·
   simp [h]
 cases (List.all a0 _)
 ·
  simp
 ·
  rw [e]; simp
theorem pf04_Valid.ok : FentOk P 45 pf04_Valid.fent := fentOk_of (by kernel_rfl) fun ds hk => by
 obtain ⟨a0, l0, rfl, h0⟩ := ds_cons hk
 obtain ⟨a1, l1, rfl, h1⟩ := ds_cons h0
 obtain rfl := ds0 h1
 exact ⟨true, [.dat (.bool) (pf04_Valid.spec a0 a1)], fun h hw => pf04_Valid.calls 18446744073709551616 a0 a1 (pf04_Valid.law (Nat.le_refl _) a0 a1 hw.1 hw.2.1 _), fun α k => rfl⟩
end Go.VI
namespace Go.VI
open Go Go.Proofs
namespace pf04_Copy
def an46 : Ann := [(3, [0, 3, 4], [3])]
def L0.sh : Sh := { sl := [(0, SV.a (SA.d (K.int IntKind.i64).sl)), (3, SV.a (SA.fx (Atom.sl 0 0 none))), (4, SV.a (SA.d (K.int IntKind.i64)))], os := [(0, SO.row (K.int IntKind.i64) 0)], nx := 1 }
def L0.x0 : Sh := { sl := [(3, SV.a (SA.fx (Atom.sl 0 0 none)))], os := [(0, SO.row (K.int IntKind.i64) 0)], nx := 1 }
def L0.st {α : Type} (N : Nat) (x0 : (List Int)) (φ : (Int → (List Int) → Option α)) (x1 : Int) (x2 : (List Int)) (k0 : ((List Int) → Option α)) : Option α :=
 cond (decide (x1 < (↑x0.length : Int))) (cond (decide (0 ≤ x1) && decide (x1 < (↑x0.length : Int))) (cond ((x2.length + 1).ble mxl) (φ (IntKind.i64.wrap (x1 + 1)) (x2 ++ [x0.getD x1.toNat 0])) (none)) (none)) (k0 (x2))
def L0.f {α : Type} (N : Nat) (c0 : (List Int)) : Nat → Int → (List Int) → ((List Int) → Option α) → Option α
 | 0, _, _, _ => none
 | n + 1, d0, d1, k0 => L0.st N c0 (fun e0 e1 => L0.f N c0 n e0 e1 k0) d0 d1 k0
def L0.up (d : L0.sh.T) (e0 : Int) (e1 : (List Int)) : L0.sh.T := ((d.1.1, ((), (e0, ()))), (e1, ()))
def L0.k0 {α : Type} (d : L0.sh.T) (K : Cont α) : ((List Int) → Option α) := fun y0 => K (Exit.exit 0) (L0.x0.enc (((), ()), (y0, ())))
def L0.F {α : Type} (N : Nat) (d : L0.sh.T) (K : Cont α) : Option α := L0.f N d.1.1 N d.1.2.2.1 d.2.1 (L0.k0 d K)
def ents46 {α : Type} (N : Nat) : List (SmE α) := [⟨0, 50, 3, [⟨L0.sh, L0.F N⟩]⟩]
def C (N : Nat) : Ctx := ⟨tys, [], [], N⟩
def L0.B {α : Type} (N : Nat) : Env → Cont α → Option α := evC tys 19 0 (evCall (C N) 50) (evCallQ (C N)) N an46 (smL (ents46 N) 0 50) (loopOf 3 Tryd.f46)
theorem L0.r {α : Type} (N : Nat) (φ : Env → Option α) (K : Cont α) (d : L0.sh.T) : L0.B N (L0.sh.enc d) (contL φ K (Env.norm 0 [0, 3, 4]) (Env.norm 0 [3])) = L0.st N d.1.1 (fun e0 e1 => φ (L0.sh.enc (L0.up d e0 e1))) d.1.2.2.1 d.2.1 (L0.k0 d K) := by kernel_rfl
theorem L0.e {α : Type} (N : Nat) : ∀ (n : Nat) (d : L0.sh.T) (K : Cont α), evL (L0.B N) (Env.norm 0 [0, 3, 4]) (Env.norm 0 [3]) n (L0.sh.enc d) K = L0.f N d.1.1 n d.1.2.2.1 d.2.1 (L0.k0 d K)
 | 0, d, K => rfl
 | n + 1, d, K => evL_contL.trans ((L0.r N _ K d).trans (congrArg (fun φ => L0.st N d.1.1 φ d.1.2.2.1 d.2.1 (L0.k0 d K)) (funext fun e0 => funext fun e1 => L0.e N n (L0.up d e0 e1) K)))
theorem ents46_ok {α : Type} (N : Nat) : AllP (EntOk (C N) Tryd.f46 an46 (ents46 (α := α) N)) (ents46 N) := ⟨entOk_of (b0 := loopOf 3 Tryd.f46) (li0 := [0, 3, 4]) (lx0 := [3]) (by kernel_rfl) (by kernel_rfl) ⟨fun d K => L0.e N N d K, trivial⟩, trivial⟩
def g {α : Type} (N : Nat) (a0 : List Int) (kr : ((List Int) → Option α)) : Option α :=
 L0.f N (a0) N (0) ([]) (fun x3 => kr (x3))
theorem eq (N : Nat) (a0 : List Int) : evF (C N) 50 Tryd.f46 an46 (smL (ents46 N) 0 50) [(((.int .i64) : K), true)] [⟨.sl (.int .i64), a0⟩] = g N a0 (fun r0 => some [.own (K.int IntKind.i64) r0]) := by kernel_rfl
theorem ctxOk (N : Nat) : CtxOk P (C N) := ctxOk_of tysOk mixedOk trivial trivial
theorem calls (N : Nat) (a0 : List Int) {rs : List Rs} (h : g N a0 (fun r0 => some [.own (K.int IntKind.i64) r0]) = some rs) : CallsTo P 46 [⟨.sl (.int .i64), a0⟩] rs := evF_calls' (ctxOk N) (by rfl) (ents46_ok N) ((eq N a0).trans h)
def L0.l {α : Type} (N : Nat) (x0 : (List Int)) (k0 : ((List Int) → Option α)) : List Int → Int → (List Int) → Option α
 | [], x1, x2 => k0 (x2)
 | x :: l, x1, x2 => (cond ((x2.length + 1).ble mxl) (L0.l N x0 k0 l (x1 + 1) (x2 ++ [x])) (none))
theorem L0.rng {α : Type} {N : Nat} (x0 : (List Int)) (hl : x0.length ≤ maxLen) (k0 : ((List Int) → Option α)) : ∀ (n j : Nat) (x2 : (List Int)), x0.length < n + j → j ≤ x0.length → L0.f N x0 n (j : Int) x2 k0 = L0.l N x0 k0 (x0.drop j) (j : Int) x2 :=
 rng1 x0 hl (fun n i x2 => L0.f N x0 n i x2 k0) (fun l i x2 => L0.l N x0 k0 l i x2) (fun n j hj h ih x2 => by simp only [L0.f, L0.st, L0.l, h.a, h.b, h.c, h.d, h.e, Bool.true_and, Bool.and_true, Bool.and_self, cond_true, ih] <;> rfl) (fun n j h x2 => by simp only [L0.f, L0.st, L0.l, h, cond_false])
end pf04_Copy
theorem pf04_Copy.L0.law {α : Type} {N : Nat} (x0 : (List Int)) (k0 : ((List Int) → Option α)) : ∀ l j (acc : List Int), acc.length + l.length ≤ 1073741824 → pf04_Copy.L0.l N x0 k0 l j acc = k0 (acc ++ l)
 | [], j, acc, h => by rw [pf04_Copy.L0.l, List.append_nil]
 | x :: l, j, acc, h => by
  simp only [List.length_cons] at h
  rw [pf04_Copy.L0.l, show ((acc.length + 1).ble mxl) = true from Nat.ble_eq_true_of_le (by unfold mxl; simp; omega), cond_true, pf04_Copy.L0.law _ _ l _ _ (by simp; omega)]
  simp
theorem pf04_Copy.law {α : Type} {N : Nat} (hN : 18446744073709551616 ≤ N) (a0 : List Int) (w0 : K.wf (.sl (.int .i64)) a0) (hp : pf04_Copy.pre a0 = true) (kr : ((List Int) → Option α)) : pf04_Copy.g N a0 kr = kr (pf04_Copy.spec a0) := by
 have hp' : a0.length ≤ 1073741824 := of_decide_eq_true hp
 unfold pf04_Copy.g pf04_Copy.spec
 refine (pf04_Copy.L0.rng (N := N) _ (w0.1) _ N 0 _ (by have := le_fuel (w0.1) hN; omega) (Nat.zero_le _)).trans ?_
 rw [List.drop_zero, pf04_Copy.L0.law _ _ _ _ _ (by simpa using hp')]
 rfl
theorem pf04_Copy.ok : FentOk P 46 pf04_Copy.fent := fentOk_of (by kernel_rfl) fun ds hk => by
 obtain ⟨a0, l0, rfl, h0⟩ := ds_cons hk
 obtain rfl := ds0 h0
 exact ⟨pf04_Copy.pre a0, [.own (.int .i64) (pf04_Copy.spec a0)], fun h hw => pf04_Copy.calls 18446744073709551616 a0 (pf04_Copy.law (Nat.le_refl _) a0 hw.1 h _), fun α k => rfl⟩
end Go.VI
namespace Go.VI
open Go Go.Proofs
namespace pf12_Lift
def an16 : Ann := [(9, [1, 2, 8, 9, 10], [4, 5, 8])]
def L0.sh : Sh := { sl := [(1, SV.a (SA.d (K.int IntKind.i64).sl)), (2, SV.a (SA.fx (Atom.box 0 0))), (8, SV.a (SA.fx (Atom.sl 1 0 none))), (9, SV.a (SA.fx (Atom.sl 2 0 none))), (10, SV.a (SA.d (K.int IntKind.i64)))], os := [(0, SO.box [SA.d K.str, SA.d (K.str.pr ((K.int IntKind.i64).pr (K.int IntKind.i64))).st.sl, SA.d (K.str.pr (((K.int IntKind.i64).pr (K.int IntKind.i64)).st.sl.pr (((K.int IntKind.i64).pr (K.int IntKind.i64)).st.sl.pr (((K.int IntKind.i64).pr (K.int IntKind.i64)).st.sl.pr (K.int IntKind.i64))))).st.sl]), (1, SO.row (K.int IntKind.i64) 0), (2, SO.row (K.int IntKind.i64) 0)], nx := 3 }
def L0.x0 : Sh := { sl := [(4, SV.a (SA.fx (Atom.sl 0 0 none))), (5, SV.a (SA.d (K.int IntKind.i64))), (8, SV.a (SA.fx (Atom.sl 1 0 none)))], os := [(0, SO.row (K.int IntKind.i64) 0), (1, SO.row (K.int IntKind.i64) 0)], nx := 2 }
def L0.x1 : Sh := { sl := [(4, SV.j), (5, SV.j), (8, SV.a (SA.fx (Atom.sl 0 0 none)))], os := [(0, SO.row (K.int IntKind.i64) 0)], nx := 1 }
def L0.st {α : Type} (N : Nat) (x0 : (List Int)) (x3 : (List (BA × Int × Int))) (x6 : (List Int)) (φ : (Int → (List Int) → Option α)) (x1 : Int) (x5 : (List Int)) (k0 : (Int → (List Int) → (List Int) → Option α)) (k1 : ((List Int) → Option α)) : Option α :=
 cond (decide (x1 < (↑x6.length : Int))) (cond (decide (0 ≤ x1) && decide (x1 < (↑x6.length : Int))) (cond (decide (0 ≤ x6.getD (0 + x1.toNat) 0) && decide (x6.getD (0 + x1.toNat) 0 < (↑x3.length : Int))) (cond (decide (0 ≤ x1) && decide (x1 < (↑x6.length : Int))) (cond (decide (0 ≤ x6.getD (0 + x1.toNat) 0) && decide (x6.getD (0 + x1.toNat) 0 < (↑x0.length : Int))) (cond (decide (IntKind.i64.wrap ((x3.getD (Int.toNat (x6.getD (0 + x1.toNat) 0)) (eBA, 0, 0)).snd.snd - x0.getD (Int.toNat (x6.getD (0 + x1.toNat) 0)) 0) < 0)) (k0 (1) ([]) (x5)) (cond ((x5.length + 1).ble mxl) (φ (IntKind.i64.wrap (x1 + 1)) (x5 ++ [IntKind.i64.wrap ((x3.getD (Int.toNat (x6.getD (0 + x1.toNat) 0)) (eBA, 0, 0)).snd.snd - x0.getD (Int.toNat (x6.getD (0 + x1.toNat) 0)) 0)])) (none))) (none)) (none)) (none)) (none)) (k1 (x5))
def L0.f {α : Type} (N : Nat) (c0 : (List Int)) (c2 : (List (BA × Int × Int))) (c4 : (List Int)) : Nat → Int → (List Int) → (Int → (List Int) → (List Int) → Option α) → ((List Int) → Option α) → Option α
 | 0, _, _, _, _ => none
 | n + 1, d0, d1, k0, k1 => L0.st N c0 c2 c4 (fun e0 e1 => L0.f N c0 c2 c4 n e0 e1 k0 k1) d0 d1 k0 k1
def L0.up (d : L0.sh.T) (e0 : Int) (e1 : (List Int)) : L0.sh.T := ((d.1.1, ((), ((), ((), (e0, ()))))), ((d.2.1.1, (d.2.1.2.1, (d.2.1.2.2.1, ()))), (e1, (d.2.2.2.1, ()))))
def L0.k0 {α : Type} (d : L0.sh.T) (K : Cont α) : (Int → (List Int) → (List Int) → Option α) := fun y0 y1 y2 => K (Exit.ret) (L0.x0.enc (((), (y0, ((), ()))), (y1, (y2, ()))))
def L0.k1 {α : Type} (d : L0.sh.T) (K : Cont α) : ((List Int) → Option α) := fun y0 => K (Exit.exit 0) (L0.x1.enc (((), ((), ((), ()))), (y0, ())))
def L0.F {α : Type} (N : Nat) (d : L0.sh.T) (K : Cont α) : Option α := L0.f N d.1.1 d.2.1.2.1 d.2.2.2.1 N d.1.2.2.2.2.1 d.2.2.1 (L0.k0 d K) (L0.k1 d K)
def ents16 {α : Type} (N : Nat) : List (SmE α) := [⟨0, 50, 9, [⟨L0.sh, L0.F N⟩]⟩]
def C (N : Nat) : Ctx := ⟨tys, [(14, pf12_Complement.fent), (41, pf12_bounded.fent), (45, pf04_Valid.fent), (46, pf04_Copy.fent)], [], N⟩
def L0.B {α : Type} (N : Nat) : Env → Cont α → Option α := evC tys 60 0 (evCall (C N) 50) (evCallQ (C N)) N an16 (smL (ents16 N) 0 50) (loopOf 9 Tryd.f16)
theorem L0.r {α : Type} (N : Nat) (φ : Env → Option α) (K : Cont α) (d : L0.sh.T) : L0.B N (L0.sh.enc d) (contL φ K (Env.norm 0 [1, 2, 8, 9, 10]) (Env.norm 0 [4, 5, 8])) = L0.st N d.1.1 d.2.1.2.1 d.2.2.2.1 (fun e0 e1 => φ (L0.sh.enc (L0.up d e0 e1))) d.1.2.2.2.2.1 d.2.2.1 (L0.k0 d K) (L0.k1 d K) := by kernel_rfl
theorem L0.e {α : Type} (N : Nat) : ∀ (n : Nat) (d : L0.sh.T) (K : Cont α), evL (L0.B N) (Env.norm 0 [1, 2, 8, 9, 10]) (Env.norm 0 [4, 5, 8]) n (L0.sh.enc d) K = L0.f N d.1.1 d.2.1.2.1 d.2.2.2.1 n d.1.2.2.2.2.1 d.2.2.1 (L0.k0 d K) (L0.k1 d K)
 | 0, d, K => rfl
 | n + 1, d, K => evL_contL.trans ((L0.r N _ K d).trans (congrArg (fun φ => L0.st N d.1.1 d.2.1.2.1 d.2.2.2.1 φ d.1.2.2.2.2.1 d.2.2.1 (L0.k0 d K) (L0.k1 d K)) (funext fun e0 => funext fun e1 => L0.e N n (L0.up d e0 e1) K)))
theorem ents16_ok {α : Type} (N : Nat) : AllP (EntOk (C N) Tryd.f16 an16 (ents16 (α := α) N)) (ents16 N) := ⟨entOk_of (b0 := loopOf 9 Tryd.f16) (li0 := [1, 2, 8, 9, 10]) (lx0 := [4, 5, 8]) (by kernel_rfl) (by kernel_rfl) ⟨fun d K => L0.e N N d K, trivial⟩, trivial⟩
def g {α : Type} (N : Nat) (a0 : BA × List (BA × Int × Int) × List (BA × List (Int × Int) × List (Int × Int) × List (Int × Int) × Int)) (a1 : List Int) (kr : ((List Int) → Int → Option α)) : Option α :=
 cond ((pf12_Complement.spec a0).snd != 0) (kr ([]) ((pf12_Complement.spec a0).snd)) (cond (!(pf04_Valid.spec a1 (↑(List.length a0.snd.fst) : Int))) (kr ([]) (2)) (cond (pf04_Copy.pre a1) (cond (pf12_bounded.pre a0) (L0.f N (a1) (a0.snd.fst) ((pf12_bounded.spec a0)) N (0) ((pf04_Copy.spec a1)) (fun x7 x8 x9 => kr (x8) (x7)) (fun x10 => kr (x10) (0))) (none)) (none)))
theorem eq (N : Nat) (a0 : BA × List (BA × Int × Int) × List (BA × List (Int × Int) × List (Int × Int) × List (Int × Int) × Int)) (a1 : List Int) : evF (C N) 50 Tryd.f16 an16 (smL (ents16 N) 0 50) [(((.int .i64) : K), true), ((.int .i64 : K), false)] [⟨.st (.pr (.str) (.pr (.sl (.st (.pr (.str) (.pr (.int .i64) (.int .i64))))) (.sl (.st (.pr (.str) (.pr (.sl (.st (.pr (.int .i64) (.int .i64)))) (.pr (.sl (.st (.pr (.int .i64) (.int .i64)))) (.pr (.sl (.st (.pr (.int .i64) (.int .i64)))) (.int .i64))))))))), a0⟩, ⟨.sl (.int .i64), a1⟩] = g N a0 a1 (fun r0 r1 => some [.own (K.int IntKind.i64) r0, .dat (K.int IntKind.i64) r1]) := by kernel_rfl
theorem ctxOk (N : Nat) : CtxOk P (C N) := ctxOk_of tysOk mixedOk ⟨pf12_Complement.ok, pf12_bounded.ok, pf04_Valid.ok, pf04_Copy.ok, trivial⟩ trivial
theorem calls (N : Nat) (a0 : BA × List (BA × Int × Int) × List (BA × List (Int × Int) × List (Int × Int) × List (Int × Int) × Int)) (a1 : List Int) {rs : List Rs} (h : g N a0 a1 (fun r0 r1 => some [.own (K.int IntKind.i64) r0, .dat (K.int IntKind.i64) r1]) = some rs) : CallsTo P 16 [⟨.st (.pr (.str) (.pr (.sl (.st (.pr (.str) (.pr (.int .i64) (.int .i64))))) (.sl (.st (.pr (.str) (.pr (.sl (.st (.pr (.int .i64) (.int .i64)))) (.pr (.sl (.st (.pr (.int .i64) (.int .i64)))) (.pr (.sl (.st (.pr (.int .i64) (.int .i64)))) (.int .i64))))))))), a0⟩, ⟨.sl (.int .i64), a1⟩] rs := evF_calls' (ctxOk N) (by rfl) (ents16_ok N) ((eq N a0 a1).trans h)
def L0.l {α : Type} (N : Nat) (x0 : (List Int)) (x3 : (List (BA × Int × Int))) (x6 : (List Int)) (k0 : (Int → (List Int) → (List Int) → Option α)) (k1 : ((List Int) → Option α)) : List Int → Int → (List Int) → Option α
 | [], x1, x5 => k1 (x5)
 | x :: l, x1, x5 => (cond (decide (0 ≤ x) && decide (x < (↑x3.length : Int))) ((cond (decide (0 ≤ x) && decide (x < (↑x0.length : Int))) (cond (decide (IntKind.i64.wrap ((x3.getD (Int.toNat x) (eBA, 0, 0)).snd.snd - x0.getD (Int.toNat x) 0) < 0)) (k0 (1) ([]) (x5)) (cond ((x5.length + 1).ble mxl) (L0.l N x0 x3 x6 k0 k1 l (x1 + 1) (x5 ++ [IntKind.i64.wrap ((x3.getD (Int.toNat x) (eBA, 0, 0)).snd.snd - x0.getD (Int.toNat x) 0)])) (none))) (none))) (none))
theorem L0.rng {α : Type} {N : Nat} (x0 : (List Int)) (x3 : (List (BA × Int × Int))) (x6 : (List Int)) (hl : x6.length ≤ maxLen) (k0 : (Int → (List Int) → (List Int) → Option α)) (k1 : ((List Int) → Option α)) : ∀ (n j : Nat) (x5 : (List Int)), x6.length < n + j → j ≤ x6.length → L0.f N x0 x3 x6 n (j : Int) x5 k0 k1 = L0.l N x0 x3 x6 k0 k1 (x6.drop j) (j : Int) x5 :=
 rng1 x6 hl (fun n i x5 => L0.f N x0 x3 x6 n i x5 k0 k1) (fun l i x5 => L0.l N x0 x3 x6 k0 k1 l i x5) (fun n j hj h ih x5 => by simp only [L0.f, L0.st, L0.l, h.a, h.b, h.c, h.d, h.e, Bool.true_and, Bool.and_true, Bool.and_self, cond_true, ih] <;> rfl) (fun n j h x5 => by simp only [L0.f, L0.st, L0.l, h, cond_false])
end pf12_Lift
theorem pf12_Lift.L0.law {α : Type} {N : Nat} (x0 : (List Int)) (x3 : (List (BA × Int × Int))) (x6 : (List Int)) (k0 : (Int → (List Int) → (List Int) → Option α)) (k1 : ((List Int) → Option α)) (hm : ∀ k ∈ x0, 0 ≤ k ∧ k ≤ 1048576) (hl : x3.length = x0.length) {R : Option α} (hk : ∀ a, k0 1 [] a = R) : ∀ (l q : List PlaceT) (j : Int) (acc : List Int), x3 = q ++ l → acc.length + l.length ≤ 1000 → (∀ p ∈ l, PlaceOk p) →
  pf12_Lift.L0.l N x0 x3 x6 k0 k1 (bndL (q.length : Int) l) j acc = cond ((l.zip (x0.drop q.length)).any fun q => !(q.1.2.2 == 0) && decide (q.1.2.2 < q.2)) R (k1 (acc ++ liftL l (x0.drop q.length)))
 | [], q, j, acc, _, _, _ => by rw [bndL, pf12_Lift.L0.l]; simp [liftL]
 | x :: l, q, j, acc, hx, h0, hp => by
  simp only [List.length_cons] at h0
  have hj3 : q.length < x3.length := by rw [hx]; simp
  have hj : q.length < x0.length := by omega
  have hg : ∀ z, x3.getD (Int.toNat (q.length : Int)) z = x := fun z => by rw [getD_at hj3]; simp [hx]
  have hc := (hp x (by simp)).cap
  have hmj := hm x0[q.length] (List.getElem_mem hj)
  have e1 : ((q.length : Int) + 1) = (((q ++ [x]).length : Nat) : Int) := by simp
  have ih := fun j acc h => pf12_Lift.L0.law (N := N) x0 x3 x6 k0 k1 hm hl hk l (q ++ [x]) j acc (by rw [hx]; simp) h fun p hp' => hp p (by simp [hp'])
  rw [← e1, show (q ++ [x]).length = q.length + 1 by simp] at ih
  have e : liftL (x :: l) (x0[q.length] :: x0.drop (q.length + 1)) = cond (x.2.2 == 0) (liftL l (x0.drop (q.length + 1))) ((x.2.2 - x0[q.length]) :: liftL l (x0.drop (q.length + 1))) := by
   unfold liftL
   rw [List.zip_cons_cons, List.filterMap_cons]
   cases x.2.2 == 0 <;> rfl
  rw [bndL, pos_cap hc.1, List.drop_eq_getElem_cons hj, List.zip_cons_cons, List.any_cons, e]
  cases x.2.2 == 0
  ·
   simp only [cond_false, Bool.not_false, Bool.true_and, cond_true]
   rw [pf12_Lift.L0.l]
   simp only [d_0, d_lt hj, d_lt hj3, getD_at hj, hg, Bool.and_self, cond_true]
   rw [ble1 _ (by omega), cond_true, wrap_i64 (inI_i64.2 (by omega)), show decide (x.2.2 - x0[q.length] < 0) = decide (x.2.2 < x0[q.length]) by rw [decide_eq_decide]; omega]
   cases decide (x.2.2 < x0[q.length])
   ·
    simp only [cond_false, Bool.false_or]
    rw [ih _ _ (by simp; omega), List.append_assoc]
    rfl
   ·
    simp only [cond_true, Bool.true_or]
    exact hk _
  ·
   simp only [cond_true, Bool.not_true, Bool.false_and, Bool.false_or, cond_false]
   exact ih _ _ (by omega)
theorem pf12_Lift.law {α : Type} {N : Nat} (hN : 18446744073709551616 ≤ N) (a0 : BA × (List (BA × Int × Int)) × List (BA × (List (Int × Int)) × (List (Int × Int)) × (List (Int × Int)) × Int)) (a1 : List Int) (w0 : K.wf (.st (.pr (.str) (.pr (.sl (.st (.pr (.str) (.pr (.int .i64) (.int .i64))))) (.sl (.st (.pr (.str) (.pr (.sl (.st (.pr (.int .i64) (.int .i64)))) (.pr (.sl (.st (.pr (.int .i64) (.int .i64)))) (.pr (.sl (.st (.pr (.int .i64) (.int .i64)))) (.int .i64)))))))))) a0) (w1 : K.wf (.sl (.int .i64)) a1) (kr : ((List Int) → Int → Option α)) : pf12_Lift.g N a0 a1 kr = kr (pf12_Lift.spec a0 a1).1 (pf12_Lift.spec a0 a1).2 := by
 unfold pf12_Lift.g pf12_Lift.spec liftE
 simp only [pf12_Complement.spec, pf04_Valid.spec, pf04_Copy.spec, bne]
 cases hc : (cmE a0).2 == 0
 ·
  rfl
 obtain ⟨hv, hle⟩ := cmE_ok hc
 have hnp := hv.np
 simp only [Bool.not_true, cond_false, cond_true]
 cases hm : marking_Valid.spec a1 ((List.length a0.2.1 : Nat) : Int)
 ·
  rfl
 unfold marking_Valid.spec at hm
 simp only [Bool.and_eq_true, decide_eq_true_eq, List.all_eq_true] at hm
 have hlen : a0.2.1.length = a1.length := by omega
 rw [show pf04_Copy.pre a1 = true from bigL_of (by omega), show pf12_bounded.pre a0 = true from bigL_of (by omega), show pf12_bounded.spec a0 = bndL 0 a0.2.1 from rfl]
 simp only [Bool.not_true, cond_false, cond_true]
 have hw : (bndL 0 a0.2.1).length ≤ maxLen := by unfold maxLen; omega
 refine (pf12_Lift.L0.rng (N := N) _ _ _ (hw) _ _ N 0 _ (by have := le_fuel (hw) hN; omega) (Nat.zero_le _)).trans ?_
 refine (pf12_Lift.L0.law _ _ _ _ _ (fun k hk => hm.2 k hk) hlen (R := kr [] 1) (fun _ => rfl) a0.2.1 [] _ _ rfl (by omega) hv.place).trans ?_
 simp only [List.length_nil, List.drop_zero]
 unfold over
 cases (List.any (List.zip a0.2.1 a1) _) <;> rfl
theorem pf12_Lift.ok : FentOk P 16 pf12_Lift.fent := fentOk_of (by kernel_rfl) fun ds hk => by
 obtain ⟨a0, l0, rfl, h0⟩ := ds_cons hk
 obtain ⟨a1, l1, rfl, h1⟩ := ds_cons h0
 obtain rfl := ds0 h1
 exact ⟨true, [.own (.int .i64) (pf12_Lift.spec a0 a1).1, .dat (.int .i64) (pf12_Lift.spec a0 a1).2], fun h hw => pf12_Lift.calls 18446744073709551616 a0 a1 (pf12_Lift.law (Nat.le_refl _) a0 a1 hw.1 hw.2.1 _), fun α k => rfl⟩
end Go.VI
namespace Go.VI
open Go Go.Proofs
namespace pf09_SameArcs
def an47 : Ann := [(4, [0, 1, 5], [4])]
def L0.sh : Sh := { sl := [(0, SV.a (SA.d ((K.int IntKind.i64).pr (K.int IntKind.i64)).st.sl)), (1, SV.a (SA.d ((K.int IntKind.i64).pr (K.int IntKind.i64)).st.sl)), (5, SV.a (SA.d (K.int IntKind.i64)))], os := [], nx := 0 }
def L0.x0 : Sh := { sl := [(4, SV.a (SA.d K.bool))], os := [], nx := 0 }
def L0.x1 : Sh := { sl := [(4, SV.j)], os := [], nx := 0 }
def L0.st {α : Type} (N : Nat) (x0 : (List (Int × Int))) (x1 : (List (Int × Int))) (φ : (Int → Option α)) (x2 : Int) (k0 : (Bool → Option α)) (k1 : Option α) : Option α :=
 cond (decide (x2 < (↑x0.length : Int))) (cond (decide (0 ≤ x2) && decide (x2 < (↑x0.length : Int))) (cond (decide (0 ≤ x2) && decide (x2 < (↑x1.length : Int))) (cond (!((x0.getD x2.toNat ((0 : Int), (0 : Int))).fst == (x1.getD x2.toNat ((0 : Int), (0 : Int))).fst && ((x0.getD x2.toNat ((0 : Int), (0 : Int))).snd == (x1.getD x2.toNat ((0 : Int), (0 : Int))).snd && true))) (k0 (false)) (φ (IntKind.i64.wrap (x2 + 1)))) (none)) (none)) (k1 )
def L0.f {α : Type} (N : Nat) (c0 : (List (Int × Int))) (c1 : (List (Int × Int))) : Nat → Int → (Bool → Option α) → Option α → Option α
 | 0, _, _, _ => none
 | n + 1, d0, k0, k1 => L0.st N c0 c1 (fun e0 => L0.f N c0 c1 n e0 k0 k1) d0 k0 k1
def L0.up (d : L0.sh.T) (e0 : Int) : L0.sh.T := ((d.1.1, (d.1.2.1, (e0, ()))), ())
def L0.k0 {α : Type} (d : L0.sh.T) (K : Cont α) : (Bool → Option α) := fun y0 => K (Exit.ret) (L0.x0.enc ((y0, ()), ()))
def L0.k1 {α : Type} (d : L0.sh.T) (K : Cont α) : Option α := K (Exit.exit 0) (L0.x1.enc (((), ()), ()))
def L0.F {α : Type} (N : Nat) (d : L0.sh.T) (K : Cont α) : Option α := L0.f N d.1.1 d.1.2.1 N d.1.2.2.1 (L0.k0 d K) (L0.k1 d K)
def ents47 {α : Type} (N : Nat) : List (SmE α) := [⟨0, 50, 4, [⟨L0.sh, L0.F N⟩]⟩]
def C (N : Nat) : Ctx := ⟨tys, [], [], N⟩
def L0.B {α : Type} (N : Nat) : Env → Cont α → Option α := evC tys 26 0 (evCall (C N) 50) (evCallQ (C N)) N an47 (smL (ents47 N) 0 50) (loopOf 4 Tryd.f47)
theorem L0.r {α : Type} (N : Nat) (φ : Env → Option α) (K : Cont α) (d : L0.sh.T) : L0.B N (L0.sh.enc d) (contL φ K (Env.norm 0 [0, 1, 5]) (Env.norm 0 [4])) = L0.st N d.1.1 d.1.2.1 (fun e0 => φ (L0.sh.enc (L0.up d e0))) d.1.2.2.1 (L0.k0 d K) (L0.k1 d K) := by kernel_rfl
theorem L0.e {α : Type} (N : Nat) : ∀ (n : Nat) (d : L0.sh.T) (K : Cont α), evL (L0.B N) (Env.norm 0 [0, 1, 5]) (Env.norm 0 [4]) n (L0.sh.enc d) K = L0.f N d.1.1 d.1.2.1 n d.1.2.2.1 (L0.k0 d K) (L0.k1 d K)
 | 0, d, K => rfl
 | n + 1, d, K => evL_contL.trans ((L0.r N _ K d).trans (congrArg (fun φ => L0.st N d.1.1 d.1.2.1 φ d.1.2.2.1 (L0.k0 d K) (L0.k1 d K)) (funext fun e0 => L0.e N n (L0.up d e0) K)))
theorem ents47_ok {α : Type} (N : Nat) : AllP (EntOk (C N) Tryd.f47 an47 (ents47 (α := α) N)) (ents47 N) := ⟨entOk_of (b0 := loopOf 4 Tryd.f47) (li0 := [0, 1, 5]) (lx0 := [4]) (by kernel_rfl) (by kernel_rfl) ⟨fun d K => L0.e N N d K, trivial⟩, trivial⟩
def g {α : Type} (N : Nat) (a0 : List (Int × Int)) (a1 : List (Int × Int)) (kr : (Bool → Option α)) : Option α :=
 cond ((↑a0.length : Int) != (↑a1.length : Int)) (kr (false)) (L0.f N (a0) (a1) N (0) (fun x3 => kr (x3)) (kr (true)))
theorem eq (N : Nat) (a0 : List (Int × Int)) (a1 : List (Int × Int)) : evF (C N) 50 Tryd.f47 an47 (smL (ents47 N) 0 50) [((.bool : K), false)] [⟨.sl (.st (.pr (.int .i64) (.int .i64))), a0⟩, ⟨.sl (.st (.pr (.int .i64) (.int .i64))), a1⟩] = g N a0 a1 (fun r0 => some [.dat (K.bool) r0]) := by kernel_rfl
theorem ctxOk (N : Nat) : CtxOk P (C N) := ctxOk_of tysOk mixedOk trivial trivial
theorem calls (N : Nat) (a0 : List (Int × Int)) (a1 : List (Int × Int)) {rs : List Rs} (h : g N a0 a1 (fun r0 => some [.dat (K.bool) r0]) = some rs) : CallsTo P 47 [⟨.sl (.st (.pr (.int .i64) (.int .i64))), a0⟩, ⟨.sl (.st (.pr (.int .i64) (.int .i64))), a1⟩] rs := evF_calls' (ctxOk N) (by rfl) (ents47_ok N) ((eq N a0 a1).trans h)
def L0.l {α : Type} (N : Nat) (x0 : (List (Int × Int))) (x1 : (List (Int × Int))) (k0 : (Bool → Option α)) (k1 : Option α) : List (Int × Int) → Int → Option α
 | [], x2 => k1 
 | x :: l, x2 => (cond (decide (0 ≤ x2) && decide (x2 < (↑x1.length : Int))) (cond (!(x.fst == (x1.getD x2.toNat ((0 : Int), (0 : Int))).fst && (x.snd == (x1.getD x2.toNat ((0 : Int), (0 : Int))).snd && true))) (k0 (false)) (L0.l N x0 x1 k0 k1 l (x2 + 1))) (none))
theorem L0.rng {α : Type} {N : Nat} (x0 : (List (Int × Int))) (x1 : (List (Int × Int))) (hl : x0.length ≤ maxLen) (k0 : (Bool → Option α)) (k1 : Option α) : ∀ (n j : Nat), x0.length < n + j → j ≤ x0.length → L0.f N x0 x1 n (j : Int) k0 k1 = L0.l N x0 x1 k0 k1 (x0.drop j) (j : Int) :=
 rng0 x0 hl (fun n i => L0.f N x0 x1 n i k0 k1) (fun l i => L0.l N x0 x1 k0 k1 l i) (fun n j hj h ih => by simp only [L0.f, L0.st, L0.l, h.a, h.b, h.c, h.d, h.e, Bool.true_and, Bool.and_true, Bool.and_self, cond_true, ih] <;> rfl) (fun n j h => by simp only [L0.f, L0.st, L0.l, h, cond_false])
end pf09_SameArcs
theorem pf09_SameArcs.L0.law {α : Type} {N : Nat} (x0 : (List (Int × Int))) (x1 : (List (Int × Int))) (k0 : (Bool → Option α)) (k1 : Option α) : ∀ (l : List (Int × Int)) (j : Nat), l.length = (x1.drop j).length → pf09_SameArcs.L0.l N x0 x1 k0 k1 l (j : Int) = cond (decide (l = x1.drop j)) k1 (k0 false)
 | [], j, h => by
  have : x1.drop j = [] := List.eq_nil_of_length_eq_zero (by simpa using h.symm)
  rw [this]
  rfl
 | x :: l, j, h => by
  have hj : j < x1.length := by simp at h; omega
  rw [pf09_SameArcs.L0.l, d_0, d_lt hj, getD_at hj]
  rw [← succ_cast, pf09_SameArcs.L0.law _ _ _ _ l (j + 1) (by simp at h ⊢; omega), List.drop_eq_getElem_cons hj]
  have e : decide (x :: l = x1[j] :: x1.drop (j + 1)) = ((x.1 == x1[j].1 && (x.2 == x1[j].2 && true)) && decide (l = x1.drop (j + 1))) := by
   rw [Bool.eq_iff_iff]
   simp only [decide_eq_true_eq, Bool.and_eq_true, beq_iff_eq, and_true, List.cons.injEq, Prod.ext_iff]
  rw [e]
  cases (x.1 == x1[j].1 && (x.2 == x1[j].2 && true)) <;> rfl
theorem pf09_SameArcs.law {α : Type} {N : Nat} (hN : 18446744073709551616 ≤ N) (a0 : List (Int × Int)) (a1 : List (Int × Int)) (w0 : K.wf (.sl (.st (.pr (.int .i64) (.int .i64)))) a0) (w1 : K.wf (.sl (.st (.pr (.int .i64) (.int .i64)))) a1) (kr : (Bool → Option α)) : pf09_SameArcs.g N a0 a1 kr = kr (pf09_SameArcs.spec a0 a1) := by
 unfold pf09_SameArcs.g pf09_SameArcs.spec
 rw [bne_len]
 by_cases h : a0.length = a1.length
 ·
  rw [beq_t h]
  simp only [Bool.not_true, cond_false]
  refine (pf09_SameArcs.L0.rng (N := N) _ _ (w0.1) _ _ N 0  (by have := le_fuel (w0.1) hN; omega) (Nat.zero_le _)).trans ?_
  rw [List.drop_zero, pf09_SameArcs.L0.law _ _ _ _ _ 0 (by simpa using h), List.drop_zero]
  cases decide (a0 = a1) <;> rfl
 ·
  rw [beq_f h, decide_eq_false (fun hc => h (by rw [hc]))]
  rfl
theorem pf09_SameArcs.ok : FentOk P 47 pf09_SameArcs.fent := fentOk_of (by kernel_rfl) fun ds hk => by
 obtain ⟨a0, l0, rfl, h0⟩ := ds_cons hk
 obtain ⟨a1, l1, rfl, h1⟩ := ds_cons h0
 obtain rfl := ds0 h1
 exact ⟨true, [.dat (.bool) (pf09_SameArcs.spec a0 a1)], fun h hw => pf09_SameArcs.calls 18446744073709551616 a0 a1 (pf09_SameArcs.law (Nat.le_refl _) a0 a1 hw.1 hw.2.1 _), fun α k => rfl⟩
end Go.VI
namespace Go.VI
open Go Go.Proofs
namespace pf09_Equal
def an17 : Ann := [(4, [2, 3, 5], [2, 3, 4]), (9, [2, 3, 6], [4])]
def L0.sh : Sh := { sl := [(2, SV.a (SA.fx (Atom.box 0 0))), (3, SV.a (SA.fx (Atom.box 1 0))), (5, SV.a (SA.d (K.int IntKind.i64)))], os := [(0, SO.box [SA.d K.str, SA.d (K.str.pr ((K.int IntKind.i64).pr (K.int IntKind.i64))).st.sl, SA.d (K.str.pr (((K.int IntKind.i64).pr (K.int IntKind.i64)).st.sl.pr (((K.int IntKind.i64).pr (K.int IntKind.i64)).st.sl.pr (((K.int IntKind.i64).pr (K.int IntKind.i64)).st.sl.pr (K.int IntKind.i64))))).st.sl]), (1, SO.box [SA.d K.str, SA.d (K.str.pr ((K.int IntKind.i64).pr (K.int IntKind.i64))).st.sl, SA.d (K.str.pr (((K.int IntKind.i64).pr (K.int IntKind.i64)).st.sl.pr (((K.int IntKind.i64).pr (K.int IntKind.i64)).st.sl.pr (((K.int IntKind.i64).pr (K.int IntKind.i64)).st.sl.pr (K.int IntKind.i64))))).st.sl])], nx := 2 }
def L0.x0 : Sh := { sl := [(2, SV.a (SA.fx (Atom.box 0 0))), (3, SV.a (SA.fx (Atom.box 1 0))), (4, SV.a (SA.d K.bool))], os := [(0, SO.box [SA.d K.str, SA.d (K.str.pr ((K.int IntKind.i64).pr (K.int IntKind.i64))).st.sl, SA.d (K.str.pr (((K.int IntKind.i64).pr (K.int IntKind.i64)).st.sl.pr (((K.int IntKind.i64).pr (K.int IntKind.i64)).st.sl.pr (((K.int IntKind.i64).pr (K.int IntKind.i64)).st.sl.pr (K.int IntKind.i64))))).st.sl]), (1, SO.box [SA.d K.str, SA.d (K.str.pr ((K.int IntKind.i64).pr (K.int IntKind.i64))).st.sl, SA.d (K.str.pr (((K.int IntKind.i64).pr (K.int IntKind.i64)).st.sl.pr (((K.int IntKind.i64).pr (K.int IntKind.i64)).st.sl.pr (((K.int IntKind.i64).pr (K.int IntKind.i64)).st.sl.pr (K.int IntKind.i64))))).st.sl])], nx := 2 }
def L0.x1 : Sh := { sl := [(2, SV.a (SA.fx (Atom.box 0 0))), (3, SV.a (SA.fx (Atom.box 1 0))), (4, SV.j)], os := [(0, SO.box [SA.d K.str, SA.d (K.str.pr ((K.int IntKind.i64).pr (K.int IntKind.i64))).st.sl, SA.d (K.str.pr (((K.int IntKind.i64).pr (K.int IntKind.i64)).st.sl.pr (((K.int IntKind.i64).pr (K.int IntKind.i64)).st.sl.pr (((K.int IntKind.i64).pr (K.int IntKind.i64)).st.sl.pr (K.int IntKind.i64))))).st.sl]), (1, SO.box [SA.d K.str, SA.d (K.str.pr ((K.int IntKind.i64).pr (K.int IntKind.i64))).st.sl, SA.d (K.str.pr (((K.int IntKind.i64).pr (K.int IntKind.i64)).st.sl.pr (((K.int IntKind.i64).pr (K.int IntKind.i64)).st.sl.pr (((K.int IntKind.i64).pr (K.int IntKind.i64)).st.sl.pr (K.int IntKind.i64))))).st.sl])], nx := 2 }
def L0.st {α : Type} (N : Nat) (x2 : (List (BA × Int × Int))) (x5 : (List (BA × Int × Int))) (φ : (Int → Option α)) (x0 : Int) (k0 : (Bool → Option α)) (k1 : Option α) : Option α :=
 cond (decide (x0 < (↑x2.length : Int))) (cond (decide (0 ≤ x0) && decide (x0 < (↑x2.length : Int))) (cond (decide (0 ≤ x0) && decide (x0 < (↑x5.length : Int))) (cond (!(sEq (x2.getD x0.toNat (eBA, 0, 0)).fst (x5.getD x0.toNat (eBA, 0, 0)).fst && ((x2.getD x0.toNat (eBA, 0, 0)).snd.fst == (x5.getD x0.toNat (eBA, 0, 0)).snd.fst && ((x2.getD x0.toNat (eBA, 0, 0)).snd.snd == (x5.getD x0.toNat (eBA, 0, 0)).snd.snd && true)))) (k0 (false)) (φ (IntKind.i64.wrap (x0 + 1)))) (none)) (none)) (k1 )
def L0.f {α : Type} (N : Nat) (c1 : (List (BA × Int × Int))) (c4 : (List (BA × Int × Int))) : Nat → Int → (Bool → Option α) → Option α → Option α
 | 0, _, _, _ => none
 | n + 1, d0, k0, k1 => L0.st N c1 c4 (fun e0 => L0.f N c1 c4 n e0 k0 k1) d0 k0 k1
def L0.up (d : L0.sh.T) (e0 : Int) : L0.sh.T := (((), ((), (e0, ()))), ((d.2.1.1, (d.2.1.2.1, (d.2.1.2.2.1, ()))), ((d.2.2.1.1, (d.2.2.1.2.1, (d.2.2.1.2.2.1, ()))), ())))
def L0.k0 {α : Type} (d : L0.sh.T) (K : Cont α) : (Bool → Option α) := fun y0 => K (Exit.ret) (L0.x0.enc (((), ((), (y0, ()))), ((d.2.1.1, (d.2.1.2.1, (d.2.1.2.2.1, ()))), ((d.2.2.1.1, (d.2.2.1.2.1, (d.2.2.1.2.2.1, ()))), ()))))
def L0.k1 {α : Type} (d : L0.sh.T) (K : Cont α) : Option α := K (Exit.exit 0) (L0.x1.enc (((), ((), ((), ()))), ((d.2.1.1, (d.2.1.2.1, (d.2.1.2.2.1, ()))), ((d.2.2.1.1, (d.2.2.1.2.1, (d.2.2.1.2.2.1, ()))), ()))))
def L0.F {α : Type} (N : Nat) (d : L0.sh.T) (K : Cont α) : Option α := L0.f N d.2.1.2.1 d.2.2.1.2.1 N d.1.2.2.1 (L0.k0 d K) (L0.k1 d K)
def L1.sh : Sh := { sl := [(2, SV.a (SA.fx (Atom.box 0 0))), (3, SV.a (SA.fx (Atom.box 1 0))), (6, SV.a (SA.d (K.int IntKind.i64)))], os := [(0, SO.box [SA.d K.str, SA.d (K.str.pr ((K.int IntKind.i64).pr (K.int IntKind.i64))).st.sl, SA.d (K.str.pr (((K.int IntKind.i64).pr (K.int IntKind.i64)).st.sl.pr (((K.int IntKind.i64).pr (K.int IntKind.i64)).st.sl.pr (((K.int IntKind.i64).pr (K.int IntKind.i64)).st.sl.pr (K.int IntKind.i64))))).st.sl]), (1, SO.box [SA.d K.str, SA.d (K.str.pr ((K.int IntKind.i64).pr (K.int IntKind.i64))).st.sl, SA.d (K.str.pr (((K.int IntKind.i64).pr (K.int IntKind.i64)).st.sl.pr (((K.int IntKind.i64).pr (K.int IntKind.i64)).st.sl.pr (((K.int IntKind.i64).pr (K.int IntKind.i64)).st.sl.pr (K.int IntKind.i64))))).st.sl])], nx := 2 }
def L1.x0 : Sh := { sl := [(4, SV.a (SA.d K.bool))], os := [], nx := 0 }
def L1.x1 : Sh := { sl := [(4, SV.j)], os := [], nx := 0 }
def L1.st {α : Type} (N : Nat) (x11 : (List (BA × List (Int × Int) × List (Int × Int) × List (Int × Int) × Int))) (x14 : (List (BA × List (Int × Int) × List (Int × Int) × List (Int × Int) × Int))) (φ : (Int → Option α)) (x8 : Int) (k0 : (Bool → Option α)) (k1 : Option α) : Option α :=
 cond (decide (x8 < (↑x11.length : Int))) (cond (decide (0 ≤ x8) && decide (x8 < (↑x11.length : Int))) (cond (decide (0 ≤ x8) && decide (x8 < (↑x14.length : Int))) (cond (decide (0 ≤ x8) && decide (x8 < (↑x11.length : Int))) (cond (decide (0 ≤ x8) && decide (x8 < (↑x14.length : Int))) (cond (!sEq (x11.getD x8.toNat (eBA, [], [], [], 0)).fst (x14.getD x8.toNat (eBA, [], [], [], 0)).fst) (k0 (false)) (cond ((x11.getD x8.toNat (eBA, [], [], [], 0)).snd.snd.snd.snd != (x14.getD x8.toNat (eBA, [], [], [], 0)).snd.snd.snd.snd) (k0 (false)) (cond (!(pf09_SameArcs.spec (x11.getD x8.toNat (eBA, [], [], [], 0)).snd.fst (x14.getD x8.toNat (eBA, [], [], [], 0)).snd.fst)) (k0 (false)) (cond (!(pf09_SameArcs.spec (x11.getD x8.toNat (eBA, [], [], [], 0)).snd.snd.fst (x14.getD x8.toNat (eBA, [], [], [], 0)).snd.snd.fst)) (k0 (false)) (cond (!(pf09_SameArcs.spec (x11.getD x8.toNat (eBA, [], [], [], 0)).snd.snd.snd.fst (x14.getD x8.toNat (eBA, [], [], [], 0)).snd.snd.snd.fst)) (k0 (false)) (φ (IntKind.i64.wrap (x8 + 1)))))))) (none)) (none)) (none)) (none)) (k1 )
def L1.f {α : Type} (N : Nat) (c2 : (List (BA × List (Int × Int) × List (Int × Int) × List (Int × Int) × Int))) (c5 : (List (BA × List (Int × Int) × List (Int × Int) × List (Int × Int) × Int))) : Nat → Int → (Bool → Option α) → Option α → Option α
 | 0, _, _, _ => none
 | n + 1, d0, k0, k1 => L1.st N c2 c5 (fun e0 => L1.f N c2 c5 n e0 k0 k1) d0 k0 k1
def L1.up (d : L1.sh.T) (e0 : Int) : L1.sh.T := (((), ((), (e0, ()))), ((d.2.1.1, (d.2.1.2.1, (d.2.1.2.2.1, ()))), ((d.2.2.1.1, (d.2.2.1.2.1, (d.2.2.1.2.2.1, ()))), ())))
def L1.k0 {α : Type} (d : L1.sh.T) (K : Cont α) : (Bool → Option α) := fun y0 => K (Exit.ret) (L1.x0.enc ((y0, ()), ()))
def L1.k1 {α : Type} (d : L1.sh.T) (K : Cont α) : Option α := K (Exit.exit 2) (L1.x1.enc (((), ()), ()))
def L1.F {α : Type} (N : Nat) (d : L1.sh.T) (K : Cont α) : Option α := L1.f N d.2.1.2.2.1 d.2.2.1.2.2.1 N d.1.2.2.1 (L1.k0 d K) (L1.k1 d K)
def ents17 {α : Type} (N : Nat) : List (SmE α) := [⟨0, 50, 4, [⟨L0.sh, L0.F N⟩]⟩, ⟨0, 50, 9, [⟨L1.sh, L1.F N⟩]⟩]
def C (N : Nat) : Ctx := ⟨tys, [(47, pf09_SameArcs.fent)], [], N⟩
def L0.B {α : Type} (N : Nat) : Env → Cont α → Option α := evC tys 103 0 (evCall (C N) 50) (evCallQ (C N)) N an17 (smL (ents17 N) 0 50) (loopOf 4 Tryd.f17)
theorem L0.r {α : Type} (N : Nat) (φ : Env → Option α) (K : Cont α) (d : L0.sh.T) : L0.B N (L0.sh.enc d) (contL φ K (Env.norm 0 [2, 3, 5]) (Env.norm 0 [2, 3, 4])) = L0.st N d.2.1.2.1 d.2.2.1.2.1 (fun e0 => φ (L0.sh.enc (L0.up d e0))) d.1.2.2.1 (L0.k0 d K) (L0.k1 d K) := by kernel_rfl
theorem L0.e {α : Type} (N : Nat) : ∀ (n : Nat) (d : L0.sh.T) (K : Cont α), evL (L0.B N) (Env.norm 0 [2, 3, 5]) (Env.norm 0 [2, 3, 4]) n (L0.sh.enc d) K = L0.f N d.2.1.2.1 d.2.2.1.2.1 n d.1.2.2.1 (L0.k0 d K) (L0.k1 d K)
 | 0, d, K => rfl
 | n + 1, d, K => evL_contL.trans ((L0.r N _ K d).trans (congrArg (fun φ => L0.st N d.2.1.2.1 d.2.2.1.2.1 φ d.1.2.2.1 (L0.k0 d K) (L0.k1 d K)) (funext fun e0 => L0.e N n (L0.up d e0) K)))
def L1.B {α : Type} (N : Nat) : Env → Cont α → Option α := evC tys 103 0 (evCall (C N) 50) (evCallQ (C N)) N an17 (smL (ents17 N) 0 50) (loopOf 9 Tryd.f17)
theorem L1.r {α : Type} (N : Nat) (φ : Env → Option α) (K : Cont α) (d : L1.sh.T) : L1.B N (L1.sh.enc d) (contL φ K (Env.norm 0 [2, 3, 6]) (Env.norm 0 [4])) = L1.st N d.2.1.2.2.1 d.2.2.1.2.2.1 (fun e0 => φ (L1.sh.enc (L1.up d e0))) d.1.2.2.1 (L1.k0 d K) (L1.k1 d K) := by kernel_rfl
theorem L1.e {α : Type} (N : Nat) : ∀ (n : Nat) (d : L1.sh.T) (K : Cont α), evL (L1.B N) (Env.norm 0 [2, 3, 6]) (Env.norm 0 [4]) n (L1.sh.enc d) K = L1.f N d.2.1.2.2.1 d.2.2.1.2.2.1 n d.1.2.2.1 (L1.k0 d K) (L1.k1 d K)
 | 0, d, K => rfl
 | n + 1, d, K => evL_contL.trans ((L1.r N _ K d).trans (congrArg (fun φ => L1.st N d.2.1.2.2.1 d.2.2.1.2.2.1 φ d.1.2.2.1 (L1.k0 d K) (L1.k1 d K)) (funext fun e0 => L1.e N n (L1.up d e0) K)))
theorem ents17_ok {α : Type} (N : Nat) : AllP (EntOk (C N) Tryd.f17 an17 (ents17 (α := α) N)) (ents17 N) := ⟨entOk_of (b0 := loopOf 4 Tryd.f17) (li0 := [2, 3, 5]) (lx0 := [2, 3, 4]) (by kernel_rfl) (by kernel_rfl) ⟨fun d K => L0.e N N d K, trivial⟩, entOk_of (b0 := loopOf 9 Tryd.f17) (li0 := [2, 3, 6]) (lx0 := [4]) (by kernel_rfl) (by kernel_rfl) ⟨fun d K => L1.e N N d K, trivial⟩, trivial⟩
def g {α : Type} (N : Nat) (a0 : BA × List (BA × Int × Int) × List (BA × List (Int × Int) × List (Int × Int) × List (Int × Int) × Int)) (a1 : BA × List (BA × Int × Int) × List (BA × List (Int × Int) × List (Int × Int) × List (Int × Int) × Int)) (kr : (Bool → Option α)) : Option α :=
 cond (!sEq a0.fst a1.fst) (kr (false)) (cond ((↑(List.length a0.snd.fst) : Int) != (↑(List.length a1.snd.fst) : Int)) (kr (false)) (cond ((↑(List.length a0.snd.snd) : Int) != (↑(List.length a1.snd.snd) : Int)) (kr (false)) (L0.f N (a0.snd.fst) (a1.snd.fst) N (0) (fun x7 => kr (x7)) (L1.f N (a0.snd.snd) (a1.snd.snd) N (0) (fun x15 => kr (x15)) (kr (true))))))
theorem eq (N : Nat) (a0 : BA × List (BA × Int × Int) × List (BA × List (Int × Int) × List (Int × Int) × List (Int × Int) × Int)) (a1 : BA × List (BA × Int × Int) × List (BA × List (Int × Int) × List (Int × Int) × List (Int × Int) × Int)) : evF (C N) 50 Tryd.f17 an17 (smL (ents17 N) 0 50) [((.bool : K), false)] [⟨.st (.pr (.str) (.pr (.sl (.st (.pr (.str) (.pr (.int .i64) (.int .i64))))) (.sl (.st (.pr (.str) (.pr (.sl (.st (.pr (.int .i64) (.int .i64)))) (.pr (.sl (.st (.pr (.int .i64) (.int .i64)))) (.pr (.sl (.st (.pr (.int .i64) (.int .i64)))) (.int .i64))))))))), a0⟩, ⟨.st (.pr (.str) (.pr (.sl (.st (.pr (.str) (.pr (.int .i64) (.int .i64))))) (.sl (.st (.pr (.str) (.pr (.sl (.st (.pr (.int .i64) (.int .i64)))) (.pr (.sl (.st (.pr (.int .i64) (.int .i64)))) (.pr (.sl (.st (.pr (.int .i64) (.int .i64)))) (.int .i64))))))))), a1⟩] = g N a0 a1 (fun r0 => some [.dat (K.bool) r0]) := by kernel_rfl
theorem ctxOk (N : Nat) : CtxOk P (C N) := ctxOk_of tysOk mixedOk ⟨pf09_SameArcs.ok, trivial⟩ trivial
theorem calls (N : Nat) (a0 : BA × List (BA × Int × Int) × List (BA × List (Int × Int) × List (Int × Int) × List (Int × Int) × Int)) (a1 : BA × List (BA × Int × Int) × List (BA × List (Int × Int) × List (Int × Int) × List (Int × Int) × Int)) {rs : List Rs} (h : g N a0 a1 (fun r0 => some [.dat (K.bool) r0]) = some rs) : CallsTo P 17 [⟨.st (.pr (.str) (.pr (.sl (.st (.pr (.str) (.pr (.int .i64) (.int .i64))))) (.sl (.st (.pr (.str) (.pr (.sl (.st (.pr (.int .i64) (.int .i64)))) (.pr (.sl (.st (.pr (.int .i64) (.int .i64)))) (.pr (.sl (.st (.pr (.int .i64) (.int .i64)))) (.int .i64))))))))), a0⟩, ⟨.st (.pr (.str) (.pr (.sl (.st (.pr (.str) (.pr (.int .i64) (.int .i64))))) (.sl (.st (.pr (.str) (.pr (.sl (.st (.pr (.int .i64) (.int .i64)))) (.pr (.sl (.st (.pr (.int .i64) (.int .i64)))) (.pr (.sl (.st (.pr (.int .i64) (.int .i64)))) (.int .i64))))))))), a1⟩] rs := evF_calls' (ctxOk N) (by rfl) (ents17_ok N) ((eq N a0 a1).trans h)
def L0.l {α : Type} (N : Nat) (x2 : (List (BA × Int × Int))) (x5 : (List (BA × Int × Int))) (k0 : (Bool → Option α)) (k1 : Option α) : List (BA × Int × Int) → Int → Option α
 | [], x0 => k1 
 | x :: l, x0 => (cond (decide (0 ≤ x0) && decide (x0 < (↑x5.length : Int))) (cond (!(sEq x.fst (x5.getD x0.toNat (eBA, 0, 0)).fst && (x.snd.fst == (x5.getD x0.toNat (eBA, 0, 0)).snd.fst && (x.snd.snd == (x5.getD x0.toNat (eBA, 0, 0)).snd.snd && true)))) (k0 (false)) (L0.l N x2 x5 k0 k1 l (x0 + 1))) (none))
theorem L0.rng {α : Type} {N : Nat} (x2 : (List (BA × Int × Int))) (x5 : (List (BA × Int × Int))) (hl : x2.length ≤ maxLen) (k0 : (Bool → Option α)) (k1 : Option α) : ∀ (n j : Nat), x2.length < n + j → j ≤ x2.length → L0.f N x2 x5 n (j : Int) k0 k1 = L0.l N x2 x5 k0 k1 (x2.drop j) (j : Int) :=
 rng0 x2 hl (fun n i => L0.f N x2 x5 n i k0 k1) (fun l i => L0.l N x2 x5 k0 k1 l i) (fun n j hj h ih => by simp only [L0.f, L0.st, L0.l, h.a, h.b, h.c, h.d, h.e, Bool.true_and, Bool.and_true, Bool.and_self, cond_true, ih] <;> rfl) (fun n j h => by simp only [L0.f, L0.st, L0.l, h, cond_false])
def L1.l {α : Type} (N : Nat) (x11 : (List (BA × List (Int × Int) × List (Int × Int) × List (Int × Int) × Int))) (x14 : (List (BA × List (Int × Int) × List (Int × Int) × List (Int × Int) × Int))) (k0 : (Bool → Option α)) (k1 : Option α) : List (BA × List (Int × Int) × List (Int × Int) × List (Int × Int) × Int) → Int → Option α
 | [], x8 => k1 
 | x :: l, x8 => (cond (decide (0 ≤ x8) && decide (x8 < (↑x14.length : Int))) ((cond (decide (0 ≤ x8) && decide (x8 < (↑x14.length : Int))) (cond (!sEq x.fst (x14.getD x8.toNat (eBA, [], [], [], 0)).fst) (k0 (false)) (cond (x.snd.snd.snd.snd != (x14.getD x8.toNat (eBA, [], [], [], 0)).snd.snd.snd.snd) (k0 (false)) (cond (!(pf09_SameArcs.spec x.snd.fst (x14.getD x8.toNat (eBA, [], [], [], 0)).snd.fst)) (k0 (false)) (cond (!(pf09_SameArcs.spec x.snd.snd.fst (x14.getD x8.toNat (eBA, [], [], [], 0)).snd.snd.fst)) (k0 (false)) (cond (!(pf09_SameArcs.spec x.snd.snd.snd.fst (x14.getD x8.toNat (eBA, [], [], [], 0)).snd.snd.snd.fst)) (k0 (false)) (L1.l N x11 x14 k0 k1 l (x8 + 1))))))) (none))) (none))
theorem L1.rng {α : Type} {N : Nat} (x11 : (List (BA × List (Int × Int) × List (Int × Int) × List (Int × Int) × Int))) (x14 : (List (BA × List (Int × Int) × List (Int × Int) × List (Int × Int) × Int))) (hl : x11.length ≤ maxLen) (k0 : (Bool → Option α)) (k1 : Option α) : ∀ (n j : Nat), x11.length < n + j → j ≤ x11.length → L1.f N x11 x14 n (j : Int) k0 k1 = L1.l N x11 x14 k0 k1 (x11.drop j) (j : Int) :=
 rng0 x11 hl (fun n i => L1.f N x11 x14 n i k0 k1) (fun l i => L1.l N x11 x14 k0 k1 l i) (fun n j hj h ih => by simp only [L1.f, L1.st, L1.l, h.a, h.b, h.c, h.d, h.e, Bool.true_and, Bool.and_true, Bool.and_self, cond_true, ih] <;> rfl) (fun n j h => by simp only [L1.f, L1.st, L1.l, h, cond_false])
end pf09_Equal
theorem pf09_Equal.L0.law {α : Type} {N : Nat} (x2 : (List (BA × Int × Int))) (x5 : (List (BA × Int × Int))) (k0 : (Bool → Option α)) (k1 : Option α) : ∀ (l : List PlaceT) (j : Nat), l.length = (x5.drop j).length → pf09_Equal.L0.l N x2 x5 k0 k1 l (j : Int) = cond (allQ placeQ l (x5.drop j)) k1 (k0 false)
 | [], j, h => by
  have : x5.drop j = [] := List.eq_nil_of_length_eq_zero (by simpa using h.symm)
  rw [this]
  rfl
 | x :: l, j, h => by
  have hj : j < x5.length := by simp at h; omega
  rw [pf09_Equal.L0.l, d_0, d_lt hj, getD_at hj, ← succ_cast, pf09_Equal.L0.law _ _ _ _ l (j + 1) (by simp at h ⊢; omega), List.drop_eq_getElem_cons hj, allQ]
  have e : (sEq x.1 x5[j].1 && (x.2.1 == x5[j].2.1 && (x.2.2 == x5[j].2.2 && true))) = placeQ x x5[j] := by unfold placeQ; rw [Bool.and_true]
  rw [e]
  cases placeQ x x5[j] <;> rfl
theorem pf09_Equal.L1.law {α : Type} {N : Nat} (x11 : (List (BA × List (Int × Int) × List (Int × Int) × List (Int × Int) × Int))) (x14 : (List (BA × List (Int × Int) × List (Int × Int) × List (Int × Int) × Int))) (k0 : (Bool → Option α)) (k1 : Option α) : ∀ (l : List TransT) (j : Nat), l.length = (x14.drop j).length → pf09_Equal.L1.l N x11 x14 k0 k1 l (j : Int) = cond (allQ transQ l (x14.drop j)) k1 (k0 false)
 | [], j, h => by
  have : x14.drop j = [] := List.eq_nil_of_length_eq_zero (by simpa using h.symm)
  rw [this]
  rfl
 | x :: l, j, h => by
  have hj : j < x14.length := by simp at h; omega
  rw [pf09_Equal.L1.l, d_0, d_lt hj, getD_at hj, ← succ_cast, pf09_Equal.L1.law _ _ _ _ l (j + 1) (by simp at h ⊢; omega), List.drop_eq_getElem_cons hj, allQ]
  unfold transQ pf09_SameArcs.spec
  simp only [Bool.and_self, cond_true, bne]
  cases sEq x.1 x14[j].1
  ·
   rfl
  cases (x.2.2.2.2 == x14[j].2.2.2.2)
  ·
   rfl
  cases decide (x.2.1 = x14[j].2.1)
  ·
   rfl
  cases decide (x.2.2.1 = x14[j].2.2.1)
  ·
   rfl
  cases decide (x.2.2.2.1 = x14[j].2.2.2.1) <;> rfl
theorem allQ_len {β : Type} {f : β → β → Bool} : ∀ {l m : List β}, allQ f l m = true → l.length = m.length
 | [], [], _ => rfl
 | _ :: _, _ :: _, h => by
  simp only [allQ, Bool.and_eq_true] at h
  simp [allQ_len h.2]
 | [], _ :: _, h => by cases h
 | _ :: _, [], h => by cases h
theorem allQ_ne {β : Type} {f : β → β → Bool} {l m : List β} (h : l.length ≠ m.length) : allQ f l m = false := by
 cases hb : allQ f l m
 ·
  rfl
 ·
  exact absurd (allQ_len hb) h
theorem pf09_Equal.law {α : Type} {N : Nat} (hN : 18446744073709551616 ≤ N) (a0 : BA × (List (BA × Int × Int)) × List (BA × (List (Int × Int)) × (List (Int × Int)) × (List (Int × Int)) × Int)) (a1 : BA × (List (BA × Int × Int)) × List (BA × (List (Int × Int)) × (List (Int × Int)) × (List (Int × Int)) × Int)) (w0 : K.wf (.st (.pr (.str) (.pr (.sl (.st (.pr (.str) (.pr (.int .i64) (.int .i64))))) (.sl (.st (.pr (.str) (.pr (.sl (.st (.pr (.int .i64) (.int .i64)))) (.pr (.sl (.st (.pr (.int .i64) (.int .i64)))) (.pr (.sl (.st (.pr (.int .i64) (.int .i64)))) (.int .i64)))))))))) a0) (w1 : K.wf (.st (.pr (.str) (.pr (.sl (.st (.pr (.str) (.pr (.int .i64) (.int .i64))))) (.sl (.st (.pr (.str) (.pr (.sl (.st (.pr (.int .i64) (.int .i64)))) (.pr (.sl (.st (.pr (.int .i64) (.int .i64)))) (.pr (.sl (.st (.pr (.int .i64) (.int .i64)))) (.int .i64)))))))))) a1) (kr : (Bool → Option α)) : pf09_Equal.g N a0 a1 kr = kr (pf09_Equal.spec a0 a1) := by
 unfold pf09_Equal.g pf09_Equal.spec equalN
 rw [bne_len, bne_len]
 cases sEq a0.1 a1.1
 ·
  rfl
 simp only [Bool.not_true, cond_false, Bool.true_and]
 by_cases h1 : List.length a0.2.1 = List.length a1.2.1
 ·
  rw [beq_t h1]
  by_cases h2 : List.length a0.2.2 = List.length a1.2.2
  ·
   rw [beq_t h2]
   simp only [Bool.not_true, cond_false]
   refine (pf09_Equal.L0.rng (N := N) _ _ (w0.2.1.1) _ _ N 0  (by have := le_fuel (w0.2.1.1) hN; omega) (Nat.zero_le _)).trans ?_
   rw [List.drop_zero, pf09_Equal.L0.law _ _ _ _ _ 0 (by simpa using h1), List.drop_zero]
   cases allQ placeQ a0.2.1 a1.2.1
   ·
    rfl
   simp only [cond_true, Bool.true_and]
   refine (pf09_Equal.L1.rng (N := N) _ _ (w0.2.2.1) _ _ N 0  (by have := le_fuel (w0.2.2.1) hN; omega) (Nat.zero_le _)).trans ?_
   rw [List.drop_zero, pf09_Equal.L1.law _ _ _ _ _ 0 (by simpa using h2), List.drop_zero]
   cases allQ transQ a0.2.2 a1.2.2 <;> rfl
  ·
   rw [beq_f h2, allQ_ne h2]
   simp
 ·
  rw [beq_f h1, allQ_ne h1]
  rfl
theorem pf09_Equal.ok : FentOk P 17 pf09_Equal.fent := fentOk_of (by kernel_rfl) fun ds hk => by
 obtain ⟨a0, l0, rfl, h0⟩ := ds_cons hk
 obtain ⟨a1, l1, rfl, h1⟩ := ds_cons h0
 obtain rfl := ds0 h1
 exact ⟨true, [.dat (.bool) (pf09_Equal.spec a0 a1)], fun h hw => pf09_Equal.calls 18446744073709551616 a0 a1 (pf09_Equal.law (Nat.le_refl _) a0 a1 hw.1 hw.2.1 _), fun α k => rfl⟩
end Go.VI
namespace Go.VI
open Go Go.Proofs
namespace pf04_Same
def an18 : Ann := [(4, [0, 1, 5], [4])]
def L0.sh : Sh := { sl := [(0, SV.a (SA.d (K.int IntKind.i64).sl)), (1, SV.a (SA.d (K.int IntKind.i64).sl)), (5, SV.a (SA.d (K.int IntKind.i64)))], os := [], nx := 0 }
def L0.x0 : Sh := { sl := [(4, SV.a (SA.d K.bool))], os := [], nx := 0 }
def L0.x1 : Sh := { sl := [(4, SV.j)], os := [], nx := 0 }
def L0.st {α : Type} (N : Nat) (x0 : (List Int)) (x1 : (List Int)) (φ : (Int → Option α)) (x2 : Int) (k0 : (Bool → Option α)) (k1 : Option α) : Option α :=
 cond (decide (x2 < (↑x0.length : Int))) (cond (decide (0 ≤ x2) && decide (x2 < (↑x0.length : Int))) (cond (decide (0 ≤ x2) && decide (x2 < (↑x1.length : Int))) (cond (x0.getD x2.toNat 0 != x1.getD x2.toNat (0 : Int)) (k0 (false)) (φ (IntKind.i64.wrap (x2 + 1)))) (none)) (none)) (k1 )
def L0.f {α : Type} (N : Nat) (c0 : (List Int)) (c1 : (List Int)) : Nat → Int → (Bool → Option α) → Option α → Option α
 | 0, _, _, _ => none
 | n + 1, d0, k0, k1 => L0.st N c0 c1 (fun e0 => L0.f N c0 c1 n e0 k0 k1) d0 k0 k1
def L0.up (d : L0.sh.T) (e0 : Int) : L0.sh.T := ((d.1.1, (d.1.2.1, (e0, ()))), ())
def L0.k0 {α : Type} (d : L0.sh.T) (K : Cont α) : (Bool → Option α) := fun y0 => K (Exit.ret) (L0.x0.enc ((y0, ()), ()))
def L0.k1 {α : Type} (d : L0.sh.T) (K : Cont α) : Option α := K (Exit.exit 0) (L0.x1.enc (((), ()), ()))
def L0.F {α : Type} (N : Nat) (d : L0.sh.T) (K : Cont α) : Option α := L0.f N d.1.1 d.1.2.1 N d.1.2.2.1 (L0.k0 d K) (L0.k1 d K)
def ents18 {α : Type} (N : Nat) : List (SmE α) := [⟨0, 50, 4, [⟨L0.sh, L0.F N⟩]⟩]
def C (N : Nat) : Ctx := ⟨tys, [], [], N⟩
def L0.B {α : Type} (N : Nat) : Env → Cont α → Option α := evC tys 26 0 (evCall (C N) 50) (evCallQ (C N)) N an18 (smL (ents18 N) 0 50) (loopOf 4 Tryd.f18)
theorem L0.r {α : Type} (N : Nat) (φ : Env → Option α) (K : Cont α) (d : L0.sh.T) : L0.B N (L0.sh.enc d) (contL φ K (Env.norm 0 [0, 1, 5]) (Env.norm 0 [4])) = L0.st N d.1.1 d.1.2.1 (fun e0 => φ (L0.sh.enc (L0.up d e0))) d.1.2.2.1 (L0.k0 d K) (L0.k1 d K) := by kernel_rfl
theorem L0.e {α : Type} (N : Nat) : ∀ (n : Nat) (d : L0.sh.T) (K : Cont α), evL (L0.B N) (Env.norm 0 [0, 1, 5]) (Env.norm 0 [4]) n (L0.sh.enc d) K = L0.f N d.1.1 d.1.2.1 n d.1.2.2.1 (L0.k0 d K) (L0.k1 d K)
 | 0, d, K => rfl
 | n + 1, d, K => evL_contL.trans ((L0.r N _ K d).trans (congrArg (fun φ => L0.st N d.1.1 d.1.2.1 φ d.1.2.2.1 (L0.k0 d K) (L0.k1 d K)) (funext fun e0 => L0.e N n (L0.up d e0) K)))
theorem ents18_ok {α : Type} (N : Nat) : AllP (EntOk (C N) Tryd.f18 an18 (ents18 (α := α) N)) (ents18 N) := ⟨entOk_of (b0 := loopOf 4 Tryd.f18) (li0 := [0, 1, 5]) (lx0 := [4]) (by kernel_rfl) (by kernel_rfl) ⟨fun d K => L0.e N N d K, trivial⟩, trivial⟩
def g {α : Type} (N : Nat) (a0 : List Int) (a1 : List Int) (kr : (Bool → Option α)) : Option α :=
 cond ((↑a0.length : Int) != (↑a1.length : Int)) (kr (false)) (L0.f N (a0) (a1) N (0) (fun x3 => kr (x3)) (kr (true)))
theorem eq (N : Nat) (a0 : List Int) (a1 : List Int) : evF (C N) 50 Tryd.f18 an18 (smL (ents18 N) 0 50) [((.bool : K), false)] [⟨.sl (.int .i64), a0⟩, ⟨.sl (.int .i64), a1⟩] = g N a0 a1 (fun r0 => some [.dat (K.bool) r0]) := by kernel_rfl
theorem ctxOk (N : Nat) : CtxOk P (C N) := ctxOk_of tysOk mixedOk trivial trivial
theorem calls (N : Nat) (a0 : List Int) (a1 : List Int) {rs : List Rs} (h : g N a0 a1 (fun r0 => some [.dat (K.bool) r0]) = some rs) : CallsTo P 18 [⟨.sl (.int .i64), a0⟩, ⟨.sl (.int .i64), a1⟩] rs := evF_calls' (ctxOk N) (by rfl) (ents18_ok N) ((eq N a0 a1).trans h)
def L0.l {α : Type} (N : Nat) (x0 : (List Int)) (x1 : (List Int)) (k0 : (Bool → Option α)) (k1 : Option α) : List Int → Int → Option α
 | [], x2 => k1 
 | x :: l, x2 => (cond (decide (0 ≤ x2) && decide (x2 < (↑x1.length : Int))) (cond (x != x1.getD x2.toNat (0 : Int)) (k0 (false)) (L0.l N x0 x1 k0 k1 l (x2 + 1))) (none))
theorem L0.rng {α : Type} {N : Nat} (x0 : (List Int)) (x1 : (List Int)) (hl : x0.length ≤ maxLen) (k0 : (Bool → Option α)) (k1 : Option α) : ∀ (n j : Nat), x0.length < n + j → j ≤ x0.length → L0.f N x0 x1 n (j : Int) k0 k1 = L0.l N x0 x1 k0 k1 (x0.drop j) (j : Int) :=
 rng0 x0 hl (fun n i => L0.f N x0 x1 n i k0 k1) (fun l i => L0.l N x0 x1 k0 k1 l i) (fun n j hj h ih => by simp only [L0.f, L0.st, L0.l, h.a, h.b, h.c, h.d, h.e, Bool.true_and, Bool.and_true, Bool.and_self, cond_true, ih] <;> rfl) (fun n j h => by simp only [L0.f, L0.st, L0.l, h, cond_false])
end pf04_Same
theorem pf04_Same.L0.law {α : Type} {N : Nat} (x0 : (List Int)) (x1 : (List Int)) (k0 : (Bool → Option α)) (k1 : Option α) : ∀ (l : List Int) (j : Nat), l.length = (x1.drop j).length → pf04_Same.L0.l N x0 x1 k0 k1 l (j : Int) = cond (l == x1.drop j) k1 (k0 false)
 | [], j, h => by
  have : x1.drop j = [] := List.eq_nil_of_length_eq_zero (by simpa using h.symm)
  rw [this]
  rfl
 | x :: l, j, h => by
  have hj : j < x1.length := by simp at h; omega
  rw [pf04_Same.L0.l, d_0, d_lt hj, getD_at hj]
  rw [← succ_cast, pf04_Same.L0.law _ _ _ _ l (j + 1) (by simp at h ⊢; omega), List.drop_eq_getElem_cons hj]
  simp only [List.cons_beq_cons, bne]
  cases (x == x1[j]) <;> rfl
theorem pf04_Same.law {α : Type} {N : Nat} (hN : 18446744073709551616 ≤ N) (a0 : List Int) (a1 : List Int) (w0 : K.wf (.sl (.int .i64)) a0) (w1 : K.wf (.sl (.int .i64)) a1) (kr : (Bool → Option α)) : pf04_Same.g N a0 a1 kr = kr (pf04_Same.spec a0 a1) := by
 unfold pf04_Same.g pf04_Same.spec
 rw [bne_len]
 by_cases h : a0.length = a1.length
 ·
  rw [beq_t h]
  simp only [Bool.not_true, cond_false]
  refine (pf04_Same.L0.rng (N := N) _ _ (w0.1) _ _ N 0  (by have := le_fuel (w0.1) hN; omega) (Nat.zero_le _)).trans ?_
  rw [List.drop_zero, pf04_Same.L0.law _ _ _ _ _ 0 (by simpa using h), List.drop_zero]
  cases a0 == a1 <;> rfl
 ·
  rw [beq_f h]
  have : (a0 == a1) = false := by
   simp only [beq_eq_false_iff_ne, ne_eq]
   exact fun hc => h (by rw [hc])
  rw [this]
  rfl
theorem pf04_Same.ok : FentOk P 18 pf04_Same.fent := fentOk_of (by kernel_rfl) fun ds hk => by
 obtain ⟨a0, l0, rfl, h0⟩ := ds_cons hk
 obtain ⟨a1, l1, rfl, h1⟩ := ds_cons h0
 obtain rfl := ds0 h1
 exact ⟨true, [.dat (.bool) (pf04_Same.spec a0 a1)], fun h hw => pf04_Same.calls 18446744073709551616 a0 a1 (pf04_Same.law (Nat.le_refl _) a0 a1 hw.1 hw.2.1 _), fun α k => rfl⟩
end Go.VI
namespace Go.VI
open Go Go.Proofs
theorem placeQ_iff {p q : PlaceT} : placeQ p q = true ↔ p = q := by
 unfold placeQ
 simp only [Bool.and_eq_true, sEq_iff, beq_iff_eq]
 exact ⟨fun ⟨a, b, c⟩ => Prod.ext a (Prod.ext b c), fun h => by rw [h]; exact ⟨rfl, rfl, rfl⟩⟩
theorem transQ_iff {x y : TransT} : transQ x y = true ↔ x = y := by
 unfold transQ
 simp only [Bool.and_eq_true, sEq_iff, beq_iff_eq, decide_eq_true_eq]
 exact ⟨fun ⟨⟨⟨⟨a, b⟩, c⟩, d⟩, e⟩ => Prod.ext a (Prod.ext c (Prod.ext d (Prod.ext e b))), fun h => by rw [h]; exact ⟨⟨⟨⟨rfl, rfl⟩, rfl⟩, rfl⟩, rfl⟩⟩
theorem allQ_iff {α : Type} {f : α → α → Bool} (hf : ∀ x y, f x y = true ↔ x = y) : ∀ {l m : List α}, allQ f l m = true ↔ l = m
 | [], [] => by simp [allQ]
 | x :: l, y :: m => by
  rw [allQ, Bool.and_eq_true, hf, allQ_iff hf]
  simp
 | [], _ :: _ => by simp [allQ]
 | _ :: _, [] => by simp [allQ]
theorem equalN_iff {a b : NetT} : equalN a b = true ↔ a = b := by
 unfold equalN
 rw [Bool.and_eq_true, Bool.and_eq_true, sEq_iff, allQ_iff (fun _ _ => placeQ_iff), allQ_iff (fun _ _ => transQ_iff)]
 exact ⟨fun ⟨⟨h1, h2⟩, h3⟩ => Prod.ext h1 (Prod.ext h2 h3), fun h => by rw [h]; exact ⟨⟨rfl, rfl⟩, rfl⟩⟩
theorem equalN_refl (a : NetT) : equalN a a = true := equalN_iff.2 rfl
end Go.VI
namespace Go.VI
open Go Go.Proofs
namespace pl12_TransformComplements
def an3 : Ann := []
def ents3 {α : Type} (N : Nat) : List (SmE α) := []
def C (N : Nat) : Ctx := ⟨tys, [(11, pf09_Small.fent), (12, pl12_lives.fent), (13, tf_Complement.fent), (14, pf12_Complement.fent), (15, tf_Lift.fent), (16, pf12_Lift.fent), (17, pf09_Equal.fent), (18, pf04_Same.fent)], [], N⟩
theorem ents3_ok {α : Type} (N : Nat) : AllP (EntOk (C N) Tryd.f3 an3 (ents3 (α := α) N)) (ents3 N) := trivial
def g {α : Type} (N : Nat) (a0 : BA × List (BA × Int × Int) × List (BA × List (Int × Int) × List (Int × Int) × List (Int × Int) × Int)) (a1 : List Int) (kr : (Bool → Option α)) : Option α :=
 lt (pf09_Small.spec a0) fun v0 => cond (!v0.snd) (kr (pl12_lives.spec)) (cond (decide (30 < (↑a1.length : Int))) (kr (pl12_lives.spec)) (cond ((pf09_Equal.spec (tf_Complement.spec v0.fst).fst (pf12_Complement.spec v0.fst).fst)) (cond ((tf_Complement.spec v0.fst).snd == (pf12_Complement.spec v0.fst).snd) (cond ((pf04_Same.spec (tf_Lift.spec v0.fst a1).fst (pf12_Lift.spec v0.fst a1).fst)) (cond ((tf_Lift.spec v0.fst a1).snd == (pf12_Lift.spec v0.fst a1).snd) (kr (pl12_lives.spec)) (kr (false))) (kr (false))) (kr (false))) (kr (false))))
theorem eq (N : Nat) (a0 : BA × List (BA × Int × Int) × List (BA × List (Int × Int) × List (Int × Int) × List (Int × Int) × Int)) (a1 : List Int) : evF (C N) 50 Tryd.f3 an3 (smL (ents3 N) 0 50) [((.bool : K), false)] [⟨.st (.pr (.str) (.pr (.sl (.st (.pr (.str) (.pr (.int .i64) (.int .i64))))) (.sl (.st (.pr (.str) (.pr (.sl (.st (.pr (.int .i64) (.int .i64)))) (.pr (.sl (.st (.pr (.int .i64) (.int .i64)))) (.pr (.sl (.st (.pr (.int .i64) (.int .i64)))) (.int .i64))))))))), a0⟩, ⟨.sl (.int .i64), a1⟩] = g N a0 a1 (fun r0 => some [.dat (K.bool) r0]) := by kernel_rfl
theorem ctxOk (N : Nat) : CtxOk P (C N) := ctxOk_of tysOk mixedOk ⟨pf09_Small.ok, pl12_lives.ok, tf_Complement.ok, pf12_Complement.ok, tf_Lift.ok, pf12_Lift.ok, pf09_Equal.ok, pf04_Same.ok, trivial⟩ trivial
theorem calls (N : Nat) (a0 : BA × List (BA × Int × Int) × List (BA × List (Int × Int) × List (Int × Int) × List (Int × Int) × Int)) (a1 : List Int) {rs : List Rs} (h : g N a0 a1 (fun r0 => some [.dat (K.bool) r0]) = some rs) : CallsTo P 3 [⟨.st (.pr (.str) (.pr (.sl (.st (.pr (.str) (.pr (.int .i64) (.int .i64))))) (.sl (.st (.pr (.str) (.pr (.sl (.st (.pr (.int .i64) (.int .i64)))) (.pr (.sl (.st (.pr (.int .i64) (.int .i64)))) (.pr (.sl (.st (.pr (.int .i64) (.int .i64)))) (.int .i64))))))))), a0⟩, ⟨.sl (.int .i64), a1⟩] rs := evF_calls' (ctxOk N) (by rfl) (ents3_ok N) ((eq N a0 a1).trans h)
end pl12_TransformComplements
theorem pl12_TransformComplements.law {α : Type} {N : Nat} (hN : 18446744073709551616 ≤ N) (a0 : BA × (List (BA × Int × Int)) × List (BA × (List (Int × Int)) × (List (Int × Int)) × (List (Int × Int)) × Int)) (a1 : List Int) (w0 : K.wf (.st (.pr (.str) (.pr (.sl (.st (.pr (.str) (.pr (.int .i64) (.int .i64))))) (.sl (.st (.pr (.str) (.pr (.sl (.st (.pr (.int .i64) (.int .i64)))) (.pr (.sl (.st (.pr (.int .i64) (.int .i64)))) (.pr (.sl (.st (.pr (.int .i64) (.int .i64)))) (.int .i64)))))))))) a0) (w1 : K.wf (.sl (.int .i64)) a1) (kr : (Bool → Option α)) : pl12_TransformComplements.g N a0 a1 kr = kr (pl12_TransformComplements.spec a0 a1) := by
 unfold pl12_TransformComplements.g pl12_TransformComplements.spec
 simp only [lt, pf09_Small.spec, pl12_lives.spec, pf09_Equal.spec, tf_Complement.spec, pf12_Complement.spec, tf_Lift.spec, pf12_Lift.spec, pf04_Same.spec, equalN_refl, beq_self_eq_true, cond_true]
 cases (cond (smallN a0) (a0, true) (noNet, false)).2 <;> cases decide (30 < (a1.length : Int)) <;> rfl
theorem pl12_TransformComplements.ok : FentOk P 3 pl12_TransformComplements.fent := fentOk_of (by kernel_rfl) fun ds hk => by
 obtain ⟨a0, l0, rfl, h0⟩ := ds_cons hk
 obtain ⟨a1, l1, rfl, h1⟩ := ds_cons h0
 obtain rfl := ds0 h1
 exact ⟨true, [.dat (.bool) (pl12_TransformComplements.spec a0 a1)], fun h hw => pl12_TransformComplements.calls 18446744073709551616 a0 a1 (pl12_TransformComplements.law (Nat.le_refl _) a0 a1 hw.1 hw.2.1 _), fun α k => rfl⟩
theorem transformComplements_calls (x0 : K.T (.st (.pr (.str) (.pr (.sl (.st (.pr (.str) (.pr (.int .i64) (.int .i64))))) (.sl (.st (.pr (.str) (.pr (.sl (.st (.pr (.int .i64) (.int .i64)))) (.pr (.sl (.st (.pr (.int .i64) (.int .i64)))) (.pr (.sl (.st (.pr (.int .i64) (.int .i64)))) (.int .i64))))))))))) (x1 : K.T (.sl (.int .i64))) (w0 : K.wf (.st (.pr (.str) (.pr (.sl (.st (.pr (.str) (.pr (.int .i64) (.int .i64))))) (.sl (.st (.pr (.str) (.pr (.sl (.st (.pr (.int .i64) (.int .i64)))) (.pr (.sl (.st (.pr (.int .i64) (.int .i64)))) (.pr (.sl (.st (.pr (.int .i64) (.int .i64)))) (.int .i64)))))))))) x0) (w1 : K.wf (.sl (.int .i64)) x1) : CallsTo P 3 [⟨.st (.pr (.str) (.pr (.sl (.st (.pr (.str) (.pr (.int .i64) (.int .i64))))) (.sl (.st (.pr (.str) (.pr (.sl (.st (.pr (.int .i64) (.int .i64)))) (.pr (.sl (.st (.pr (.int .i64) (.int .i64)))) (.pr (.sl (.st (.pr (.int .i64) (.int .i64)))) (.int .i64))))))))), x0⟩, ⟨.sl (.int .i64), x1⟩] [.dat .bool true] := pl12_TransformComplements.calls 18446744073709551616 x0 x1 (pl12_TransformComplements.law (Nat.le_refl _) x0 x1 w0 w1 _)
end Go.VI
