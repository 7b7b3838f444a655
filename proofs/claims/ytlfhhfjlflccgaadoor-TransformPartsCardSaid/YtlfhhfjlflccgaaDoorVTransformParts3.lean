/- What the functions that TransformParts calls compute: printed out of the interpreter's normal forms (wip/vi/vigen.py) and proved. -/
import Derived.Test.YtlfhhfjlflccgaaDoorVTransformParts2
import Derived.Test.YtlfhhfjlflccgaaDoorProg
set_option linter.unusedVariables false
set_option linter.unusedSimpArgs false
set_option maxRecDepth 100000
set_option maxHeartbeats 4000000
noncomputable section
namespace Go.VI
open Go Go.Proofs
namespace pf12_Subnet
def an24 : Ann := [(6, [1, 2, 3, 6, 9, 10], [1, 2, 3, 6, 9]), (13, [1, 2, 3, 6, 9, 11], [6, 9])]
def L0.sh : Sh := { sl := [(1, SV.a (SA.d (K.int IntKind.u64))), (2, SV.a (SA.d (K.int IntKind.u64))), (3, SV.a (SA.fx (Atom.box 0 0))), (6, SV.a (SA.fx (Atom.box 1 0))), (9, SV.a (SA.fx (Atom.box 2 0))), (10, SV.a (SA.d (K.int IntKind.i64)))], os := [(0, SO.box [SA.d K.str, SA.d (K.str.pr ((K.int IntKind.i64).pr (K.int IntKind.i64))).st.sl, SA.d (K.str.pr (((K.int IntKind.i64).pr (K.int IntKind.i64)).st.sl.pr (((K.int IntKind.i64).pr (K.int IntKind.i64)).st.sl.pr (((K.int IntKind.i64).pr (K.int IntKind.i64)).st.sl.pr (K.int IntKind.i64))))).st.sl]), (1, SO.box [SA.d K.str, SA.fx (Atom.sl 3 0 none), SA.fx (Atom.sl 4 0 none)]), (2, SO.box [SA.d K.str, SA.fx (Atom.sl 5 0 none), SA.fx (Atom.sl 6 0 none)]), (3, SO.row (K.str.pr ((K.int IntKind.i64).pr (K.int IntKind.i64))).st 0), (4, SO.row (K.str.pr (((K.int IntKind.i64).pr (K.int IntKind.i64)).st.sl.pr (((K.int IntKind.i64).pr (K.int IntKind.i64)).st.sl.pr (((K.int IntKind.i64).pr (K.int IntKind.i64)).st.sl.pr (K.int IntKind.i64))))).st 0), (5, SO.row (K.str.pr ((K.int IntKind.i64).pr (K.int IntKind.i64))).st 0), (6, SO.row (K.str.pr (((K.int IntKind.i64).pr (K.int IntKind.i64)).st.sl.pr (((K.int IntKind.i64).pr (K.int IntKind.i64)).st.sl.pr (((K.int IntKind.i64).pr (K.int IntKind.i64)).st.sl.pr (K.int IntKind.i64))))).st 0)], nx := 7 }
def L0.x0 : Sh := { sl := [(1, SV.a (SA.d (K.int IntKind.u64))), (2, SV.a (SA.d (K.int IntKind.u64))), (3, SV.a (SA.fx (Atom.box 0 0))), (6, SV.a (SA.fx (Atom.box 1 0))), (9, SV.a (SA.fx (Atom.box 2 0)))], os := [(0, SO.box [SA.d K.str, SA.d (K.str.pr ((K.int IntKind.i64).pr (K.int IntKind.i64))).st.sl, SA.d (K.str.pr (((K.int IntKind.i64).pr (K.int IntKind.i64)).st.sl.pr (((K.int IntKind.i64).pr (K.int IntKind.i64)).st.sl.pr (((K.int IntKind.i64).pr (K.int IntKind.i64)).st.sl.pr (K.int IntKind.i64))))).st.sl]), (1, SO.box [SA.d K.str, SA.fx (Atom.sl 3 0 none), SA.fx (Atom.sl 4 0 none)]), (2, SO.box [SA.d K.str, SA.fx (Atom.sl 5 0 none), SA.fx (Atom.sl 6 0 none)]), (3, SO.row (K.str.pr ((K.int IntKind.i64).pr (K.int IntKind.i64))).st 0), (4, SO.row (K.str.pr (((K.int IntKind.i64).pr (K.int IntKind.i64)).st.sl.pr (((K.int IntKind.i64).pr (K.int IntKind.i64)).st.sl.pr (((K.int IntKind.i64).pr (K.int IntKind.i64)).st.sl.pr (K.int IntKind.i64))))).st 0), (5, SO.row (K.str.pr ((K.int IntKind.i64).pr (K.int IntKind.i64))).st 0), (6, SO.row (K.str.pr (((K.int IntKind.i64).pr (K.int IntKind.i64)).st.sl.pr (((K.int IntKind.i64).pr (K.int IntKind.i64)).st.sl.pr (((K.int IntKind.i64).pr (K.int IntKind.i64)).st.sl.pr (K.int IntKind.i64))))).st 0)], nx := 7 }
def L0.st {α : Type} (N : Nat) (x0 : Int) (x1 : Int) (x3 : BA) (x4 : (List (BA × Int × Int))) (x5 : (List (BA × List (Int × Int) × List (Int × Int) × List (Int × Int) × Int))) (x6 : BA) (x7 : BA) (x8 : (List (BA × Int × Int))) (x9 : (List (BA × List (Int × Int) × List (Int × Int) × List (Int × Int) × Int))) (x11 : (List (BA × List (Int × Int) × List (Int × Int) × List (Int × Int) × Int))) (φ : (Int → (List (BA × Int × Int)) → Option α)) (x2 : Int) (x10 : (List (BA × Int × Int))) (k0 : ((List (BA × Int × Int)) → Option α)) : Option α :=
 cond (decide (x2 < (↑x4.length : Int))) (cond (pf06_Has.spec x0 x2) (cond (decide (0 ≤ x2) && decide (x2 < (↑x4.length : Int))) (cond ((x10.length + 1).ble mxl) (φ (IntKind.i64.wrap (x2 + 1)) (x10 ++ [((x4.getD x2.toNat (eBA, 0, 0)).fst, (x4.getD x2.toNat (eBA, 0, 0)).snd.fst, (x4.getD x2.toNat (eBA, 0, 0)).snd.snd)])) (none)) (none)) (φ (IntKind.i64.wrap (x2 + 1)) (x10))) (k0 (x10))
def L0.f {α : Type} (N : Nat) (c0 : Int) (c1 : Int) (c2 : BA) (c3 : (List (BA × Int × Int))) (c4 : (List (BA × List (Int × Int) × List (Int × Int) × List (Int × Int) × Int))) (c5 : BA) (c6 : BA) (c7 : (List (BA × Int × Int))) (c8 : (List (BA × List (Int × Int) × List (Int × Int) × List (Int × Int) × Int))) (c9 : (List (BA × List (Int × Int) × List (Int × Int) × List (Int × Int) × Int))) : Nat → Int → (List (BA × Int × Int)) → ((List (BA × Int × Int)) → Option α) → Option α
 | 0, _, _, _ => none
 | n + 1, d0, d1, k0 => L0.st N c0 c1 c2 c3 c4 c5 c6 c7 c8 c9 (fun e0 e1 => L0.f N c0 c1 c2 c3 c4 c5 c6 c7 c8 c9 n e0 e1 k0) d0 d1 k0
def L0.F {α : Type} (N : Nat) (d : L0.sh.T) (K : Cont α) : Option α := L0.f N d.1.1 d.1.2.1 d.2.1.1 d.2.1.2.1 d.2.1.2.2.1 d.2.2.1.1 d.2.2.2.1.1 d.2.2.2.2.1 d.2.2.2.2.2.1 d.2.2.2.2.2.2.2.1 N d.1.2.2.2.2.2.1 d.2.2.2.2.2.2.1 (fun y0 => K (Exit.exit 0) (L0.x0.enc ((d.1.1, (d.1.2.1, ((), ((), ((), ()))))), ((d.2.1.1, (d.2.1.2.1, (d.2.1.2.2.1, ()))), ((d.2.2.1.1, ((), ((), ()))), ((d.2.2.2.1.1, ((), ((), ()))), (d.2.2.2.2.1, (d.2.2.2.2.2.1, (y0, (d.2.2.2.2.2.2.2.1, ()))))))))))
def L1.sh : Sh := { sl := [(1, SV.a (SA.d (K.int IntKind.u64))), (2, SV.a (SA.d (K.int IntKind.u64))), (3, SV.a (SA.fx (Atom.box 0 0))), (6, SV.a (SA.fx (Atom.box 1 0))), (9, SV.a (SA.fx (Atom.box 2 0))), (11, SV.a (SA.d (K.int IntKind.i64)))], os := [(0, SO.box [SA.d K.str, SA.d (K.str.pr ((K.int IntKind.i64).pr (K.int IntKind.i64))).st.sl, SA.d (K.str.pr (((K.int IntKind.i64).pr (K.int IntKind.i64)).st.sl.pr (((K.int IntKind.i64).pr (K.int IntKind.i64)).st.sl.pr (((K.int IntKind.i64).pr (K.int IntKind.i64)).st.sl.pr (K.int IntKind.i64))))).st.sl]), (1, SO.box [SA.d K.str, SA.fx (Atom.sl 3 0 none), SA.fx (Atom.sl 4 0 none)]), (2, SO.box [SA.d K.str, SA.fx (Atom.sl 5 0 none), SA.fx (Atom.sl 6 0 none)]), (3, SO.row (K.str.pr ((K.int IntKind.i64).pr (K.int IntKind.i64))).st 0), (4, SO.row (K.str.pr (((K.int IntKind.i64).pr (K.int IntKind.i64)).st.sl.pr (((K.int IntKind.i64).pr (K.int IntKind.i64)).st.sl.pr (((K.int IntKind.i64).pr (K.int IntKind.i64)).st.sl.pr (K.int IntKind.i64))))).st 0), (5, SO.row (K.str.pr ((K.int IntKind.i64).pr (K.int IntKind.i64))).st 0), (6, SO.row (K.str.pr (((K.int IntKind.i64).pr (K.int IntKind.i64)).st.sl.pr (((K.int IntKind.i64).pr (K.int IntKind.i64)).st.sl.pr (((K.int IntKind.i64).pr (K.int IntKind.i64)).st.sl.pr (K.int IntKind.i64))))).st 0)], nx := 7 }
def L1.x0 : Sh := { sl := [(6, SV.a (SA.fx (Atom.box 0 0))), (9, SV.a (SA.fx (Atom.box 1 0)))], os := [(0, SO.box [SA.d K.str, SA.fx (Atom.sl 2 0 none), SA.fx (Atom.sl 3 0 none)]), (1, SO.box [SA.d K.str, SA.fx (Atom.sl 4 0 none), SA.fx (Atom.sl 5 0 none)]), (2, SO.row (K.str.pr ((K.int IntKind.i64).pr (K.int IntKind.i64))).st 0), (3, SO.row (K.str.pr (((K.int IntKind.i64).pr (K.int IntKind.i64)).st.sl.pr (((K.int IntKind.i64).pr (K.int IntKind.i64)).st.sl.pr (((K.int IntKind.i64).pr (K.int IntKind.i64)).st.sl.pr (K.int IntKind.i64))))).st 0), (4, SO.row (K.str.pr ((K.int IntKind.i64).pr (K.int IntKind.i64))).st 0), (5, SO.row (K.str.pr (((K.int IntKind.i64).pr (K.int IntKind.i64)).st.sl.pr (((K.int IntKind.i64).pr (K.int IntKind.i64)).st.sl.pr (((K.int IntKind.i64).pr (K.int IntKind.i64)).st.sl.pr (K.int IntKind.i64))))).st 0)], nx := 6 }
def L1.st {α : Type} (N : Nat) (x13 : Int) (x14 : Int) (x16 : BA) (x17 : (List (BA × Int × Int))) (x18 : (List (BA × List (Int × Int) × List (Int × Int) × List (Int × Int) × Int))) (x19 : BA) (x20 : BA) (x21 : (List (BA × Int × Int))) (x22 : (List (BA × List (Int × Int) × List (Int × Int) × List (Int × Int) × Int))) (x23 : (List (BA × Int × Int))) (φ : (Int → (List (BA × List (Int × Int) × List (Int × Int) × List (Int × Int) × Int)) → Option α)) (x15 : Int) (x24 : (List (BA × List (Int × Int) × List (Int × Int) × List (Int × Int) × Int))) (k0 : ((List (BA × List (Int × Int) × List (Int × Int) × List (Int × Int) × Int)) → Option α)) : Option α :=
 cond (decide (x15 < (↑x18.length : Int))) (cond (decide (0 ≤ x15) && decide (x15 < (↑x18.length : Int))) (cond (pf06_Has.spec x14 x15) (cond (pf12_kept.pre (x18.getD x15.toNat (eBA, [], [], [], 0)).snd.fst x13) (cond (pf12_kept.pre (x18.getD x15.toNat (eBA, [], [], [], 0)).snd.snd.fst x13) (cond (pf12_kept.pre (x18.getD x15.toNat (eBA, [], [], [], 0)).snd.snd.snd.fst x13) (cond ((x24.length + 1).ble mxl) (cond (pf12_kept.pre (x18.getD x15.toNat (eBA, [], [], [], 0)).snd.fst x13) (cond (pf12_kept.pre (x18.getD x15.toNat (eBA, [], [], [], 0)).snd.snd.fst x13) (cond (pf12_kept.pre (x18.getD x15.toNat (eBA, [], [], [], 0)).snd.snd.snd.fst x13) (cond ((x24.length + 1).ble mxl) (φ (IntKind.i64.wrap (x15 + 1)) (x24 ++ [((x18.getD x15.toNat (eBA, [], [], [], 0)).fst, pf12_kept.spec (x18.getD x15.toNat (eBA, [], [], [], 0)).snd.fst x13, pf12_kept.spec (x18.getD x15.toNat (eBA, [], [], [], 0)).snd.snd.fst x13, pf12_kept.spec (x18.getD x15.toNat (eBA, [], [], [], 0)).snd.snd.snd.fst x13, (x18.getD x15.toNat (eBA, [], [], [], 0)).snd.snd.snd.snd)])) (none)) (none)) (none)) (none)) (none)) (none)) (none)) (none)) (φ (IntKind.i64.wrap (x15 + 1)) (x24))) (none)) (k0 (x24))
def L1.f {α : Type} (N : Nat) (c0 : Int) (c1 : Int) (c2 : BA) (c3 : (List (BA × Int × Int))) (c4 : (List (BA × List (Int × Int) × List (Int × Int) × List (Int × Int) × Int))) (c5 : BA) (c6 : BA) (c7 : (List (BA × Int × Int))) (c8 : (List (BA × List (Int × Int) × List (Int × Int) × List (Int × Int) × Int))) (c9 : (List (BA × Int × Int))) : Nat → Int → (List (BA × List (Int × Int) × List (Int × Int) × List (Int × Int) × Int)) → ((List (BA × List (Int × Int) × List (Int × Int) × List (Int × Int) × Int)) → Option α) → Option α
 | 0, _, _, _ => none
 | n + 1, d0, d1, k0 => L1.st N c0 c1 c2 c3 c4 c5 c6 c7 c8 c9 (fun e0 e1 => L1.f N c0 c1 c2 c3 c4 c5 c6 c7 c8 c9 n e0 e1 k0) d0 d1 k0
def L1.F {α : Type} (N : Nat) (d : L1.sh.T) (K : Cont α) : Option α := L1.f N d.1.1 d.1.2.1 d.2.1.1 d.2.1.2.1 d.2.1.2.2.1 d.2.2.1.1 d.2.2.2.1.1 d.2.2.2.2.1 d.2.2.2.2.2.1 d.2.2.2.2.2.2.1 N d.1.2.2.2.2.2.1 d.2.2.2.2.2.2.2.1 (fun y0 => K (Exit.exit 2) (L1.x0.enc (((), ((), ())), ((d.2.2.1.1, ((), ((), ()))), ((d.2.2.2.1.1, ((), ((), ()))), (d.2.2.2.2.1, (d.2.2.2.2.2.1, (d.2.2.2.2.2.2.1, (y0, ())))))))))
def ents24 {α : Type} (N : Nat) : List (SmE α) := [⟨0, 50, 6, [⟨L0.sh, L0.F N⟩]⟩, ⟨0, 50, 13, [⟨L1.sh, L1.F N⟩]⟩]
def C (N : Nat) : Ctx := ⟨tys, [(56, pf09_Check.fent), (57, pf06_Has.fent), (58, pf12_kept.fent)], [], N⟩
def L0.B {α : Type} (N : Nat) : Env → Cont α → Option α := evC tys 86 0 (evCall (C N) 50) (evCallQ (C N)) N an24 (smL (ents24 N) 0 50) (loopOf 6 Tryd.f24)
theorem L0.r {α : Type} (N : Nat) (c0 : Int) (c1 : Int) (c2 : BA) (c3 : (List (BA × Int × Int))) (c4 : (List (BA × List (Int × Int) × List (Int × Int) × List (Int × Int) × Int))) (c5 : BA) (c6 : BA) (c7 : (List (BA × Int × Int))) (c8 : (List (BA × List (Int × Int) × List (Int × Int) × List (Int × Int) × Int))) (c9 : (List (BA × List (Int × Int) × List (Int × Int) × List (Int × Int) × Int))) (φ : Env → Option α) (K : Cont α) (d0 : Int) (d1 : (List (BA × Int × Int))) : L0.B N (L0.sh.enc ((c0, (c1, ((), ((), ((), (d0, ())))))), ((c2, (c3, (c4, ()))), ((c5, ((), ((), ()))), ((c6, ((), ((), ()))), (c7, (c8, (d1, (c9, ()))))))))) (contL φ K (Env.norm 0 [1, 2, 3, 6, 9, 10]) (Env.norm 0 [1, 2, 3, 6, 9])) = L0.st N c0 c1 c2 c3 c4 c5 c6 c7 c8 c9 (fun e0 e1 => φ (L0.sh.enc ((c0, (c1, ((), ((), ((), (e0, ())))))), ((c2, (c3, (c4, ()))), ((c5, ((), ((), ()))), ((c6, ((), ((), ()))), (c7, (c8, (e1, (c9, ())))))))))) d0 d1 (fun y0 => K (Exit.exit 0) (L0.x0.enc ((c0, (c1, ((), ((), ((), ()))))), ((c2, (c3, (c4, ()))), ((c5, ((), ((), ()))), ((c6, ((), ((), ()))), (c7, (c8, (y0, (c9, ())))))))))) := by kernel_rfl
theorem L0.e {α : Type} (N : Nat) (c0 : Int) (c1 : Int) (c2 : BA) (c3 : (List (BA × Int × Int))) (c4 : (List (BA × List (Int × Int) × List (Int × Int) × List (Int × Int) × Int))) (c5 : BA) (c6 : BA) (c7 : (List (BA × Int × Int))) (c8 : (List (BA × List (Int × Int) × List (Int × Int) × List (Int × Int) × Int))) (c9 : (List (BA × List (Int × Int) × List (Int × Int) × List (Int × Int) × Int))) : ∀ (n : Nat) (d0 : Int) (d1 : (List (BA × Int × Int))) (K : Cont α), evL (L0.B N) (Env.norm 0 [1, 2, 3, 6, 9, 10]) (Env.norm 0 [1, 2, 3, 6, 9]) n (L0.sh.enc ((c0, (c1, ((), ((), ((), (d0, ())))))), ((c2, (c3, (c4, ()))), ((c5, ((), ((), ()))), ((c6, ((), ((), ()))), (c7, (c8, (d1, (c9, ()))))))))) K = L0.f N c0 c1 c2 c3 c4 c5 c6 c7 c8 c9 n d0 d1 (fun y0 => K (Exit.exit 0) (L0.x0.enc ((c0, (c1, ((), ((), ((), ()))))), ((c2, (c3, (c4, ()))), ((c5, ((), ((), ()))), ((c6, ((), ((), ()))), (c7, (c8, (y0, (c9, ()))))))))))
 | 0, d0, d1, K => rfl
 | n + 1, d0, d1, K => evL_contL.trans ((L0.r N c0 c1 c2 c3 c4 c5 c6 c7 c8 c9 (fun e => evL (L0.B N) (Env.norm 0 [1, 2, 3, 6, 9, 10]) (Env.norm 0 [1, 2, 3, 6, 9]) n e K) K d0 d1).trans (congrArg (fun φ => L0.st N c0 c1 c2 c3 c4 c5 c6 c7 c8 c9 φ d0 d1 (fun y0 => K (Exit.exit 0) (L0.x0.enc ((c0, (c1, ((), ((), ((), ()))))), ((c2, (c3, (c4, ()))), ((c5, ((), ((), ()))), ((c6, ((), ((), ()))), (c7, (c8, (y0, (c9, ()))))))))))) (funext fun e0 => funext fun e1 => L0.e N c0 c1 c2 c3 c4 c5 c6 c7 c8 c9 n e0 e1 K)))
def L1.B {α : Type} (N : Nat) : Env → Cont α → Option α := evC tys 86 0 (evCall (C N) 50) (evCallQ (C N)) N an24 (smL (ents24 N) 0 50) (loopOf 13 Tryd.f24)
theorem L1.r {α : Type} (N : Nat) (c0 : Int) (c1 : Int) (c2 : BA) (c3 : (List (BA × Int × Int))) (c4 : (List (BA × List (Int × Int) × List (Int × Int) × List (Int × Int) × Int))) (c5 : BA) (c6 : BA) (c7 : (List (BA × Int × Int))) (c8 : (List (BA × List (Int × Int) × List (Int × Int) × List (Int × Int) × Int))) (c9 : (List (BA × Int × Int))) (φ : Env → Option α) (K : Cont α) (d0 : Int) (d1 : (List (BA × List (Int × Int) × List (Int × Int) × List (Int × Int) × Int))) : L1.B N (L1.sh.enc ((c0, (c1, ((), ((), ((), (d0, ())))))), ((c2, (c3, (c4, ()))), ((c5, ((), ((), ()))), ((c6, ((), ((), ()))), (c7, (c8, (c9, (d1, ()))))))))) (contL φ K (Env.norm 0 [1, 2, 3, 6, 9, 11]) (Env.norm 0 [6, 9])) = L1.st N c0 c1 c2 c3 c4 c5 c6 c7 c8 c9 (fun e0 e1 => φ (L1.sh.enc ((c0, (c1, ((), ((), ((), (e0, ())))))), ((c2, (c3, (c4, ()))), ((c5, ((), ((), ()))), ((c6, ((), ((), ()))), (c7, (c8, (c9, (e1, ())))))))))) d0 d1 (fun y0 => K (Exit.exit 2) (L1.x0.enc (((), ((), ())), ((c5, ((), ((), ()))), ((c6, ((), ((), ()))), (c7, (c8, (c9, (y0, ()))))))))) := by kernel_rfl
theorem L1.e {α : Type} (N : Nat) (c0 : Int) (c1 : Int) (c2 : BA) (c3 : (List (BA × Int × Int))) (c4 : (List (BA × List (Int × Int) × List (Int × Int) × List (Int × Int) × Int))) (c5 : BA) (c6 : BA) (c7 : (List (BA × Int × Int))) (c8 : (List (BA × List (Int × Int) × List (Int × Int) × List (Int × Int) × Int))) (c9 : (List (BA × Int × Int))) : ∀ (n : Nat) (d0 : Int) (d1 : (List (BA × List (Int × Int) × List (Int × Int) × List (Int × Int) × Int))) (K : Cont α), evL (L1.B N) (Env.norm 0 [1, 2, 3, 6, 9, 11]) (Env.norm 0 [6, 9]) n (L1.sh.enc ((c0, (c1, ((), ((), ((), (d0, ())))))), ((c2, (c3, (c4, ()))), ((c5, ((), ((), ()))), ((c6, ((), ((), ()))), (c7, (c8, (c9, (d1, ()))))))))) K = L1.f N c0 c1 c2 c3 c4 c5 c6 c7 c8 c9 n d0 d1 (fun y0 => K (Exit.exit 2) (L1.x0.enc (((), ((), ())), ((c5, ((), ((), ()))), ((c6, ((), ((), ()))), (c7, (c8, (c9, (y0, ())))))))))
 | 0, d0, d1, K => rfl
 | n + 1, d0, d1, K => evL_contL.trans ((L1.r N c0 c1 c2 c3 c4 c5 c6 c7 c8 c9 (fun e => evL (L1.B N) (Env.norm 0 [1, 2, 3, 6, 9, 11]) (Env.norm 0 [6, 9]) n e K) K d0 d1).trans (congrArg (fun φ => L1.st N c0 c1 c2 c3 c4 c5 c6 c7 c8 c9 φ d0 d1 (fun y0 => K (Exit.exit 2) (L1.x0.enc (((), ((), ())), ((c5, ((), ((), ()))), ((c6, ((), ((), ()))), (c7, (c8, (c9, (y0, ())))))))))) (funext fun e0 => funext fun e1 => L1.e N c0 c1 c2 c3 c4 c5 c6 c7 c8 c9 n e0 e1 K)))
theorem ents24_ok {α : Type} (N : Nat) : AllP (EntOk (C N) Tryd.f24 an24 (ents24 (α := α) N)) (ents24 N) := ⟨entOk_of (b0 := loopOf 6 Tryd.f24) (li0 := [1, 2, 3, 6, 9, 10]) (lx0 := [1, 2, 3, 6, 9]) (by kernel_rfl) (by kernel_rfl) ⟨fun d K => L0.e N d.1.1 d.1.2.1 d.2.1.1 d.2.1.2.1 d.2.1.2.2.1 d.2.2.1.1 d.2.2.2.1.1 d.2.2.2.2.1 d.2.2.2.2.2.1 d.2.2.2.2.2.2.2.1 N d.1.2.2.2.2.2.1 d.2.2.2.2.2.2.1 K, trivial⟩, entOk_of (b0 := loopOf 13 Tryd.f24) (li0 := [1, 2, 3, 6, 9, 11]) (lx0 := [6, 9]) (by kernel_rfl) (by kernel_rfl) ⟨fun d K => L1.e N d.1.1 d.1.2.1 d.2.1.1 d.2.1.2.1 d.2.1.2.2.1 d.2.2.1.1 d.2.2.2.1.1 d.2.2.2.2.1 d.2.2.2.2.2.1 d.2.2.2.2.2.2.1 N d.1.2.2.2.2.2.1 d.2.2.2.2.2.2.2.1 K, trivial⟩, trivial⟩
def g {α : Type} (N : Nat) (a0 : BA × List (BA × Int × Int) × List (BA × List (Int × Int) × List (Int × Int) × List (Int × Int) × Int)) (a1 : Int) (a2 : Int) (kr : ((BA × List (BA × Int × Int) × List (BA × List (Int × Int) × List (Int × Int) × List (Int × Int) × Int)) → Int → Option α)) : Option α :=
 cond ((pf09_Check.spec (a0.fst, a0.snd.fst, a0.snd.snd)).fst != 0) (kr (((ByteArray.mk (#[])), [], [])) ((pf09_Check.spec (a0.fst, a0.snd.fst, a0.snd.snd)).fst)) (L0.f N (a1) (a2) (a0.fst) (a0.snd.fst) (a0.snd.snd) ((ByteArray.mk (#[]))) (a0.fst) ([]) ([]) ([]) N (0) ([]) (fun x12 => cond ((↑x12.length : Int) == 0) (kr (((ByteArray.mk (#[])), [], [])) (19)) (L1.f N (a1) (a2) (a0.fst) (a0.snd.fst) (a0.snd.snd) ((ByteArray.mk (#[]))) (a0.fst) ([]) ([]) (x12) N (0) ([]) (fun x25 => kr ((a0.fst, x12, x25)) (0)))))
theorem eq (N : Nat) (a0 : BA × List (BA × Int × Int) × List (BA × List (Int × Int) × List (Int × Int) × List (Int × Int) × Int)) (a1 : Int) (a2 : Int) : evF (C N) 50 Tryd.f24 an24 (smL (ents24 N) 0 50) [((.st (.pr (.str) (.pr (.sl (.st (.pr (.str) (.pr (.int .i64) (.int .i64))))) (.sl (.st (.pr (.str) (.pr (.sl (.st (.pr (.int .i64) (.int .i64)))) (.pr (.sl (.st (.pr (.int .i64) (.int .i64)))) (.pr (.sl (.st (.pr (.int .i64) (.int .i64)))) (.int .i64))))))))) : K), false), ((.int .i64 : K), false)] [⟨.st (.pr (.str) (.pr (.sl (.st (.pr (.str) (.pr (.int .i64) (.int .i64))))) (.sl (.st (.pr (.str) (.pr (.sl (.st (.pr (.int .i64) (.int .i64)))) (.pr (.sl (.st (.pr (.int .i64) (.int .i64)))) (.pr (.sl (.st (.pr (.int .i64) (.int .i64)))) (.int .i64))))))))), a0⟩, ⟨.int .u64, a1⟩, ⟨.int .u64, a2⟩] = g N a0 a1 a2 (fun r0 r1 => some [.dat ((K.str.pr ((K.str.pr ((K.int IntKind.i64).pr (K.int IntKind.i64))).st.sl.pr (K.str.pr (((K.int IntKind.i64).pr (K.int IntKind.i64)).st.sl.pr (((K.int IntKind.i64).pr (K.int IntKind.i64)).st.sl.pr (((K.int IntKind.i64).pr (K.int IntKind.i64)).st.sl.pr (K.int IntKind.i64))))).st.sl)).st) r0, .dat (K.int IntKind.i64) r1]) := by kernel_rfl
theorem ctxOk (N : Nat) : CtxOk P (C N) := ctxOk_of tysOk mixedOk ⟨pf09_Check.ok, pf06_Has.ok, pf12_kept.ok, trivial⟩ trivial
theorem calls (N : Nat) (a0 : BA × List (BA × Int × Int) × List (BA × List (Int × Int) × List (Int × Int) × List (Int × Int) × Int)) (a1 : Int) (a2 : Int) {rs : List Rs} (h : g N a0 a1 a2 (fun r0 r1 => some [.dat ((K.str.pr ((K.str.pr ((K.int IntKind.i64).pr (K.int IntKind.i64))).st.sl.pr (K.str.pr (((K.int IntKind.i64).pr (K.int IntKind.i64)).st.sl.pr (((K.int IntKind.i64).pr (K.int IntKind.i64)).st.sl.pr (((K.int IntKind.i64).pr (K.int IntKind.i64)).st.sl.pr (K.int IntKind.i64))))).st.sl)).st) r0, .dat (K.int IntKind.i64) r1]) = some rs) : CallsTo P 24 [⟨.st (.pr (.str) (.pr (.sl (.st (.pr (.str) (.pr (.int .i64) (.int .i64))))) (.sl (.st (.pr (.str) (.pr (.sl (.st (.pr (.int .i64) (.int .i64)))) (.pr (.sl (.st (.pr (.int .i64) (.int .i64)))) (.pr (.sl (.st (.pr (.int .i64) (.int .i64)))) (.int .i64))))))))), a0⟩, ⟨.int .u64, a1⟩, ⟨.int .u64, a2⟩] rs := evF_calls' (ctxOk N) (by rfl) (ents24_ok N) ((eq N a0 a1 a2).trans h)
def L0.l {α : Type} (N : Nat) (x0 : Int) (x1 : Int) (x3 : BA) (x4 : (List (BA × Int × Int))) (x5 : (List (BA × List (Int × Int) × List (Int × Int) × List (Int × Int) × Int))) (x6 : BA) (x7 : BA) (x8 : (List (BA × Int × Int))) (x9 : (List (BA × List (Int × Int) × List (Int × Int) × List (Int × Int) × Int))) (x11 : (List (BA × List (Int × Int) × List (Int × Int) × List (Int × Int) × Int))) (k0 : ((List (BA × Int × Int)) → Option α)) : List (BA × Int × Int) → Int → (List (BA × Int × Int)) → Option α
 | [], x2, x10 => k0 (x10)
 | x :: l, x2, x10 => cond (pf06_Has.spec x0 x2) ((cond ((x10.length + 1).ble mxl) (L0.l N x0 x1 x3 x4 x5 x6 x7 x8 x9 x11 k0 l (x2 + 1) (x10 ++ [(x.fst, x.snd.fst, x.snd.snd)])) (none))) (L0.l N x0 x1 x3 x4 x5 x6 x7 x8 x9 x11 k0 l (x2 + 1) (x10))
theorem L0.rng {α : Type} {N : Nat} (x0 : Int) (x1 : Int) (x3 : BA) (x4 : (List (BA × Int × Int))) (x5 : (List (BA × List (Int × Int) × List (Int × Int) × List (Int × Int) × Int))) (x6 : BA) (x7 : BA) (x8 : (List (BA × Int × Int))) (x9 : (List (BA × List (Int × Int) × List (Int × Int) × List (Int × Int) × Int))) (x11 : (List (BA × List (Int × Int) × List (Int × Int) × List (Int × Int) × Int))) (hl : x4.length ≤ maxLen) (k0 : ((List (BA × Int × Int)) → Option α)) : ∀ (n j : Nat) (x10 : (List (BA × Int × Int))), x4.length < n + j → j ≤ x4.length → L0.f N x0 x1 x3 x4 x5 x6 x7 x8 x9 x11 n (j : Int) x10 k0 = L0.l N x0 x1 x3 x4 x5 x6 x7 x8 x9 x11 k0 (x4.drop j) (j : Int) x10
 | 0, j, x10, h, hj => absurd h (by omega)
 | n + 1, j, x10, h, hj => by
  by_cases hlt : j < x4.length
  ·
   have e1 : decide ((j : Int) < (x4.length : Int)) = true := decide_eq_true (Int.ofNat_lt.2 hlt)
   have e2 : decide ((0 : Int) ≤ (j : Int)) = true := decide_eq_true (Int.natCast_nonneg j)
   have e3 : ∀ z, x4.getD (Int.toNat (j : Int)) z = x4[j] := fun z => by rw [Int.toNat_natCast]; exact (List.getElem_eq_getD z).symm
   have e3' : ∀ z, x4.getD (0 + Int.toNat (j : Int)) z = x4[j] := fun z => by rw [Nat.zero_add]; exact e3 z
   have e4 : IntKind.i64.wrap ((j : Int) + 1) = (j : Int) + 1 := wrap_next hlt hl
   have ih : ∀ (x10 : (List (BA × Int × Int))), L0.f N x0 x1 x3 x4 x5 x6 x7 x8 x9 x11 n ((j : Int) + 1) x10 k0 = L0.l N x0 x1 x3 x4 x5 x6 x7 x8 x9 x11 k0 (x4.drop (j + 1)) ((j : Int) + 1) x10 := fun x10 => L0.rng x0 x1 x3 x4 x5 x6 x7 x8 x9 x11 hl k0 n (j + 1) x10 (by omega) (by omega)
   rw [List.drop_eq_getElem_cons hlt]
   first
    | (simp only [L0.f, L0.st, L0.l, e1, e2, e3, e3', e4, Bool.true_and, Bool.and_true, Bool.and_self, cond_true, ih]; done)
    | (simp only [L0.f, L0.st, L0.l, e1, e2, e3, e3', e4, Bool.true_and, Bool.and_true, Bool.and_self, cond_true, ih]; rfl)
  ·
   have e1 : decide ((j : Int) < (x4.length : Int)) = false := decide_eq_false (fun hc => hlt (Int.ofNat_lt.1 hc))
   rw [List.drop_eq_nil_of_le (by omega)]
   simp only [L0.f, L0.st, L0.l, e1, cond_false]
def L1.l {α : Type} (N : Nat) (x13 : Int) (x14 : Int) (x16 : BA) (x17 : (List (BA × Int × Int))) (x18 : (List (BA × List (Int × Int) × List (Int × Int) × List (Int × Int) × Int))) (x19 : BA) (x20 : BA) (x21 : (List (BA × Int × Int))) (x22 : (List (BA × List (Int × Int) × List (Int × Int) × List (Int × Int) × Int))) (x23 : (List (BA × Int × Int))) (k0 : ((List (BA × List (Int × Int) × List (Int × Int) × List (Int × Int) × Int)) → Option α)) : List (BA × List (Int × Int) × List (Int × Int) × List (Int × Int) × Int) → Int → (List (BA × List (Int × Int) × List (Int × Int) × List (Int × Int) × Int)) → Option α
 | [], x15, x24 => k0 (x24)
 | x :: l, x15, x24 => (cond (pf06_Has.spec x14 x15) (cond (pf12_kept.pre x.snd.fst x13) (cond (pf12_kept.pre x.snd.snd.fst x13) (cond (pf12_kept.pre x.snd.snd.snd.fst x13) (cond ((x24.length + 1).ble mxl) (cond (pf12_kept.pre x.snd.fst x13) (cond (pf12_kept.pre x.snd.snd.fst x13) (cond (pf12_kept.pre x.snd.snd.snd.fst x13) (cond ((x24.length + 1).ble mxl) (L1.l N x13 x14 x16 x17 x18 x19 x20 x21 x22 x23 k0 l (x15 + 1) (x24 ++ [(x.fst, pf12_kept.spec x.snd.fst x13, pf12_kept.spec x.snd.snd.fst x13, pf12_kept.spec x.snd.snd.snd.fst x13, x.snd.snd.snd.snd)])) (none)) (none)) (none)) (none)) (none)) (none)) (none)) (none)) (L1.l N x13 x14 x16 x17 x18 x19 x20 x21 x22 x23 k0 l (x15 + 1) (x24)))
theorem L1.rng {α : Type} {N : Nat} (x13 : Int) (x14 : Int) (x16 : BA) (x17 : (List (BA × Int × Int))) (x18 : (List (BA × List (Int × Int) × List (Int × Int) × List (Int × Int) × Int))) (x19 : BA) (x20 : BA) (x21 : (List (BA × Int × Int))) (x22 : (List (BA × List (Int × Int) × List (Int × Int) × List (Int × Int) × Int))) (x23 : (List (BA × Int × Int))) (hl : x18.length ≤ maxLen) (k0 : ((List (BA × List (Int × Int) × List (Int × Int) × List (Int × Int) × Int)) → Option α)) : ∀ (n j : Nat) (x24 : (List (BA × List (Int × Int) × List (Int × Int) × List (Int × Int) × Int))), x18.length < n + j → j ≤ x18.length → L1.f N x13 x14 x16 x17 x18 x19 x20 x21 x22 x23 n (j : Int) x24 k0 = L1.l N x13 x14 x16 x17 x18 x19 x20 x21 x22 x23 k0 (x18.drop j) (j : Int) x24
 | 0, j, x24, h, hj => absurd h (by omega)
 | n + 1, j, x24, h, hj => by
  by_cases hlt : j < x18.length
  ·
   have e1 : decide ((j : Int) < (x18.length : Int)) = true := decide_eq_true (Int.ofNat_lt.2 hlt)
   have e2 : decide ((0 : Int) ≤ (j : Int)) = true := decide_eq_true (Int.natCast_nonneg j)
   have e3 : ∀ z, x18.getD (Int.toNat (j : Int)) z = x18[j] := fun z => by rw [Int.toNat_natCast]; exact (List.getElem_eq_getD z).symm
   have e3' : ∀ z, x18.getD (0 + Int.toNat (j : Int)) z = x18[j] := fun z => by rw [Nat.zero_add]; exact e3 z
   have e4 : IntKind.i64.wrap ((j : Int) + 1) = (j : Int) + 1 := wrap_next hlt hl
   have ih : ∀ (x24 : (List (BA × List (Int × Int) × List (Int × Int) × List (Int × Int) × Int))), L1.f N x13 x14 x16 x17 x18 x19 x20 x21 x22 x23 n ((j : Int) + 1) x24 k0 = L1.l N x13 x14 x16 x17 x18 x19 x20 x21 x22 x23 k0 (x18.drop (j + 1)) ((j : Int) + 1) x24 := fun x24 => L1.rng x13 x14 x16 x17 x18 x19 x20 x21 x22 x23 hl k0 n (j + 1) x24 (by omega) (by omega)
   rw [List.drop_eq_getElem_cons hlt]
   first
    | (simp only [L1.f, L1.st, L1.l, e1, e2, e3, e3', e4, Bool.true_and, Bool.and_true, Bool.and_self, cond_true, ih]; done)
    | (simp only [L1.f, L1.st, L1.l, e1, e2, e3, e3', e4, Bool.true_and, Bool.and_true, Bool.and_self, cond_true, ih]; rfl)
  ·
   have e1 : decide ((j : Int) < (x18.length : Int)) = false := decide_eq_false (fun hc => hlt (Int.ofNat_lt.1 hc))
   rw [List.drop_eq_nil_of_le (by omega)]
   simp only [L1.f, L1.st, L1.l, e1, cond_false]
end pf12_Subnet
theorem pf12_Subnet.L0.law {α : Type} {N : Nat} (x0 : Int) (x1 : Int) (x3 : BA) (x4 : (List (BA × Int × Int))) (x5 : (List (BA × List (Int × Int) × List (Int × Int) × List (Int × Int) × Int))) (x6 : BA) (x7 : BA) (x8 : (List (BA × Int × Int))) (x9 : (List (BA × List (Int × Int) × List (Int × Int) × List (Int × Int) × Int))) (x11 : (List (BA × List (Int × Int) × List (Int × Int) × List (Int × Int) × Int))) (k0 : ((List (BA × Int × Int)) → Option α)) : ∀ (l : List PlaceT) (j : Int) (acc : List PlaceT), acc.length + l.length ≤ 1000 → pf12_Subnet.L0.l N x0 x1 x3 x4 x5 x6 x7 x8 x9 x11 k0 l j acc = k0 (acc ++ filtB x0 j l)
 | [], j, acc, _ => by rw [pf12_Subnet.L0.l, filtB, List.append_nil]
 | x :: l, j, acc, h0 => by
  simp only [List.length_cons] at h0
  rw [pf12_Subnet.L0.l, show pf06_Has.spec x0 j = hasB x0 j from rfl, filtB]
  cases hasB x0 j
  ·
   simp only [cond_false]
   rw [pf12_Subnet.L0.law _ _ _ _ _ _ _ _ _ _ _ l _ _ (by omega)]
  ·
   simp only [cond_true]
   rw [ble1 _ (by omega), cond_true, pf12_Subnet.L0.law _ _ _ _ _ _ _ _ _ _ _ l _ _ (by simp; omega), List.append_assoc]
   rfl
theorem pf12_Subnet.L1.law {α : Type} {N : Nat} (x13 : Int) (x14 : Int) (x16 : BA) (x17 : (List (BA × Int × Int))) (x18 : (List (BA × List (Int × Int) × List (Int × Int) × List (Int × Int) × Int))) (x19 : BA) (x20 : BA) (x21 : (List (BA × Int × Int))) (x22 : (List (BA × List (Int × Int) × List (Int × Int) × List (Int × Int) × Int))) (x23 : (List (BA × Int × Int))) (k0 : ((List (BA × List (Int × Int) × List (Int × Int) × List (Int × Int) × Int)) → Option α)) : ∀ (l : List TransT) (j : Int) (acc : List TransT), acc.length + l.length ≤ 1000 → (∀ t ∈ l, BigT t) →
  pf12_Subnet.L1.l N x13 x14 x16 x17 x18 x19 x20 x21 x22 x23 k0 l j acc = k0 (acc ++ (filtB x14 j l).map (keptT x13))
 | [], j, acc, _, h => by rw [pf12_Subnet.L1.l, filtB, List.map_nil, List.append_nil]
 | x :: l, j, acc, h0, h => by
  simp only [List.length_cons] at h0
  obtain ⟨h1, h2, h3⟩ := h x (by simp)
  rw [pf12_Subnet.L1.l, show pf06_Has.spec x14 j = hasB x14 j from rfl, filtB]
  cases hasB x14 j
  ·
   simp only [cond_false]
   rw [pf12_Subnet.L1.law _ _ _ _ _ _ _ _ _ _ _ l _ _ (by omega) (fun t ht => h t (by simp [ht]))]
  ·
   simp only [pf12_kept.pre, h1, h2, h3, cond_true]
   rw [ble1 _ (by omega)]
   simp only [cond_true]
   rw [pf12_Subnet.L1.law _ _ _ _ _ _ _ _ _ _ _ l _ _ (by simp; omega) (fun t ht => h t (by simp [ht])), List.append_assoc]
   rfl
theorem pf12_Subnet.law {α : Type} {N : Nat} (hN : 18446744073709551616 ≤ N) (a0 : BA × (List (BA × Int × Int)) × List (BA × (List (Int × Int)) × (List (Int × Int)) × (List (Int × Int)) × Int)) (a1 : Int) (a2 : Int) (w0 : K.wf (.st (.pr (.str) (.pr (.sl (.st (.pr (.str) (.pr (.int .i64) (.int .i64))))) (.sl (.st (.pr (.str) (.pr (.sl (.st (.pr (.int .i64) (.int .i64)))) (.pr (.sl (.st (.pr (.int .i64) (.int .i64)))) (.pr (.sl (.st (.pr (.int .i64) (.int .i64)))) (.int .i64)))))))))) a0) (w1 : K.wf (.int .u64) a1) (w2 : K.wf (.int .u64) a2) (kr : ((BA × (List (BA × Int × Int)) × List (BA × (List (Int × Int)) × (List (Int × Int)) × (List (Int × Int)) × Int)) → Int → Option α)) : pf12_Subnet.g N a0 a1 a2 kr = kr (pf12_Subnet.spec a0 a1 a2).1 (pf12_Subnet.spec a0 a1 a2).2 := by
 unfold pf12_Subnet.g pf12_Subnet.spec subE
 simp only [pf09_Check.spec, bne, checkN_eta]
 cases hc : (checkN a0).1 == 0
 ·
  rfl
 have hv := checkN_t.1 hc
 have hnp := hv.np
 have hnt := hv.nt
 simp only [Bool.not_true, cond_false, cond_true]
 refine (pf12_Subnet.L0.rng (N := N) _ _ _ _ _ _ _ _ _ _ (w0.2.1.1) _ N 0 _ (by have := le_fuel (w0.2.1.1) hN; omega) (Nat.zero_le _)).trans ?_
 refine (pf12_Subnet.L0.law _ _ _ _ _ _ _ _ _ _ _ _ _ _ (by simp; omega)).trans ?_
 simp only [List.drop_zero, List.nil_append]
 have e0 : (((0 : Nat) : Int)) = 0 := rfl
 rw [e0]
 have ee : ((((filtB a1 0 a0.2.1).length : Nat) : Int) == 0) = List.isEmpty (filtB a1 0 a0.2.1) := by
  cases filtB a1 0 a0.2.1 with
  | nil => rfl
  | cons x l => simp; omega
 rw [ee]
 cases hem : List.isEmpty (filtB a1 0 a0.2.1)
 ·
  simp only [cond_false]
  refine (pf12_Subnet.L1.rng (N := N) _ _ _ _ _ _ _ _ _ _ (w0.2.2.1) _ N 0 _ (by have := le_fuel (w0.2.2.1) hN; omega) (Nat.zero_le _)).trans ?_
  refine (pf12_Subnet.L1.law _ _ _ _ _ _ _ _ _ _ _ _ _ _ (by simp; omega) (by simpa using hv.big)).trans ?_
  rfl
 ·
  rfl
theorem pf12_Subnet.ok : FentOk P 24 pf12_Subnet.fent := fentOk_of (by kernel_rfl) fun ds hk => by
 obtain ⟨a0, l0, rfl, h0⟩ := ds_cons hk
 obtain ⟨a1, l1, rfl, h1⟩ := ds_cons h0
 obtain ⟨a2, l2, rfl, h2⟩ := ds_cons h1
 obtain rfl := ds0 h2
 exact ⟨true, [.dat (.st (.pr (.str) (.pr (.sl (.st (.pr (.str) (.pr (.int .i64) (.int .i64))))) (.sl (.st (.pr (.str) (.pr (.sl (.st (.pr (.int .i64) (.int .i64)))) (.pr (.sl (.st (.pr (.int .i64) (.int .i64)))) (.pr (.sl (.st (.pr (.int .i64) (.int .i64)))) (.int .i64)))))))))) (pf12_Subnet.spec a0 a1 a2).1, .dat (.int .i64) (pf12_Subnet.spec a0 a1 a2).2], fun h hw => pf12_Subnet.calls 18446744073709551616 a0 a1 a2 (pf12_Subnet.law (Nat.le_refl _) a0 a1 a2 hw.1 hw.2.1 hw.2.2.1 _), fun α k => rfl⟩
end Go.VI
namespace Go.VI
open Go Go.Proofs
namespace pf04_Valid
def an45 : Ann := [(2, [0, 1, 5], [0, 1, 4])]
def L0.sh : Sh := { sl := [(0, SV.a (SA.d (K.int IntKind.i64).sl)), (1, SV.a (SA.d (K.int IntKind.i64))), (5, SV.a (SA.d (K.int IntKind.i64)))], os := [], nx := 0 }
def L0.x0 : Sh := { sl := [(0, SV.a (SA.d (K.int IntKind.i64).sl)), (1, SV.a (SA.d (K.int IntKind.i64))), (4, SV.a (SA.d K.bool))], os := [], nx := 0 }
def L0.x1 : Sh := { sl := [(0, SV.a (SA.d (K.int IntKind.i64).sl)), (1, SV.a (SA.d (K.int IntKind.i64))), (4, SV.j)], os := [], nx := 0 }
def L0.st {α : Type} (N : Nat) (x0 : (List Int)) (x1 : Int) (φ : (Int → Option α)) (x2 : Int) (k0 : (Bool → Option α)) (k1 : Option α) : Option α :=
 cond (decide (x2 < (↑x0.length : Int))) (cond (decide (0 ≤ x2) && decide (x2 < (↑x0.length : Int))) (cond (decide (x0.getD x2.toNat 0 < 0)) (k0 (false)) (cond (decide (0 ≤ x2) && decide (x2 < (↑x0.length : Int))) (cond (decide (1048576 < x0.getD x2.toNat (0 : Int))) (k0 (false)) (φ (IntKind.i64.wrap (x2 + 1)))) (none))) (none)) (k1 )
def L0.f {α : Type} (N : Nat) (c0 : (List Int)) (c1 : Int) : Nat → Int → (Bool → Option α) → Option α → Option α
 | 0, _, _, _ => none
 | n + 1, d0, k0, k1 => L0.st N c0 c1 (fun e0 => L0.f N c0 c1 n e0 k0 k1) d0 k0 k1
def L0.F {α : Type} (N : Nat) (d : L0.sh.T) (K : Cont α) : Option α := L0.f N d.1.1 d.1.2.1 N d.1.2.2.1 (fun y0 => K (Exit.ret) (L0.x0.enc ((d.1.1, (d.1.2.1, (y0, ()))), ()))) (K (Exit.exit 0) (L0.x1.enc ((d.1.1, (d.1.2.1, ((), ()))), ())))
def ents45 {α : Type} (N : Nat) : List (SmE α) := [⟨0, 50, 2, [⟨L0.sh, L0.F N⟩]⟩]
def C (N : Nat) : Ctx := ⟨tys, [], [], N⟩
def L0.B {α : Type} (N : Nat) : Env → Cont α → Option α := evC tys 28 0 (evCall (C N) 50) (evCallQ (C N)) N an45 (smL (ents45 N) 0 50) (loopOf 2 Tryd.f45)
theorem L0.r {α : Type} (N : Nat) (c0 : (List Int)) (c1 : Int) (φ : Env → Option α) (K : Cont α) (d0 : Int) : L0.B N (L0.sh.enc ((c0, (c1, (d0, ()))), ())) (contL φ K (Env.norm 0 [0, 1, 5]) (Env.norm 0 [0, 1, 4])) = L0.st N c0 c1 (fun e0 => φ (L0.sh.enc ((c0, (c1, (e0, ()))), ()))) d0 (fun y0 => K (Exit.ret) (L0.x0.enc ((c0, (c1, (y0, ()))), ()))) (K (Exit.exit 0) (L0.x1.enc ((c0, (c1, ((), ()))), ()))) := by kernel_rfl
theorem L0.e {α : Type} (N : Nat) (c0 : (List Int)) (c1 : Int) : ∀ (n : Nat) (d0 : Int) (K : Cont α), evL (L0.B N) (Env.norm 0 [0, 1, 5]) (Env.norm 0 [0, 1, 4]) n (L0.sh.enc ((c0, (c1, (d0, ()))), ())) K = L0.f N c0 c1 n d0 (fun y0 => K (Exit.ret) (L0.x0.enc ((c0, (c1, (y0, ()))), ()))) (K (Exit.exit 0) (L0.x1.enc ((c0, (c1, ((), ()))), ())))
 | 0, d0, K => rfl
 | n + 1, d0, K => evL_contL.trans ((L0.r N c0 c1 (fun e => evL (L0.B N) (Env.norm 0 [0, 1, 5]) (Env.norm 0 [0, 1, 4]) n e K) K d0).trans (congrArg (fun φ => L0.st N c0 c1 φ d0 (fun y0 => K (Exit.ret) (L0.x0.enc ((c0, (c1, (y0, ()))), ()))) (K (Exit.exit 0) (L0.x1.enc ((c0, (c1, ((), ()))), ())))) (funext fun e0 => L0.e N c0 c1 n e0 K)))
theorem ents45_ok {α : Type} (N : Nat) : AllP (EntOk (C N) Tryd.f45 an45 (ents45 (α := α) N)) (ents45 N) := ⟨entOk_of (b0 := loopOf 2 Tryd.f45) (li0 := [0, 1, 5]) (lx0 := [0, 1, 4]) (by kernel_rfl) (by kernel_rfl) ⟨fun d K => L0.e N d.1.1 d.1.2.1 N d.1.2.2.1 K, trivial⟩, trivial⟩
def g {α : Type} (N : Nat) (a0 : List Int) (a1 : Int) (kr : (Bool → Option α)) : Option α :=
 L0.f N (a0) (a1) N (0) (fun x3 => kr (x3)) (kr ((↑a0.length : Int) == a1))
theorem eq (N : Nat) (a0 : List Int) (a1 : Int) : evF (C N) 50 Tryd.f45 an45 (smL (ents45 N) 0 50) [((.bool : K), false)] [⟨.sl (.int .i64), a0⟩, ⟨.int .i64, a1⟩] = g N a0 a1 (fun r0 => some [.dat (K.bool) r0]) := by kernel_rfl
theorem ctxOk (N : Nat) : CtxOk P (C N) := ctxOk_of tysOk mixedOk trivial trivial
theorem calls (N : Nat) (a0 : List Int) (a1 : Int) {rs : List Rs} (h : g N a0 a1 (fun r0 => some [.dat (K.bool) r0]) = some rs) : CallsTo P 45 [⟨.sl (.int .i64), a0⟩, ⟨.int .i64, a1⟩] rs := evF_calls' (ctxOk N) (by rfl) (ents45_ok N) ((eq N a0 a1).trans h)
def L0.l {α : Type} (N : Nat) (x0 : (List Int)) (x1 : Int) (k0 : (Bool → Option α)) (k1 : Option α) : List Int → Int → Option α
 | [], x2 => k1 
 | x :: l, x2 => (cond (decide (x < 0)) (k0 (false)) ((cond (decide (1048576 < x)) (k0 (false)) (L0.l N x0 x1 k0 k1 l (x2 + 1)))))
theorem L0.rng {α : Type} {N : Nat} (x0 : (List Int)) (x1 : Int) (hl : x0.length ≤ maxLen) (k0 : (Bool → Option α)) (k1 : Option α) : ∀ (n j : Nat), x0.length < n + j → j ≤ x0.length → L0.f N x0 x1 n (j : Int) k0 k1 = L0.l N x0 x1 k0 k1 (x0.drop j) (j : Int)
 | 0, j, h, hj => absurd h (by omega)
 | n + 1, j, h, hj => by
  by_cases hlt : j < x0.length
  ·
   have e1 : decide ((j : Int) < (x0.length : Int)) = true := decide_eq_true (Int.ofNat_lt.2 hlt)
   have e2 : decide ((0 : Int) ≤ (j : Int)) = true := decide_eq_true (Int.natCast_nonneg j)
   have e3 : ∀ z, x0.getD (Int.toNat (j : Int)) z = x0[j] := fun z => by rw [Int.toNat_natCast]; exact (List.getElem_eq_getD z).symm
   have e3' : ∀ z, x0.getD (0 + Int.toNat (j : Int)) z = x0[j] := fun z => by rw [Nat.zero_add]; exact e3 z
   have e4 : IntKind.i64.wrap ((j : Int) + 1) = (j : Int) + 1 := wrap_next hlt hl
   have ih : ∀ (_ : Unit), L0.f N x0 x1 n ((j : Int) + 1) k0 k1 = L0.l N x0 x1 k0 k1 (x0.drop (j + 1)) ((j : Int) + 1) := fun _ => L0.rng x0 x1 hl k0 k1 n (j + 1) (by omega) (by omega)
   rw [List.drop_eq_getElem_cons hlt]
   replace ih := ih ()
   first
    | (simp only [L0.f, L0.st, L0.l, e1, e2, e3, e3', e4, Bool.true_and, Bool.and_true, Bool.and_self, cond_true, ih]; done)
    | (simp only [L0.f, L0.st, L0.l, e1, e2, e3, e3', e4, Bool.true_and, Bool.and_true, Bool.and_self, cond_true, ih]; rfl)
  ·
   have e1 : decide ((j : Int) < (x0.length : Int)) = false := decide_eq_false (fun hc => hlt (Int.ofNat_lt.1 hc))
   rw [List.drop_eq_nil_of_le (by omega)]
   simp only [L0.f, L0.st, L0.l, e1, cond_false]
end pf04_Valid
theorem pf04_Valid.L0.law {α : Type} {N : Nat} (x0 : (List Int)) (x1 : Int) (k0 : (Bool → Option α)) (k1 : Option α) : ∀ l j, pf04_Valid.L0.l N x0 x1 k0 k1 l j = cond (l.all fun k => decide (0 ≤ k) && decide (k ≤ 1048576)) k1 (k0 false)
 | [], j => rfl
 | x :: l, j => by
  rw [pf04_Valid.L0.l, pf04_Valid.L0.law, List.all_cons]
  by_cases h1 : x < 0
  ·
   rw [decide_eq_true h1, decide_eq_false (by omega : ¬ 0 ≤ x)]; rfl
  ·
   rw [decide_eq_false h1, decide_eq_true (by omega : 0 ≤ x)]
   by_cases h2 : 1048576 < x
   ·
    rw [decide_eq_true h2, decide_eq_false (by omega : ¬ x ≤ 1048576)]; rfl
   ·
    rw [decide_eq_false h2, decide_eq_true (by omega : x ≤ 1048576)]; rfl
theorem pf04_Valid.law {α : Type} {N : Nat} (hN : 18446744073709551616 ≤ N) (a0 : List Int) (a1 : Int) (w0 : K.wf (.sl (.int .i64)) a0) (w1 : K.wf (.int .i64) a1) (kr : (Bool → Option α)) : pf04_Valid.g N a0 a1 kr = kr (pf04_Valid.spec a0 a1) := by
 unfold pf04_Valid.g pf04_Valid.spec marking_Valid.spec
 refine (pf04_Valid.L0.rng (N := N) _ _ (w0.1) _ _ N 0  (by have := le_fuel (w0.1) hN; omega) (Nat.zero_le _)).trans ?_
 rw [List.drop_zero, pf04_Valid.L0.law]
 have e : ((a0.length : Int) == a1) = decide ((a0.length : Int) = a1) := by
  by_cases h : (a0.length : Int) = a1
  ·
   simp [h]
  ·
   simp [h]
 cases (List.all a0 _)
 ·
  simp
 ·
  rw [e]; simp
theorem pf04_Valid.ok : FentOk P 45 pf04_Valid.fent := fentOk_of (by kernel_rfl) fun ds hk => by
 obtain ⟨a0, l0, rfl, h0⟩ := ds_cons hk
 obtain ⟨a1, l1, rfl, h1⟩ := ds_cons h0
 obtain rfl := ds0 h1
 exact ⟨true, [.dat (.bool) (pf04_Valid.spec a0 a1)], fun h hw => pf04_Valid.calls 18446744073709551616 a0 a1 (pf04_Valid.law (Nat.le_refl _) a0 a1 hw.1 hw.2.1 _), fun α k => rfl⟩
end Go.VI
namespace Go.VI
open Go Go.Proofs
namespace pf12_copied
def an52 : Ann := []
def ents52 {α : Type} (N : Nat) : List (SmE α) := []
def C (N : Nat) : Ctx := ⟨tys, [], [], N⟩
theorem ents52_ok {α : Type} (N : Nat) : AllP (EntOk (C N) Tryd.f52 an52 (ents52 (α := α) N)) (ents52 N) := trivial
def g {α : Type} (N : Nat) (a0 : List (Int × Int)) (kr : ((List (Int × Int)) → Option α)) : Option α :=
 cond (a0.length.ble mxl) (kr (a0)) (none)
theorem eq (N : Nat) (a0 : List (Int × Int)) : evF (C N) 50 Tryd.f52 an52 (smL (ents52 N) 0 50) [(((.st (.pr (.int .i64) (.int .i64))) : K), true)] [⟨.sl (.st (.pr (.int .i64) (.int .i64))), a0⟩] = g N a0 (fun r0 => some [.own (((K.int IntKind.i64).pr (K.int IntKind.i64)).st) r0]) := by kernel_rfl
theorem ctxOk (N : Nat) : CtxOk P (C N) := ctxOk_of tysOk mixedOk trivial trivial
theorem calls (N : Nat) (a0 : List (Int × Int)) {rs : List Rs} (h : g N a0 (fun r0 => some [.own (((K.int IntKind.i64).pr (K.int IntKind.i64)).st) r0]) = some rs) : CallsTo P 52 [⟨.sl (.st (.pr (.int .i64) (.int .i64))), a0⟩] rs := evF_calls' (ctxOk N) (by rfl) (ents52_ok N) ((eq N a0).trans h)
end pf12_copied
theorem pf12_copied.law {α : Type} {N : Nat} (hN : 18446744073709551616 ≤ N) (a0 : List (Int × Int)) (w0 : K.wf (.sl (.st (.pr (.int .i64) (.int .i64)))) a0) (hp : pf12_copied.pre a0 = true) (kr : ((List (Int × Int)) → Option α)) : pf12_copied.g N a0 kr = kr (pf12_copied.spec a0) := by
 have hp' : a0.length ≤ 1073741824 := of_decide_eq_true hp
 unfold pf12_copied.g pf12_copied.spec
 rw [show a0.length.ble mxl = true from Nat.ble_eq_true_of_le hp', cond_true]
theorem pf12_copied.ok : FentOk P 52 pf12_copied.fent := fentOk_of (by kernel_rfl) fun ds hk => by
 obtain ⟨a0, l0, rfl, h0⟩ := ds_cons hk
 obtain rfl := ds0 h0
 exact ⟨pf12_copied.pre a0, [.own (.st (.pr (.int .i64) (.int .i64))) (pf12_copied.spec a0)], fun h hw => pf12_copied.calls 18446744073709551616 a0 (pf12_copied.law (Nat.le_refl _) a0 hw.1 h _), fun α k => rfl⟩
end Go.VI
namespace Go.VI
open Go Go.Proofs
namespace pf12_Start
def an26 : Ann := [(8, [1, 2, 4, 7, 8], [4, 5, 7])]
def an29 : Ann := [(4, [1, 2, 3, 4], [2, 3])]
def L0.sh : Sh := { sl := [(1, SV.a (SA.fx (Atom.box 2 0))), (2, SV.a (SA.fx (Atom.box 3 0))), (3, SV.a (SA.fx (Atom.box 4 0))), (4, SV.a (SA.d (K.int IntKind.i64)))], os := [(2, SO.box [SA.d K.str, SA.d (K.str.pr ((K.int IntKind.i64).pr (K.int IntKind.i64))).st.sl, SA.d (K.str.pr (((K.int IntKind.i64).pr (K.int IntKind.i64)).st.sl.pr (((K.int IntKind.i64).pr (K.int IntKind.i64)).st.sl.pr (((K.int IntKind.i64).pr (K.int IntKind.i64)).st.sl.pr (K.int IntKind.i64))))).st.sl]), (3, SO.box [SA.d K.str, SA.fx (Atom.sl 7 0 none), SA.fx (Atom.sl 8 0 none)]), (4, SO.box [SA.d K.str, SA.fx (Atom.sl 9 0 none), SA.fx (Atom.sl 10 0 none)]), (5, SO.row (K.str.pr ((K.int IntKind.i64).pr (K.int IntKind.i64))).st 0), (6, SO.row (K.str.pr (((K.int IntKind.i64).pr (K.int IntKind.i64)).st.sl.pr (((K.int IntKind.i64).pr (K.int IntKind.i64)).st.sl.pr (((K.int IntKind.i64).pr (K.int IntKind.i64)).st.sl.pr (K.int IntKind.i64))))).st 0), (7, SO.row (K.str.pr ((K.int IntKind.i64).pr (K.int IntKind.i64))).st 0), (8, SO.row (K.str.pr (((K.int IntKind.i64).pr (K.int IntKind.i64)).st.sl.pr (((K.int IntKind.i64).pr (K.int IntKind.i64)).st.sl.pr (((K.int IntKind.i64).pr (K.int IntKind.i64)).st.sl.pr (K.int IntKind.i64))))).st 0), (9, SO.row (K.str.pr ((K.int IntKind.i64).pr (K.int IntKind.i64))).st 0), (10, SO.row (K.str.pr (((K.int IntKind.i64).pr (K.int IntKind.i64)).st.sl.pr (((K.int IntKind.i64).pr (K.int IntKind.i64)).st.sl.pr (((K.int IntKind.i64).pr (K.int IntKind.i64)).st.sl.pr (K.int IntKind.i64))))).st 0), (1, SO.box [SA.d K.str, SA.fx (Atom.sl 5 0 none), SA.fx (Atom.sl 6 0 none)]), (0, SO.box [SA.d K.str, SA.d (K.str.pr ((K.int IntKind.i64).pr (K.int IntKind.i64))).st.sl, SA.d (K.str.pr (((K.int IntKind.i64).pr (K.int IntKind.i64)).st.sl.pr (((K.int IntKind.i64).pr (K.int IntKind.i64)).st.sl.pr (((K.int IntKind.i64).pr (K.int IntKind.i64)).st.sl.pr (K.int IntKind.i64))))).st.sl])], nx := 11 }
def L0.x0 : Sh := { sl := [(2, SV.a (SA.fx (Atom.box 2 0))), (3, SV.a (SA.fx (Atom.box 3 0)))], os := [(2, SO.box [SA.d K.str, SA.fx (Atom.sl 6 0 none), SA.fx (Atom.sl 7 0 none)]), (3, SO.box [SA.d K.str, SA.fx (Atom.sl 8 0 none), SA.fx (Atom.sl 9 0 none)]), (4, SO.row (K.str.pr ((K.int IntKind.i64).pr (K.int IntKind.i64))).st 0), (5, SO.row (K.str.pr (((K.int IntKind.i64).pr (K.int IntKind.i64)).st.sl.pr (((K.int IntKind.i64).pr (K.int IntKind.i64)).st.sl.pr (((K.int IntKind.i64).pr (K.int IntKind.i64)).st.sl.pr (K.int IntKind.i64))))).st 0), (6, SO.row (K.str.pr ((K.int IntKind.i64).pr (K.int IntKind.i64))).st 0), (7, SO.row (K.str.pr (((K.int IntKind.i64).pr (K.int IntKind.i64)).st.sl.pr (((K.int IntKind.i64).pr (K.int IntKind.i64)).st.sl.pr (((K.int IntKind.i64).pr (K.int IntKind.i64)).st.sl.pr (K.int IntKind.i64))))).st 0), (8, SO.row (K.str.pr ((K.int IntKind.i64).pr (K.int IntKind.i64))).st 0), (9, SO.row (K.str.pr (((K.int IntKind.i64).pr (K.int IntKind.i64)).st.sl.pr (((K.int IntKind.i64).pr (K.int IntKind.i64)).st.sl.pr (((K.int IntKind.i64).pr (K.int IntKind.i64)).st.sl.pr (K.int IntKind.i64))))).st 0), (1, SO.box [SA.d K.str, SA.fx (Atom.sl 4 0 none), SA.fx (Atom.sl 5 0 none)]), (0, SO.box [SA.d K.str, SA.d (K.str.pr ((K.int IntKind.i64).pr (K.int IntKind.i64))).st.sl, SA.d (K.str.pr (((K.int IntKind.i64).pr (K.int IntKind.i64)).st.sl.pr (((K.int IntKind.i64).pr (K.int IntKind.i64)).st.sl.pr (((K.int IntKind.i64).pr (K.int IntKind.i64)).st.sl.pr (K.int IntKind.i64))))).st.sl])], nx := 10 }
def L0.st {α : Type} (N : Nat) (x1 : BA) (x2 : (List (BA × Int × Int))) (x3 : (List (BA × List (Int × Int) × List (Int × Int) × List (Int × Int) × Int))) (x4 : BA) (x5 : BA) (x6 : (List (BA × Int × Int))) (x7 : (List (BA × List (Int × Int) × List (Int × Int) × List (Int × Int) × Int))) (x8 : (List (BA × Int × Int))) (x9 : (List (BA × List (Int × Int) × List (Int × Int) × List (Int × Int) × Int))) (x10 : (List (BA × Int × Int))) (x12 : BA) (x13 : BA) (x14 : (List (BA × Int × Int))) (x15 : (List (BA × List (Int × Int) × List (Int × Int) × List (Int × Int) × Int))) (φ : (Int → (List (BA × List (Int × Int) × List (Int × Int) × List (Int × Int) × Int)) → Option α)) (x0 : Int) (x11 : (List (BA × List (Int × Int) × List (Int × Int) × List (Int × Int) × Int))) (k0 : ((List (BA × List (Int × Int) × List (Int × Int) × List (Int × Int) × Int)) → Option α)) : Option α :=
 cond (decide (x0 < (↑x3.length : Int))) (cond (decide (0 ≤ x0) && decide (x0 < (↑x3.length : Int))) (cond (pf12_copied.pre (x3.getD x0.toNat (eBA, [], [], [], 0)).snd.fst) (cond (pf12_copied.pre (x3.getD x0.toNat (eBA, [], [], [], 0)).snd.snd.fst) (cond (pf12_copied.pre (x3.getD x0.toNat (eBA, [], [], [], 0)).snd.snd.snd.fst) (cond ((x11.length + 1).ble mxl) (cond (pf12_copied.pre (x3.getD x0.toNat (eBA, [], [], [], 0)).snd.fst) (cond (pf12_copied.pre (x3.getD x0.toNat (eBA, [], [], [], 0)).snd.snd.fst) (cond (pf12_copied.pre (x3.getD x0.toNat (eBA, [], [], [], 0)).snd.snd.snd.fst) (cond ((x11.length + 1).ble mxl) (φ (IntKind.i64.wrap (x0 + 1)) (x11 ++ [((x3.getD x0.toNat (eBA, [], [], [], 0)).fst, pf12_copied.spec (x3.getD x0.toNat (eBA, [], [], [], 0)).snd.fst, pf12_copied.spec (x3.getD x0.toNat (eBA, [], [], [], 0)).snd.snd.fst, pf12_copied.spec (x3.getD x0.toNat (eBA, [], [], [], 0)).snd.snd.snd.fst, (x3.getD x0.toNat (eBA, [], [], [], 0)).snd.snd.snd.snd)])) (none)) (none)) (none)) (none)) (none)) (none)) (none)) (none)) (none)) (k0 (x11))
def L0.f {α : Type} (N : Nat) (c0 : BA) (c1 : (List (BA × Int × Int))) (c2 : (List (BA × List (Int × Int) × List (Int × Int) × List (Int × Int) × Int))) (c3 : BA) (c4 : BA) (c5 : (List (BA × Int × Int))) (c6 : (List (BA × List (Int × Int) × List (Int × Int) × List (Int × Int) × Int))) (c7 : (List (BA × Int × Int))) (c8 : (List (BA × List (Int × Int) × List (Int × Int) × List (Int × Int) × Int))) (c9 : (List (BA × Int × Int))) (c10 : BA) (c11 : BA) (c12 : (List (BA × Int × Int))) (c13 : (List (BA × List (Int × Int) × List (Int × Int) × List (Int × Int) × Int))) : Nat → Int → (List (BA × List (Int × Int) × List (Int × Int) × List (Int × Int) × Int)) → ((List (BA × List (Int × Int) × List (Int × Int) × List (Int × Int) × Int)) → Option α) → Option α
 | 0, _, _, _ => none
 | n + 1, d0, d1, k0 => L0.st N c0 c1 c2 c3 c4 c5 c6 c7 c8 c9 c10 c11 c12 c13 (fun e0 e1 => L0.f N c0 c1 c2 c3 c4 c5 c6 c7 c8 c9 c10 c11 c12 c13 n e0 e1 k0) d0 d1 k0
def L0.F {α : Type} (N : Nat) (d : L0.sh.T) (K : Cont α) : Option α := L0.f N d.2.1.1 d.2.1.2.1 d.2.1.2.2.1 d.2.2.1.1 d.2.2.2.1.1 d.2.2.2.2.1 d.2.2.2.2.2.1 d.2.2.2.2.2.2.1 d.2.2.2.2.2.2.2.1 d.2.2.2.2.2.2.2.2.1 d.2.2.2.2.2.2.2.2.2.2.1.1 d.2.2.2.2.2.2.2.2.2.2.2.1.1 d.2.2.2.2.2.2.2.2.2.2.2.1.2.1 d.2.2.2.2.2.2.2.2.2.2.2.1.2.2.1 N d.1.2.2.2.1 d.2.2.2.2.2.2.2.2.2.1 (fun y0 => K (Exit.exit 0) (L0.x0.enc (((), ((), ())), ((d.2.2.1.1, ((), ((), ()))), ((d.2.2.2.1.1, ((), ((), ()))), (d.2.2.2.2.1, (d.2.2.2.2.2.1, (d.2.2.2.2.2.2.1, (d.2.2.2.2.2.2.2.1, (d.2.2.2.2.2.2.2.2.1, (y0, ((d.2.2.2.2.2.2.2.2.2.2.1.1, ((), ((), ()))), ((d.2.2.2.2.2.2.2.2.2.2.2.1.1, (d.2.2.2.2.2.2.2.2.2.2.2.1.2.1, (d.2.2.2.2.2.2.2.2.2.2.2.1.2.2.1, ()))), ())))))))))))))
def L1.sh : Sh := { sl := [(1, SV.a (SA.d (K.int IntKind.i64).sl)), (2, SV.a (SA.fx (Atom.box 0 0))), (4, SV.a (SA.fx (Atom.box 1 0))), (7, SV.a (SA.fx (Atom.box 2 0))), (8, SV.a (SA.d (K.int IntKind.i64)))], os := [(0, SO.box [SA.d K.str, SA.d (K.str.pr ((K.int IntKind.i64).pr (K.int IntKind.i64))).st.sl, SA.d (K.str.pr (((K.int IntKind.i64).pr (K.int IntKind.i64)).st.sl.pr (((K.int IntKind.i64).pr (K.int IntKind.i64)).st.sl.pr (((K.int IntKind.i64).pr (K.int IntKind.i64)).st.sl.pr (K.int IntKind.i64))))).st.sl]), (1, SO.box [SA.d K.str, SA.fx (Atom.sl 3 0 none), SA.fx (Atom.sl 4 0 none)]), (2, SO.box [SA.d K.str, SA.fx (Atom.sl 5 0 none), SA.fx (Atom.sl 6 0 none)]), (3, SO.row (K.str.pr ((K.int IntKind.i64).pr (K.int IntKind.i64))).st 0), (4, SO.row (K.str.pr (((K.int IntKind.i64).pr (K.int IntKind.i64)).st.sl.pr (((K.int IntKind.i64).pr (K.int IntKind.i64)).st.sl.pr (((K.int IntKind.i64).pr (K.int IntKind.i64)).st.sl.pr (K.int IntKind.i64))))).st 0), (5, SO.row (K.str.pr ((K.int IntKind.i64).pr (K.int IntKind.i64))).st 0), (6, SO.row (K.str.pr (((K.int IntKind.i64).pr (K.int IntKind.i64)).st.sl.pr (((K.int IntKind.i64).pr (K.int IntKind.i64)).st.sl.pr (((K.int IntKind.i64).pr (K.int IntKind.i64)).st.sl.pr (K.int IntKind.i64))))).st 0)], nx := 7 }
def L1.x0 : Sh := { sl := [(4, SV.a (SA.fx (Atom.box 0 0))), (5, SV.a (SA.d (K.int IntKind.i64))), (7, SV.a (SA.fx (Atom.box 1 0)))], os := [(0, SO.box [SA.d K.str, SA.fx (Atom.sl 2 0 none), SA.fx (Atom.sl 3 0 none)]), (1, SO.box [SA.d K.str, SA.fx (Atom.sl 4 0 none), SA.fx (Atom.sl 5 0 none)]), (2, SO.row (K.str.pr ((K.int IntKind.i64).pr (K.int IntKind.i64))).st 0), (3, SO.row (K.str.pr (((K.int IntKind.i64).pr (K.int IntKind.i64)).st.sl.pr (((K.int IntKind.i64).pr (K.int IntKind.i64)).st.sl.pr (((K.int IntKind.i64).pr (K.int IntKind.i64)).st.sl.pr (K.int IntKind.i64))))).st 0), (4, SO.row (K.str.pr ((K.int IntKind.i64).pr (K.int IntKind.i64))).st 0), (5, SO.row (K.str.pr (((K.int IntKind.i64).pr (K.int IntKind.i64)).st.sl.pr (((K.int IntKind.i64).pr (K.int IntKind.i64)).st.sl.pr (((K.int IntKind.i64).pr (K.int IntKind.i64)).st.sl.pr (K.int IntKind.i64))))).st 0)], nx := 6 }
def L1.x1 : Sh := { sl := [(4, SV.a (SA.fx (Atom.box 0 0))), (5, SV.j), (7, SV.a (SA.fx (Atom.box 1 0)))], os := [(0, SO.box [SA.d K.str, SA.fx (Atom.sl 2 0 none), SA.fx (Atom.sl 3 0 none)]), (1, SO.box [SA.d K.str, SA.fx (Atom.sl 4 0 none), SA.fx (Atom.sl 5 0 none)]), (2, SO.row (K.str.pr ((K.int IntKind.i64).pr (K.int IntKind.i64))).st 0), (3, SO.row (K.str.pr (((K.int IntKind.i64).pr (K.int IntKind.i64)).st.sl.pr (((K.int IntKind.i64).pr (K.int IntKind.i64)).st.sl.pr (((K.int IntKind.i64).pr (K.int IntKind.i64)).st.sl.pr (K.int IntKind.i64))))).st 0), (4, SO.row (K.str.pr ((K.int IntKind.i64).pr (K.int IntKind.i64))).st 0), (5, SO.row (K.str.pr (((K.int IntKind.i64).pr (K.int IntKind.i64)).st.sl.pr (((K.int IntKind.i64).pr (K.int IntKind.i64)).st.sl.pr (((K.int IntKind.i64).pr (K.int IntKind.i64)).st.sl.pr (K.int IntKind.i64))))).st 0)], nx := 6 }
def L1.st {α : Type} (N : Nat) (x17 : (List Int)) (x19 : BA) (x20 : (List (BA × Int × Int))) (x21 : (List (BA × List (Int × Int) × List (Int × Int) × List (Int × Int) × Int))) (x22 : BA) (x23 : BA) (x24 : (List (BA × Int × Int))) (x25 : (List (BA × List (Int × Int) × List (Int × Int) × List (Int × Int) × Int))) (x27 : (List (BA × List (Int × Int) × List (Int × Int) × List (Int × Int) × Int))) (φ : (Int → (List (BA × Int × Int)) → Option α)) (x18 : Int) (x26 : (List (BA × Int × Int))) (k0 : (Int → BA → (List (BA × Int × Int)) → (List (BA × List (Int × Int) × List (Int × Int) × List (Int × Int) × Int)) → (List (BA × Int × Int)) → Option α)) (k1 : ((List (BA × Int × Int)) → Option α)) : Option α :=
 cond (decide (x18 < (↑x17.length : Int))) (cond (decide (0 ≤ x18) && decide (x18 < (↑x20.length : Int))) (cond (decide (0 < (x20.getD x18.toNat (eBA, 0, 0)).snd.snd)) (cond (decide (0 ≤ x18) && decide (x18 < (↑x17.length : Int))) (cond (decide (0 ≤ x18) && decide (x18 < (↑x20.length : Int))) (cond (decide ((x20.getD x18.toNat (eBA, 0, 0)).snd.snd < x17.getD x18.toNat (0 : Int))) (k0 (10) ((ByteArray.mk (#[]))) ([]) ([]) (x26)) (cond (decide (0 ≤ x18) && decide (x18 < (↑x17.length : Int))) (cond (decide (0 ≤ x18) && decide (x18 < (↑x26.length : Int))) (φ (IntKind.i64.wrap (x18 + 1)) (x26.set (0 + x18.toNat) ((x26.getD (0 + x18.toNat) (eBA, 0, 0)).fst, x17.getD x18.toNat 0, (x26.getD (0 + x18.toNat) (eBA, 0, 0)).snd.snd))) (none)) (none))) (none)) (none)) (cond (decide (0 ≤ x18) && decide (x18 < (↑x17.length : Int))) (cond (decide (0 ≤ x18) && decide (x18 < (↑x26.length : Int))) (φ (IntKind.i64.wrap (x18 + 1)) (x26.set (0 + x18.toNat) ((x26.getD (0 + x18.toNat) (eBA, 0, 0)).fst, x17.getD x18.toNat 0, (x26.getD (0 + x18.toNat) (eBA, 0, 0)).snd.snd))) (none)) (none))) (none)) (k1 (x26))
def L1.f {α : Type} (N : Nat) (c0 : (List Int)) (c1 : BA) (c2 : (List (BA × Int × Int))) (c3 : (List (BA × List (Int × Int) × List (Int × Int) × List (Int × Int) × Int))) (c4 : BA) (c5 : BA) (c6 : (List (BA × Int × Int))) (c7 : (List (BA × List (Int × Int) × List (Int × Int) × List (Int × Int) × Int))) (c8 : (List (BA × List (Int × Int) × List (Int × Int) × List (Int × Int) × Int))) : Nat → Int → (List (BA × Int × Int)) → (Int → BA → (List (BA × Int × Int)) → (List (BA × List (Int × Int) × List (Int × Int) × List (Int × Int) × Int)) → (List (BA × Int × Int)) → Option α) → ((List (BA × Int × Int)) → Option α) → Option α
 | 0, _, _, _, _ => none
 | n + 1, d0, d1, k0, k1 => L1.st N c0 c1 c2 c3 c4 c5 c6 c7 c8 (fun e0 e1 => L1.f N c0 c1 c2 c3 c4 c5 c6 c7 c8 n e0 e1 k0 k1) d0 d1 k0 k1
def L1.F {α : Type} (N : Nat) (d : L1.sh.T) (K : Cont α) : Option α := L1.f N d.1.1 d.2.1.1 d.2.1.2.1 d.2.1.2.2.1 d.2.2.1.1 d.2.2.2.1.1 d.2.2.2.2.1 d.2.2.2.2.2.1 d.2.2.2.2.2.2.2.1 N d.1.2.2.2.2.1 d.2.2.2.2.2.2.1 (fun y0 y1 y2 y3 y4 => K (Exit.ret) (L1.x0.enc (((), (y0, ((), ()))), ((y1, ((), ((), ()))), ((d.2.2.2.1.1, ((), ((), ()))), (y2, (y3, (y4, (d.2.2.2.2.2.2.2.1, ()))))))))) (fun y0 => K (Exit.exit 0) (L1.x1.enc (((), ((), ((), ()))), ((d.2.2.1.1, ((), ((), ()))), ((d.2.2.2.1.1, ((), ((), ()))), (d.2.2.2.2.1, (d.2.2.2.2.2.1, (y0, (d.2.2.2.2.2.2.2.1, ())))))))))
def ents26 {α : Type} (N : Nat) : List (SmE α) := [⟨0, 50, 8, [⟨L1.sh, L1.F N⟩]⟩]
def ents29 {α : Type} (N : Nat) : List (SmE α) := [⟨2, 49, 4, [⟨L0.sh, L0.F N⟩]⟩]
def C (N : Nat) : Ctx := ⟨tys, [(45, pf04_Valid.fent), (56, pf09_Check.fent), (52, pf12_copied.fent)], [(29, ⟨Tryd.f29, an29, fun α lo d r => smL (ents29 N) lo d r⟩)], N⟩
def L0.B {α : Type} (N : Nat) : Env → Cont α → Option α := evC tys 47 2 (evCall (C N) 49) (evCallQ (C N)) N an29 (smL (ents29 N) 2 49) (loopOf 4 Tryd.f29)
theorem L0.r {α : Type} (N : Nat) (c0 : BA) (c1 : (List (BA × Int × Int))) (c2 : (List (BA × List (Int × Int) × List (Int × Int) × List (Int × Int) × Int))) (c3 : BA) (c4 : BA) (c5 : (List (BA × Int × Int))) (c6 : (List (BA × List (Int × Int) × List (Int × Int) × List (Int × Int) × Int))) (c7 : (List (BA × Int × Int))) (c8 : (List (BA × List (Int × Int) × List (Int × Int) × List (Int × Int) × Int))) (c9 : (List (BA × Int × Int))) (c10 : BA) (c11 : BA) (c12 : (List (BA × Int × Int))) (c13 : (List (BA × List (Int × Int) × List (Int × Int) × List (Int × Int) × Int))) (φ : Env → Option α) (K : Cont α) (d0 : Int) (d1 : (List (BA × List (Int × Int) × List (Int × Int) × List (Int × Int) × Int))) : L0.B N (L0.sh.enc (((), ((), ((), (d0, ())))), ((c0, (c1, (c2, ()))), ((c3, ((), ((), ()))), ((c4, ((), ((), ()))), (c5, (c6, (c7, (c8, (c9, (d1, ((c10, ((), ((), ()))), ((c11, (c12, (c13, ()))), ()))))))))))))) (contL φ K (Env.norm 2 [1, 2, 3, 4]) (Env.norm 2 [2, 3])) = L0.st N c0 c1 c2 c3 c4 c5 c6 c7 c8 c9 c10 c11 c12 c13 (fun e0 e1 => φ (L0.sh.enc (((), ((), ((), (e0, ())))), ((c0, (c1, (c2, ()))), ((c3, ((), ((), ()))), ((c4, ((), ((), ()))), (c5, (c6, (c7, (c8, (c9, (e1, ((c10, ((), ((), ()))), ((c11, (c12, (c13, ()))), ())))))))))))))) d0 d1 (fun y0 => K (Exit.exit 0) (L0.x0.enc (((), ((), ())), ((c3, ((), ((), ()))), ((c4, ((), ((), ()))), (c5, (c6, (c7, (c8, (c9, (y0, ((c10, ((), ((), ()))), ((c11, (c12, (c13, ()))), ()))))))))))))) := by kernel_rfl
theorem L0.e {α : Type} (N : Nat) (c0 : BA) (c1 : (List (BA × Int × Int))) (c2 : (List (BA × List (Int × Int) × List (Int × Int) × List (Int × Int) × Int))) (c3 : BA) (c4 : BA) (c5 : (List (BA × Int × Int))) (c6 : (List (BA × List (Int × Int) × List (Int × Int) × List (Int × Int) × Int))) (c7 : (List (BA × Int × Int))) (c8 : (List (BA × List (Int × Int) × List (Int × Int) × List (Int × Int) × Int))) (c9 : (List (BA × Int × Int))) (c10 : BA) (c11 : BA) (c12 : (List (BA × Int × Int))) (c13 : (List (BA × List (Int × Int) × List (Int × Int) × List (Int × Int) × Int))) : ∀ (n : Nat) (d0 : Int) (d1 : (List (BA × List (Int × Int) × List (Int × Int) × List (Int × Int) × Int))) (K : Cont α), evL (L0.B N) (Env.norm 2 [1, 2, 3, 4]) (Env.norm 2 [2, 3]) n (L0.sh.enc (((), ((), ((), (d0, ())))), ((c0, (c1, (c2, ()))), ((c3, ((), ((), ()))), ((c4, ((), ((), ()))), (c5, (c6, (c7, (c8, (c9, (d1, ((c10, ((), ((), ()))), ((c11, (c12, (c13, ()))), ()))))))))))))) K = L0.f N c0 c1 c2 c3 c4 c5 c6 c7 c8 c9 c10 c11 c12 c13 n d0 d1 (fun y0 => K (Exit.exit 0) (L0.x0.enc (((), ((), ())), ((c3, ((), ((), ()))), ((c4, ((), ((), ()))), (c5, (c6, (c7, (c8, (c9, (y0, ((c10, ((), ((), ()))), ((c11, (c12, (c13, ()))), ())))))))))))))
 | 0, d0, d1, K => rfl
 | n + 1, d0, d1, K => evL_contL.trans ((L0.r N c0 c1 c2 c3 c4 c5 c6 c7 c8 c9 c10 c11 c12 c13 (fun e => evL (L0.B N) (Env.norm 2 [1, 2, 3, 4]) (Env.norm 2 [2, 3]) n e K) K d0 d1).trans (congrArg (fun φ => L0.st N c0 c1 c2 c3 c4 c5 c6 c7 c8 c9 c10 c11 c12 c13 φ d0 d1 (fun y0 => K (Exit.exit 0) (L0.x0.enc (((), ((), ())), ((c3, ((), ((), ()))), ((c4, ((), ((), ()))), (c5, (c6, (c7, (c8, (c9, (y0, ((c10, ((), ((), ()))), ((c11, (c12, (c13, ()))), ())))))))))))))) (funext fun e0 => funext fun e1 => L0.e N c0 c1 c2 c3 c4 c5 c6 c7 c8 c9 c10 c11 c12 c13 n e0 e1 K)))
def L1.B {α : Type} (N : Nat) : Env → Cont α → Option α := evC tys 62 0 (evCall (C N) 50) (evCallQ (C N)) N an26 (smL (ents26 N) 0 50) (loopOf 8 Tryd.f26)
theorem L1.r {α : Type} (N : Nat) (c0 : (List Int)) (c1 : BA) (c2 : (List (BA × Int × Int))) (c3 : (List (BA × List (Int × Int) × List (Int × Int) × List (Int × Int) × Int))) (c4 : BA) (c5 : BA) (c6 : (List (BA × Int × Int))) (c7 : (List (BA × List (Int × Int) × List (Int × Int) × List (Int × Int) × Int))) (c8 : (List (BA × List (Int × Int) × List (Int × Int) × List (Int × Int) × Int))) (φ : Env → Option α) (K : Cont α) (d0 : Int) (d1 : (List (BA × Int × Int))) : L1.B N (L1.sh.enc ((c0, ((), ((), ((), (d0, ()))))), ((c1, (c2, (c3, ()))), ((c4, ((), ((), ()))), ((c5, ((), ((), ()))), (c6, (c7, (d1, (c8, ()))))))))) (contL φ K (Env.norm 0 [1, 2, 4, 7, 8]) (Env.norm 0 [4, 5, 7])) = L1.st N c0 c1 c2 c3 c4 c5 c6 c7 c8 (fun e0 e1 => φ (L1.sh.enc ((c0, ((), ((), ((), (e0, ()))))), ((c1, (c2, (c3, ()))), ((c4, ((), ((), ()))), ((c5, ((), ((), ()))), (c6, (c7, (e1, (c8, ())))))))))) d0 d1 (fun y0 y1 y2 y3 y4 => K (Exit.ret) (L1.x0.enc (((), (y0, ((), ()))), ((y1, ((), ((), ()))), ((c5, ((), ((), ()))), (y2, (y3, (y4, (c8, ()))))))))) (fun y0 => K (Exit.exit 0) (L1.x1.enc (((), ((), ((), ()))), ((c4, ((), ((), ()))), ((c5, ((), ((), ()))), (c6, (c7, (y0, (c8, ()))))))))) := by kernel_rfl
theorem L1.e {α : Type} (N : Nat) (c0 : (List Int)) (c1 : BA) (c2 : (List (BA × Int × Int))) (c3 : (List (BA × List (Int × Int) × List (Int × Int) × List (Int × Int) × Int))) (c4 : BA) (c5 : BA) (c6 : (List (BA × Int × Int))) (c7 : (List (BA × List (Int × Int) × List (Int × Int) × List (Int × Int) × Int))) (c8 : (List (BA × List (Int × Int) × List (Int × Int) × List (Int × Int) × Int))) : ∀ (n : Nat) (d0 : Int) (d1 : (List (BA × Int × Int))) (K : Cont α), evL (L1.B N) (Env.norm 0 [1, 2, 4, 7, 8]) (Env.norm 0 [4, 5, 7]) n (L1.sh.enc ((c0, ((), ((), ((), (d0, ()))))), ((c1, (c2, (c3, ()))), ((c4, ((), ((), ()))), ((c5, ((), ((), ()))), (c6, (c7, (d1, (c8, ()))))))))) K = L1.f N c0 c1 c2 c3 c4 c5 c6 c7 c8 n d0 d1 (fun y0 y1 y2 y3 y4 => K (Exit.ret) (L1.x0.enc (((), (y0, ((), ()))), ((y1, ((), ((), ()))), ((c5, ((), ((), ()))), (y2, (y3, (y4, (c8, ()))))))))) (fun y0 => K (Exit.exit 0) (L1.x1.enc (((), ((), ((), ()))), ((c4, ((), ((), ()))), ((c5, ((), ((), ()))), (c6, (c7, (y0, (c8, ())))))))))
 | 0, d0, d1, K => rfl
 | n + 1, d0, d1, K => evL_contL.trans ((L1.r N c0 c1 c2 c3 c4 c5 c6 c7 c8 (fun e => evL (L1.B N) (Env.norm 0 [1, 2, 4, 7, 8]) (Env.norm 0 [4, 5, 7]) n e K) K d0 d1).trans (congrArg (fun φ => L1.st N c0 c1 c2 c3 c4 c5 c6 c7 c8 φ d0 d1 (fun y0 y1 y2 y3 y4 => K (Exit.ret) (L1.x0.enc (((), (y0, ((), ()))), ((y1, ((), ((), ()))), ((c5, ((), ((), ()))), (y2, (y3, (y4, (c8, ()))))))))) (fun y0 => K (Exit.exit 0) (L1.x1.enc (((), ((), ((), ()))), ((c4, ((), ((), ()))), ((c5, ((), ((), ()))), (c6, (c7, (y0, (c8, ())))))))))) (funext fun e0 => funext fun e1 => L1.e N c0 c1 c2 c3 c4 c5 c6 c7 c8 n e0 e1 K)))
theorem ents26_ok {α : Type} (N : Nat) : AllP (EntOk (C N) Tryd.f26 an26 (ents26 (α := α) N)) (ents26 N) := ⟨entOk_of (b0 := loopOf 8 Tryd.f26) (li0 := [1, 2, 4, 7, 8]) (lx0 := [4, 5, 7]) (by kernel_rfl) (by kernel_rfl) ⟨fun d K => L1.e N d.1.1 d.2.1.1 d.2.1.2.1 d.2.1.2.2.1 d.2.2.1.1 d.2.2.2.1.1 d.2.2.2.2.1 d.2.2.2.2.2.1 d.2.2.2.2.2.2.2.1 N d.1.2.2.2.2.1 d.2.2.2.2.2.2.1 K, trivial⟩, trivial⟩
theorem ents29_ok {α : Type} (N : Nat) : AllP (EntOk (C N) Tryd.f29 an29 (ents29 (α := α) N)) (ents29 N) := ⟨entOk_of (b0 := loopOf 4 Tryd.f29) (li0 := [1, 2, 3, 4]) (lx0 := [2, 3]) (by kernel_rfl) (by kernel_rfl) ⟨fun d K => L0.e N d.2.1.1 d.2.1.2.1 d.2.1.2.2.1 d.2.2.1.1 d.2.2.2.1.1 d.2.2.2.2.1 d.2.2.2.2.2.1 d.2.2.2.2.2.2.1 d.2.2.2.2.2.2.2.1 d.2.2.2.2.2.2.2.2.1 d.2.2.2.2.2.2.2.2.2.2.1.1 d.2.2.2.2.2.2.2.2.2.2.2.1.1 d.2.2.2.2.2.2.2.2.2.2.2.1.2.1 d.2.2.2.2.2.2.2.2.2.2.2.1.2.2.1 N d.1.2.2.2.1 d.2.2.2.2.2.2.2.2.2.1 K, trivial⟩, trivial⟩
def g {α : Type} (N : Nat) (a0 : BA × List (BA × Int × Int) × List (BA × List (Int × Int) × List (Int × Int) × List (Int × Int) × Int)) (a1 : List Int) (kr : ((BA × List (BA × Int × Int) × List (BA × List (Int × Int) × List (Int × Int) × List (Int × Int) × Int)) → Int → Option α)) : Option α :=
 cond ((pf09_Check.spec (a0.fst, a0.snd.fst, a0.snd.snd)).fst != 0) (kr (((ByteArray.mk (#[])), [], [])) ((pf09_Check.spec (a0.fst, a0.snd.fst, a0.snd.snd)).fst)) (cond (!pf04_Valid.spec a1 (↑(List.length a0.snd.fst) : Int)) (kr (((ByteArray.mk (#[])), [], [])) (10)) (cond ((List.length a0.snd.fst).ble mxl) (L0.f N (a0.fst) (a0.snd.fst) (a0.snd.snd) ((ByteArray.mk (#[]))) (a0.fst) ([]) ([]) ([]) ([]) (a0.snd.fst) ((ByteArray.mk (#[]))) (a0.fst) (a0.snd.fst) (a0.snd.snd) N (0) ([]) (fun x16 => L1.f N (a1) (a0.fst) (a0.snd.fst) (a0.snd.snd) ((ByteArray.mk (#[]))) (a0.fst) ([]) ([]) (x16) N (0) (a0.snd.fst) (fun x28 x29 x30 x31 x32 => kr ((x29, x30, x31)) (x28)) (fun x33 => kr ((a0.fst, x33, x16)) (0)))) (none)))
theorem eq (N : Nat) (a0 : BA × List (BA × Int × Int) × List (BA × List (Int × Int) × List (Int × Int) × List (Int × Int) × Int)) (a1 : List Int) : evF (C N) 50 Tryd.f26 an26 (smL (ents26 N) 0 50) [((.st (.pr (.str) (.pr (.sl (.st (.pr (.str) (.pr (.int .i64) (.int .i64))))) (.sl (.st (.pr (.str) (.pr (.sl (.st (.pr (.int .i64) (.int .i64)))) (.pr (.sl (.st (.pr (.int .i64) (.int .i64)))) (.pr (.sl (.st (.pr (.int .i64) (.int .i64)))) (.int .i64))))))))) : K), false), ((.int .i64 : K), false)] [⟨.st (.pr (.str) (.pr (.sl (.st (.pr (.str) (.pr (.int .i64) (.int .i64))))) (.sl (.st (.pr (.str) (.pr (.sl (.st (.pr (.int .i64) (.int .i64)))) (.pr (.sl (.st (.pr (.int .i64) (.int .i64)))) (.pr (.sl (.st (.pr (.int .i64) (.int .i64)))) (.int .i64))))))))), a0⟩, ⟨.sl (.int .i64), a1⟩] = g N a0 a1 (fun r0 r1 => some [.dat ((K.str.pr ((K.str.pr ((K.int IntKind.i64).pr (K.int IntKind.i64))).st.sl.pr (K.str.pr (((K.int IntKind.i64).pr (K.int IntKind.i64)).st.sl.pr (((K.int IntKind.i64).pr (K.int IntKind.i64)).st.sl.pr (((K.int IntKind.i64).pr (K.int IntKind.i64)).st.sl.pr (K.int IntKind.i64))))).st.sl)).st) r0, .dat (K.int IntKind.i64) r1]) := by kernel_rfl
theorem ctxOk (N : Nat) : CtxOk P (C N) := ctxOk_of tysOk mixedOk ⟨pf04_Valid.ok, pf09_Check.ok, pf12_copied.ok, trivial⟩ ⟨⟨⟨by rfl, by kernel_rfl⟩, fun α lo d c hc => smL_ok (ents29_ok N) lo d hc⟩, trivial⟩
theorem calls (N : Nat) (a0 : BA × List (BA × Int × Int) × List (BA × List (Int × Int) × List (Int × Int) × List (Int × Int) × Int)) (a1 : List Int) {rs : List Rs} (h : g N a0 a1 (fun r0 r1 => some [.dat ((K.str.pr ((K.str.pr ((K.int IntKind.i64).pr (K.int IntKind.i64))).st.sl.pr (K.str.pr (((K.int IntKind.i64).pr (K.int IntKind.i64)).st.sl.pr (((K.int IntKind.i64).pr (K.int IntKind.i64)).st.sl.pr (((K.int IntKind.i64).pr (K.int IntKind.i64)).st.sl.pr (K.int IntKind.i64))))).st.sl)).st) r0, .dat (K.int IntKind.i64) r1]) = some rs) : CallsTo P 26 [⟨.st (.pr (.str) (.pr (.sl (.st (.pr (.str) (.pr (.int .i64) (.int .i64))))) (.sl (.st (.pr (.str) (.pr (.sl (.st (.pr (.int .i64) (.int .i64)))) (.pr (.sl (.st (.pr (.int .i64) (.int .i64)))) (.pr (.sl (.st (.pr (.int .i64) (.int .i64)))) (.int .i64))))))))), a0⟩, ⟨.sl (.int .i64), a1⟩] rs := evF_calls' (ctxOk N) (by rfl) (ents26_ok N) ((eq N a0 a1).trans h)
def L0.l {α : Type} (N : Nat) (x1 : BA) (x2 : (List (BA × Int × Int))) (x3 : (List (BA × List (Int × Int) × List (Int × Int) × List (Int × Int) × Int))) (x4 : BA) (x5 : BA) (x6 : (List (BA × Int × Int))) (x7 : (List (BA × List (Int × Int) × List (Int × Int) × List (Int × Int) × Int))) (x8 : (List (BA × Int × Int))) (x9 : (List (BA × List (Int × Int) × List (Int × Int) × List (Int × Int) × Int))) (x10 : (List (BA × Int × Int))) (x12 : BA) (x13 : BA) (x14 : (List (BA × Int × Int))) (x15 : (List (BA × List (Int × Int) × List (Int × Int) × List (Int × Int) × Int))) (k0 : ((List (BA × List (Int × Int) × List (Int × Int) × List (Int × Int) × Int)) → Option α)) : List (BA × List (Int × Int) × List (Int × Int) × List (Int × Int) × Int) → Int → (List (BA × List (Int × Int) × List (Int × Int) × List (Int × Int) × Int)) → Option α
 | [], x0, x11 => k0 (x11)
 | x :: l, x0, x11 => (cond (pf12_copied.pre x.snd.fst) (cond (pf12_copied.pre x.snd.snd.fst) (cond (pf12_copied.pre x.snd.snd.snd.fst) (cond ((x11.length + 1).ble mxl) (cond (pf12_copied.pre x.snd.fst) (cond (pf12_copied.pre x.snd.snd.fst) (cond (pf12_copied.pre x.snd.snd.snd.fst) (cond ((x11.length + 1).ble mxl) (L0.l N x1 x2 x3 x4 x5 x6 x7 x8 x9 x10 x12 x13 x14 x15 k0 l (x0 + 1) (x11 ++ [(x.fst, pf12_copied.spec x.snd.fst, pf12_copied.spec x.snd.snd.fst, pf12_copied.spec x.snd.snd.snd.fst, x.snd.snd.snd.snd)])) (none)) (none)) (none)) (none)) (none)) (none)) (none)) (none))
theorem L0.rng {α : Type} {N : Nat} (x1 : BA) (x2 : (List (BA × Int × Int))) (x3 : (List (BA × List (Int × Int) × List (Int × Int) × List (Int × Int) × Int))) (x4 : BA) (x5 : BA) (x6 : (List (BA × Int × Int))) (x7 : (List (BA × List (Int × Int) × List (Int × Int) × List (Int × Int) × Int))) (x8 : (List (BA × Int × Int))) (x9 : (List (BA × List (Int × Int) × List (Int × Int) × List (Int × Int) × Int))) (x10 : (List (BA × Int × Int))) (x12 : BA) (x13 : BA) (x14 : (List (BA × Int × Int))) (x15 : (List (BA × List (Int × Int) × List (Int × Int) × List (Int × Int) × Int))) (hl : x3.length ≤ maxLen) (k0 : ((List (BA × List (Int × Int) × List (Int × Int) × List (Int × Int) × Int)) → Option α)) : ∀ (n j : Nat) (x11 : (List (BA × List (Int × Int) × List (Int × Int) × List (Int × Int) × Int))), x3.length < n + j → j ≤ x3.length → L0.f N x1 x2 x3 x4 x5 x6 x7 x8 x9 x10 x12 x13 x14 x15 n (j : Int) x11 k0 = L0.l N x1 x2 x3 x4 x5 x6 x7 x8 x9 x10 x12 x13 x14 x15 k0 (x3.drop j) (j : Int) x11
 | 0, j, x11, h, hj => absurd h (by omega)
 | n + 1, j, x11, h, hj => by
  by_cases hlt : j < x3.length
  ·
   have e1 : decide ((j : Int) < (x3.length : Int)) = true := decide_eq_true (Int.ofNat_lt.2 hlt)
   have e2 : decide ((0 : Int) ≤ (j : Int)) = true := decide_eq_true (Int.natCast_nonneg j)
   have e3 : ∀ z, x3.getD (Int.toNat (j : Int)) z = x3[j] := fun z => by rw [Int.toNat_natCast]; exact (List.getElem_eq_getD z).symm
   have e3' : ∀ z, x3.getD (0 + Int.toNat (j : Int)) z = x3[j] := fun z => by rw [Nat.zero_add]; exact e3 z
   have e4 : IntKind.i64.wrap ((j : Int) + 1) = (j : Int) + 1 := wrap_next hlt hl
   have ih : ∀ (x11 : (List (BA × List (Int × Int) × List (Int × Int) × List (Int × Int) × Int))), L0.f N x1 x2 x3 x4 x5 x6 x7 x8 x9 x10 x12 x13 x14 x15 n ((j : Int) + 1) x11 k0 = L0.l N x1 x2 x3 x4 x5 x6 x7 x8 x9 x10 x12 x13 x14 x15 k0 (x3.drop (j + 1)) ((j : Int) + 1) x11 := fun x11 => L0.rng x1 x2 x3 x4 x5 x6 x7 x8 x9 x10 x12 x13 x14 x15 hl k0 n (j + 1) x11 (by omega) (by omega)
   rw [List.drop_eq_getElem_cons hlt]
   first
    | (simp only [L0.f, L0.st, L0.l, e1, e2, e3, e3', e4, Bool.true_and, Bool.and_true, Bool.and_self, cond_true, ih]; done)
    | (simp only [L0.f, L0.st, L0.l, e1, e2, e3, e3', e4, Bool.true_and, Bool.and_true, Bool.and_self, cond_true, ih]; rfl)
  ·
   have e1 : decide ((j : Int) < (x3.length : Int)) = false := decide_eq_false (fun hc => hlt (Int.ofNat_lt.1 hc))
   rw [List.drop_eq_nil_of_le (by omega)]
   simp only [L0.f, L0.st, L0.l, e1, cond_false]
def L1.l {α : Type} (N : Nat) (x17 : (List Int)) (x19 : BA) (x20 : (List (BA × Int × Int))) (x21 : (List (BA × List (Int × Int) × List (Int × Int) × List (Int × Int) × Int))) (x22 : BA) (x23 : BA) (x24 : (List (BA × Int × Int))) (x25 : (List (BA × List (Int × Int) × List (Int × Int) × List (Int × Int) × Int))) (x27 : (List (BA × List (Int × Int) × List (Int × Int) × List (Int × Int) × Int))) (k0 : (Int → BA → (List (BA × Int × Int)) → (List (BA × List (Int × Int) × List (Int × Int) × List (Int × Int) × Int)) → (List (BA × Int × Int)) → Option α)) (k1 : ((List (BA × Int × Int)) → Option α)) : List Int → Int → (List (BA × Int × Int)) → Option α
 | [], x18, x26 => k1 (x26)
 | x :: l, x18, x26 => cond (decide (0 ≤ x18) && decide (x18 < (↑x20.length : Int))) (cond (decide (0 < (x20.getD x18.toNat (eBA, 0, 0)).snd.snd)) ((cond (decide (0 ≤ x18) && decide (x18 < (↑x20.length : Int))) (cond (decide ((x20.getD x18.toNat (eBA, 0, 0)).snd.snd < x)) (k0 (10) ((ByteArray.mk (#[]))) ([]) ([]) (x26)) ((cond (decide (0 ≤ x18) && decide (x18 < (↑x26.length : Int))) (L1.l N x17 x19 x20 x21 x22 x23 x24 x25 x27 k0 k1 l (x18 + 1) (x26.set (0 + x18.toNat) ((x26.getD (0 + x18.toNat) (eBA, 0, 0)).fst, x, (x26.getD (0 + x18.toNat) (eBA, 0, 0)).snd.snd))) (none)))) (none))) ((cond (decide (0 ≤ x18) && decide (x18 < (↑x26.length : Int))) (L1.l N x17 x19 x20 x21 x22 x23 x24 x25 x27 k0 k1 l (x18 + 1) (x26.set (0 + x18.toNat) ((x26.getD (0 + x18.toNat) (eBA, 0, 0)).fst, x, (x26.getD (0 + x18.toNat) (eBA, 0, 0)).snd.snd))) (none)))) (none)
theorem L1.rng {α : Type} {N : Nat} (x17 : (List Int)) (x19 : BA) (x20 : (List (BA × Int × Int))) (x21 : (List (BA × List (Int × Int) × List (Int × Int) × List (Int × Int) × Int))) (x22 : BA) (x23 : BA) (x24 : (List (BA × Int × Int))) (x25 : (List (BA × List (Int × Int) × List (Int × Int) × List (Int × Int) × Int))) (x27 : (List (BA × List (Int × Int) × List (Int × Int) × List (Int × Int) × Int))) (hl : x17.length ≤ maxLen) (k0 : (Int → BA → (List (BA × Int × Int)) → (List (BA × List (Int × Int) × List (Int × Int) × List (Int × Int) × Int)) → (List (BA × Int × Int)) → Option α)) (k1 : ((List (BA × Int × Int)) → Option α)) : ∀ (n j : Nat) (x26 : (List (BA × Int × Int))), x17.length < n + j → j ≤ x17.length → L1.f N x17 x19 x20 x21 x22 x23 x24 x25 x27 n (j : Int) x26 k0 k1 = L1.l N x17 x19 x20 x21 x22 x23 x24 x25 x27 k0 k1 (x17.drop j) (j : Int) x26
 | 0, j, x26, h, hj => absurd h (by omega)
 | n + 1, j, x26, h, hj => by
  by_cases hlt : j < x17.length
  ·
   have e1 : decide ((j : Int) < (x17.length : Int)) = true := decide_eq_true (Int.ofNat_lt.2 hlt)
   have e2 : decide ((0 : Int) ≤ (j : Int)) = true := decide_eq_true (Int.natCast_nonneg j)
   have e3 : ∀ z, x17.getD (Int.toNat (j : Int)) z = x17[j] := fun z => by rw [Int.toNat_natCast]; exact (List.getElem_eq_getD z).symm
   have e3' : ∀ z, x17.getD (0 + Int.toNat (j : Int)) z = x17[j] := fun z => by rw [Nat.zero_add]; exact e3 z
   have e4 : IntKind.i64.wrap ((j : Int) + 1) = (j : Int) + 1 := wrap_next hlt hl
   have ih : ∀ (x26 : (List (BA × Int × Int))), L1.f N x17 x19 x20 x21 x22 x23 x24 x25 x27 n ((j : Int) + 1) x26 k0 k1 = L1.l N x17 x19 x20 x21 x22 x23 x24 x25 x27 k0 k1 (x17.drop (j + 1)) ((j : Int) + 1) x26 := fun x26 => L1.rng x17 x19 x20 x21 x22 x23 x24 x25 x27 hl k0 k1 n (j + 1) x26 (by omega) (by omega)
   rw [List.drop_eq_getElem_cons hlt]
   first
    | (simp only [L1.f, L1.st, L1.l, e1, e2, e3, e3', e4, Bool.true_and, Bool.and_true, Bool.and_self, cond_true, ih]; done)
    | (simp only [L1.f, L1.st, L1.l, e1, e2, e3, e3', e4, Bool.true_and, Bool.and_true, Bool.and_self, cond_true, ih]; rfl)
  ·
   have e1 : decide ((j : Int) < (x17.length : Int)) = false := decide_eq_false (fun hc => hlt (Int.ofNat_lt.1 hc))
   rw [List.drop_eq_nil_of_le (by omega)]
   simp only [L1.f, L1.st, L1.l, e1, cond_false]
end pf12_Start
theorem pf12_Start.L0.law {α : Type} {N : Nat} (x1 : BA) (x2 : (List (BA × Int × Int))) (x3 : (List (BA × List (Int × Int) × List (Int × Int) × List (Int × Int) × Int))) (x4 : BA) (x5 : BA) (x6 : (List (BA × Int × Int))) (x7 : (List (BA × List (Int × Int) × List (Int × Int) × List (Int × Int) × Int))) (x8 : (List (BA × Int × Int))) (x9 : (List (BA × List (Int × Int) × List (Int × Int) × List (Int × Int) × Int))) (x10 : (List (BA × Int × Int))) (x12 : BA) (x13 : BA) (x14 : (List (BA × Int × Int))) (x15 : (List (BA × List (Int × Int) × List (Int × Int) × List (Int × Int) × Int))) (k0 : ((List (BA × List (Int × Int) × List (Int × Int) × List (Int × Int) × Int)) → Option α)) : ∀ (l : List TransT) (j : Int) (acc : List TransT), acc.length + l.length ≤ 1000 → (∀ t ∈ l, BigT t) → pf12_Start.L0.l N x1 x2 x3 x4 x5 x6 x7 x8 x9 x10 x12 x13 x14 x15 k0 l j acc = k0 (acc ++ l)
 | [], j, acc, _, h => by rw [pf12_Start.L0.l, List.append_nil]
 | x :: l, j, acc, h0, h => by
  simp only [List.length_cons] at h0
  obtain ⟨h1, h2, h3⟩ := h x (by simp)
  rw [pf12_Start.L0.l]
  simp only [pf12_copied.pre, h1, h2, h3, cond_true]
  rw [ble1 _ (by omega)]
  simp only [cond_true]
  rw [pf12_Start.L0.law _ _ _ _ _ _ _ _ _ _ _ _ _ _ _ l _ _ (by simp; omega) (fun t ht => h t (by simp [ht])), List.append_assoc]
  rfl
def setI (ps : List PlaceT) (m : List Int) : List PlaceT := List.zipWith (fun p k => (p.1, k, p.2.2)) ps m
theorem pf12_Start.L1.law {α : Type} {N : Nat} (x17 : (List Int)) (x19 : BA) (x20 : (List (BA × Int × Int))) (x21 : (List (BA × List (Int × Int) × List (Int × Int) × List (Int × Int) × Int))) (x22 : BA) (x23 : BA) (x24 : (List (BA × Int × Int))) (x25 : (List (BA × List (Int × Int) × List (Int × Int) × List (Int × Int) × Int))) (x27 : (List (BA × List (Int × Int) × List (Int × Int) × List (Int × Int) × Int))) (k0 : (Int → BA → (List (BA × Int × Int)) → (List (BA × List (Int × Int) × List (Int × Int) × List (Int × Int) × Int)) → (List (BA × Int × Int)) → Option α)) (k1 : ((List (BA × Int × Int)) → Option α)) (r : Option α) (hr : ∀ z, k0 10 ⟨#[]⟩ [] [] z = r) (hc : ∀ p ∈ x20, 0 ≤ p.2.2) : ∀ (l : List Int) (j : Nat) (pre : List PlaceT), l.length = (x20.drop j).length → j ≤ x20.length → pre.length = j →
  pf12_Start.L1.l N x17 x19 x20 x21 x22 x23 x24 x25 x27 k0 k1 l (j : Int) (pre ++ x20.drop j) = cond (((x20.drop j).zip l).any fun q => !(q.1.2.2 == 0) && decide (q.1.2.2 < q.2)) r (k1 (pre ++ setI (x20.drop j) l))
 | [], j, pre, h, _, _ => by
  have : x20.drop j = [] := List.eq_nil_of_length_eq_zero (by simpa using h.symm)
  rw [pf12_Start.L1.l, this]
  rfl
 | x :: l, j, pre, h, hj0, hp => by
  have hj : j < x20.length := by simp at h; omega
  have hp0 : 0 ≤ x20[j].2.2 := hc _ (List.getElem_mem hj)
  have hl : decide ((j : Int) < (((pre ++ x20.drop j).length : Nat) : Int)) = true := decide_eq_true (by rw [List.length_append, List.length_drop]; omega)
  have hg : (pre ++ x20.drop j).getD (Int.toNat (j : Int)) (eBA, 0, 0) = x20[j] := by
   rw [Int.toNat_natCast, List.getD_eq_getElem?_getD, List.getElem?_append_right (by omega), List.getElem?_drop]
   rw [show j + (j - pre.length) = j by omega, List.getElem?_eq_getElem hj]
   rfl
  have hs : ∀ y, (pre ++ x20.drop j).set (Int.toNat (j : Int)) y = (pre ++ [y]) ++ x20.drop (j + 1) := fun y => by
   rw [Int.toNat_natCast, List.drop_eq_getElem_cons hj, set_mid _ _ _ _ hp]
   simp
  rw [pf12_Start.L1.l, Nat.zero_add, d_0, d_lt hj, hl, getD_at hj, hg, hs]
  simp only [Bool.and_self, cond_true]
  rw [← succ_cast, pf12_Start.L1.law _ _ _ _ _ _ _ _ _ _ _ r hr hc l (j + 1) _ (by simp at h ⊢; omega) (by omega) (by simp [hp])]
  rw [List.drop_eq_getElem_cons hj, List.zip_cons_cons, List.any_cons]
  have e0 : decide (0 < x20[j].2.2) = !(x20[j].2.2 == 0) := by
   by_cases hz : x20[j].2.2 = 0
   ·
    rw [decide_eq_false (by omega), hz]; rfl
   ·
    rw [decide_eq_true (by omega)]
    have : (x20[j].2.2 == 0) = false := by simpa using hz
    rw [this]; rfl
  simp only [e0]
  cases (x20[j].2.2 == 0)
  ·
   cases decide (x20[j].2.2 < x)
   ·
    simp only [Bool.not_false, cond_true, cond_false, Bool.and_false, Bool.false_or, List.append_assoc]
    rfl
   ·
    simp only [Bool.not_false, cond_true, Bool.and_self, Bool.true_or]
    exact hr _
  ·
   simp only [Bool.not_true, cond_false, Bool.false_and, Bool.false_or, List.append_assoc]
   rfl
theorem pf12_Start.law {α : Type} {N : Nat} (hN : 18446744073709551616 ≤ N) (a0 : BA × (List (BA × Int × Int)) × List (BA × (List (Int × Int)) × (List (Int × Int)) × (List (Int × Int)) × Int)) (a1 : List Int) (w0 : K.wf (.st (.pr (.str) (.pr (.sl (.st (.pr (.str) (.pr (.int .i64) (.int .i64))))) (.sl (.st (.pr (.str) (.pr (.sl (.st (.pr (.int .i64) (.int .i64)))) (.pr (.sl (.st (.pr (.int .i64) (.int .i64)))) (.pr (.sl (.st (.pr (.int .i64) (.int .i64)))) (.int .i64)))))))))) a0) (w1 : K.wf (.sl (.int .i64)) a1) (kr : ((BA × (List (BA × Int × Int)) × List (BA × (List (Int × Int)) × (List (Int × Int)) × (List (Int × Int)) × Int)) → Int → Option α)) : pf12_Start.g N a0 a1 kr = kr (pf12_Start.spec a0 a1).1 (pf12_Start.spec a0 a1).2 := by
 unfold pf12_Start.g pf12_Start.spec startE
 simp only [pf09_Check.spec, bne, checkN_eta]
 cases hc : (checkN a0).1 == 0
 ·
  rfl
 have hv := checkN_t.1 hc
 simp only [Bool.not_true, cond_false, cond_true]
 rw [show pf04_Valid.spec a1 ((List.length a0.2.1 : Nat) : Int) = marking_Valid.spec a1 ((List.length a0.2.1 : Nat) : Int) from rfl]
 cases hm : marking_Valid.spec a1 ((List.length a0.2.1 : Nat) : Int)
 ·
  rfl
 have hlen : a0.2.1.length = a1.length := by
  unfold marking_Valid.spec at hm
  simp only [Bool.and_eq_true, decide_eq_true_eq] at hm
  omega
 have hnp := hv.np
 have hnt := hv.nt
 simp only [Bool.not_true, cond_false, cond_true]
 rw [ble0 (by omega), cond_true]
 refine (pf12_Start.L0.rng (N := N) _ _ _ _ _ _ _ _ _ _ _ _ _ _ (w0.2.2.1) _ N 0 _ (by have := le_fuel (w0.2.2.1) hN; omega) (Nat.zero_le _)).trans ?_
 refine (pf12_Start.L0.law _ _ _ _ _ _ _ _ _ _ _ _ _ _ _ _ _ _ (by simp; omega) (by simpa using hv.big)).trans ?_
 simp only [List.drop_zero, List.nil_append]
 refine (pf12_Start.L1.rng (N := N) _ _ _ _ _ _ _ _ _ (w1.1) _ _ N 0 _ (by have := le_fuel (w1.1) hN; omega) (Nat.zero_le _)).trans ?_
 refine (pf12_Start.L1.law _ _ _ _ _ _ _ _ _ _ _ (kr noNet 10) (fun _ => rfl) (fun p hp => (hv.place p hp).cap.1) _ 0 [] (by simpa using hlen.symm) (Nat.zero_le _) rfl).trans ?_
 simp only [List.drop_zero, List.nil_append]
 unfold over
 cases (List.any (List.zip a0.2.1 a1) _) <;> rfl
theorem pf12_Start.ok : FentOk P 26 pf12_Start.fent := fentOk_of (by kernel_rfl) fun ds hk => by
 obtain ⟨a0, l0, rfl, h0⟩ := ds_cons hk
 obtain ⟨a1, l1, rfl, h1⟩ := ds_cons h0
 obtain rfl := ds0 h1
 exact ⟨true, [.dat (.st (.pr (.str) (.pr (.sl (.st (.pr (.str) (.pr (.int .i64) (.int .i64))))) (.sl (.st (.pr (.str) (.pr (.sl (.st (.pr (.int .i64) (.int .i64)))) (.pr (.sl (.st (.pr (.int .i64) (.int .i64)))) (.pr (.sl (.st (.pr (.int .i64) (.int .i64)))) (.int .i64)))))))))) (pf12_Start.spec a0 a1).1, .dat (.int .i64) (pf12_Start.spec a0 a1).2], fun h hw => pf12_Start.calls 18446744073709551616 a0 a1 (pf12_Start.law (Nat.le_refl _) a0 a1 hw.1 hw.2.1 _), fun α k => rfl⟩
end Go.VI
namespace Go.VI
open Go Go.Proofs
theorem placeQ_iff {p q : PlaceT} : placeQ p q = true ↔ p = q := by
 unfold placeQ
 simp only [Bool.and_eq_true, sEq_iff, beq_iff_eq]
 exact ⟨fun ⟨a, b, c⟩ => Prod.ext a (Prod.ext b c), fun h => by rw [h]; exact ⟨rfl, rfl, rfl⟩⟩
theorem transQ_iff {x y : TransT} : transQ x y = true ↔ x = y := by
 unfold transQ
 simp only [Bool.and_eq_true, sEq_iff, beq_iff_eq, decide_eq_true_eq]
 exact ⟨fun ⟨⟨⟨⟨a, b⟩, c⟩, d⟩, e⟩ => Prod.ext a (Prod.ext c (Prod.ext d (Prod.ext e b))), fun h => by rw [h]; exact ⟨⟨⟨⟨rfl, rfl⟩, rfl⟩, rfl⟩, rfl⟩⟩
theorem allQ_iff {α : Type} {f : α → α → Bool} (hf : ∀ x y, f x y = true ↔ x = y) : ∀ {l m : List α}, allQ f l m = true ↔ l = m
 | [], [] => by simp [allQ]
 | x :: l, y :: m => by
  rw [allQ, Bool.and_eq_true, hf, allQ_iff hf]
  simp
 | [], _ :: _ => by simp [allQ]
 | _ :: _, [] => by simp [allQ]
theorem equalN_iff {a b : NetT} : equalN a b = true ↔ a = b := by
 unfold equalN
 rw [Bool.and_eq_true, Bool.and_eq_true, sEq_iff, allQ_iff (fun _ _ => placeQ_iff), allQ_iff (fun _ _ => transQ_iff)]
 exact ⟨fun ⟨⟨h1, h2⟩, h3⟩ => Prod.ext h1 (Prod.ext h2 h3), fun h => by rw [h]; exact ⟨⟨rfl, rfl⟩, rfl⟩⟩
theorem equalN_refl (a : NetT) : equalN a a = true := equalN_iff.2 rfl
end Go.VI
namespace Go.VI
open Go Go.Proofs
namespace pl12_TransformParts
def an5 : Ann := []
def ents5 {α : Type} (N : Nat) : List (SmE α) := []
def C (N : Nat) : Ctx := ⟨tys, [(11, pf09_Small.fent), (12, pl12_lives.fent), (17, pf09_Equal.fent), (23, tf_Subnet.fent), (24, pf12_Subnet.fent), (25, tf_Start.fent), (26, pf12_Start.fent)], [], N⟩
theorem ents5_ok {α : Type} (N : Nat) : AllP (EntOk (C N) Tryd.f5 an5 (ents5 (α := α) N)) (ents5 N) := trivial
def g {α : Type} (N : Nat) (a0 : BA × List (BA × Int × Int) × List (BA × List (Int × Int) × List (Int × Int) × List (Int × Int) × Int)) (a1 : Int × Int) (a2 : List Int) (kr : (Bool → Option α)) : Option α :=
 cond (!(pf09_Small.spec (a0.fst, a0.snd.fst, a0.snd.snd)).snd) (kr (pl12_lives.spec)) (cond (decide (30 < (↑a2.length : Int))) (kr (pl12_lives.spec)) (cond (pf09_Equal.spec ((tf_Subnet.spec ((pf09_Small.spec (a0.fst, a0.snd.fst, a0.snd.snd)).fst.fst, (pf09_Small.spec (a0.fst, a0.snd.fst, a0.snd.snd)).fst.snd.fst, (pf09_Small.spec (a0.fst, a0.snd.fst, a0.snd.snd)).fst.snd.snd) a1.fst a1.snd).fst.fst, (tf_Subnet.spec ((pf09_Small.spec (a0.fst, a0.snd.fst, a0.snd.snd)).fst.fst, (pf09_Small.spec (a0.fst, a0.snd.fst, a0.snd.snd)).fst.snd.fst, (pf09_Small.spec (a0.fst, a0.snd.fst, a0.snd.snd)).fst.snd.snd) a1.fst a1.snd).fst.snd.fst, (tf_Subnet.spec ((pf09_Small.spec (a0.fst, a0.snd.fst, a0.snd.snd)).fst.fst, (pf09_Small.spec (a0.fst, a0.snd.fst, a0.snd.snd)).fst.snd.fst, (pf09_Small.spec (a0.fst, a0.snd.fst, a0.snd.snd)).fst.snd.snd) a1.fst a1.snd).fst.snd.snd) ((pf12_Subnet.spec ((pf09_Small.spec (a0.fst, a0.snd.fst, a0.snd.snd)).fst.fst, (pf09_Small.spec (a0.fst, a0.snd.fst, a0.snd.snd)).fst.snd.fst, (pf09_Small.spec (a0.fst, a0.snd.fst, a0.snd.snd)).fst.snd.snd) a1.fst a1.snd).fst.fst, (pf12_Subnet.spec ((pf09_Small.spec (a0.fst, a0.snd.fst, a0.snd.snd)).fst.fst, (pf09_Small.spec (a0.fst, a0.snd.fst, a0.snd.snd)).fst.snd.fst, (pf09_Small.spec (a0.fst, a0.snd.fst, a0.snd.snd)).fst.snd.snd) a1.fst a1.snd).fst.snd.fst, (pf12_Subnet.spec ((pf09_Small.spec (a0.fst, a0.snd.fst, a0.snd.snd)).fst.fst, (pf09_Small.spec (a0.fst, a0.snd.fst, a0.snd.snd)).fst.snd.fst, (pf09_Small.spec (a0.fst, a0.snd.fst, a0.snd.snd)).fst.snd.snd) a1.fst a1.snd).fst.snd.snd)) (cond ((tf_Subnet.spec ((pf09_Small.spec (a0.fst, a0.snd.fst, a0.snd.snd)).fst.fst, (pf09_Small.spec (a0.fst, a0.snd.fst, a0.snd.snd)).fst.snd.fst, (pf09_Small.spec (a0.fst, a0.snd.fst, a0.snd.snd)).fst.snd.snd) a1.fst a1.snd).snd == (pf12_Subnet.spec ((pf09_Small.spec (a0.fst, a0.snd.fst, a0.snd.snd)).fst.fst, (pf09_Small.spec (a0.fst, a0.snd.fst, a0.snd.snd)).fst.snd.fst, (pf09_Small.spec (a0.fst, a0.snd.fst, a0.snd.snd)).fst.snd.snd) a1.fst a1.snd).snd) (cond (pf09_Equal.spec ((tf_Start.spec ((pf09_Small.spec (a0.fst, a0.snd.fst, a0.snd.snd)).fst.fst, (pf09_Small.spec (a0.fst, a0.snd.fst, a0.snd.snd)).fst.snd.fst, (pf09_Small.spec (a0.fst, a0.snd.fst, a0.snd.snd)).fst.snd.snd) a2).fst.fst, (tf_Start.spec ((pf09_Small.spec (a0.fst, a0.snd.fst, a0.snd.snd)).fst.fst, (pf09_Small.spec (a0.fst, a0.snd.fst, a0.snd.snd)).fst.snd.fst, (pf09_Small.spec (a0.fst, a0.snd.fst, a0.snd.snd)).fst.snd.snd) a2).fst.snd.fst, (tf_Start.spec ((pf09_Small.spec (a0.fst, a0.snd.fst, a0.snd.snd)).fst.fst, (pf09_Small.spec (a0.fst, a0.snd.fst, a0.snd.snd)).fst.snd.fst, (pf09_Small.spec (a0.fst, a0.snd.fst, a0.snd.snd)).fst.snd.snd) a2).fst.snd.snd) ((pf12_Start.spec ((pf09_Small.spec (a0.fst, a0.snd.fst, a0.snd.snd)).fst.fst, (pf09_Small.spec (a0.fst, a0.snd.fst, a0.snd.snd)).fst.snd.fst, (pf09_Small.spec (a0.fst, a0.snd.fst, a0.snd.snd)).fst.snd.snd) a2).fst.fst, (pf12_Start.spec ((pf09_Small.spec (a0.fst, a0.snd.fst, a0.snd.snd)).fst.fst, (pf09_Small.spec (a0.fst, a0.snd.fst, a0.snd.snd)).fst.snd.fst, (pf09_Small.spec (a0.fst, a0.snd.fst, a0.snd.snd)).fst.snd.snd) a2).fst.snd.fst, (pf12_Start.spec ((pf09_Small.spec (a0.fst, a0.snd.fst, a0.snd.snd)).fst.fst, (pf09_Small.spec (a0.fst, a0.snd.fst, a0.snd.snd)).fst.snd.fst, (pf09_Small.spec (a0.fst, a0.snd.fst, a0.snd.snd)).fst.snd.snd) a2).fst.snd.snd)) (cond ((tf_Start.spec ((pf09_Small.spec (a0.fst, a0.snd.fst, a0.snd.snd)).fst.fst, (pf09_Small.spec (a0.fst, a0.snd.fst, a0.snd.snd)).fst.snd.fst, (pf09_Small.spec (a0.fst, a0.snd.fst, a0.snd.snd)).fst.snd.snd) a2).snd == (pf12_Start.spec ((pf09_Small.spec (a0.fst, a0.snd.fst, a0.snd.snd)).fst.fst, (pf09_Small.spec (a0.fst, a0.snd.fst, a0.snd.snd)).fst.snd.fst, (pf09_Small.spec (a0.fst, a0.snd.fst, a0.snd.snd)).fst.snd.snd) a2).snd) (kr (pl12_lives.spec)) (kr (false))) (kr (false))) (kr (false))) (kr (false))))
theorem eq (N : Nat) (a0 : BA × List (BA × Int × Int) × List (BA × List (Int × Int) × List (Int × Int) × List (Int × Int) × Int)) (a1 : Int × Int) (a2 : List Int) : evF (C N) 50 Tryd.f5 an5 (smL (ents5 N) 0 50) [((.bool : K), false)] [⟨.st (.pr (.str) (.pr (.sl (.st (.pr (.str) (.pr (.int .i64) (.int .i64))))) (.sl (.st (.pr (.str) (.pr (.sl (.st (.pr (.int .i64) (.int .i64)))) (.pr (.sl (.st (.pr (.int .i64) (.int .i64)))) (.pr (.sl (.st (.pr (.int .i64) (.int .i64)))) (.int .i64))))))))), a0⟩, ⟨.st (.pr (.int .u64) (.int .u64)), a1⟩, ⟨.sl (.int .i64), a2⟩] = g N a0 a1 a2 (fun r0 => some [.dat (K.bool) r0]) := by kernel_rfl
theorem ctxOk (N : Nat) : CtxOk P (C N) := ctxOk_of tysOk mixedOk ⟨pf09_Small.ok, pl12_lives.ok, pf09_Equal.ok, tf_Subnet.ok, pf12_Subnet.ok, tf_Start.ok, pf12_Start.ok, trivial⟩ trivial
theorem calls (N : Nat) (a0 : BA × List (BA × Int × Int) × List (BA × List (Int × Int) × List (Int × Int) × List (Int × Int) × Int)) (a1 : Int × Int) (a2 : List Int) {rs : List Rs} (h : g N a0 a1 a2 (fun r0 => some [.dat (K.bool) r0]) = some rs) : CallsTo P 5 [⟨.st (.pr (.str) (.pr (.sl (.st (.pr (.str) (.pr (.int .i64) (.int .i64))))) (.sl (.st (.pr (.str) (.pr (.sl (.st (.pr (.int .i64) (.int .i64)))) (.pr (.sl (.st (.pr (.int .i64) (.int .i64)))) (.pr (.sl (.st (.pr (.int .i64) (.int .i64)))) (.int .i64))))))))), a0⟩, ⟨.st (.pr (.int .u64) (.int .u64)), a1⟩, ⟨.sl (.int .i64), a2⟩] rs := evF_calls' (ctxOk N) (by rfl) (ents5_ok N) ((eq N a0 a1 a2).trans h)
end pl12_TransformParts
theorem pl12_TransformParts.law {α : Type} {N : Nat} (hN : 18446744073709551616 ≤ N) (a0 : BA × (List (BA × Int × Int)) × List (BA × (List (Int × Int)) × (List (Int × Int)) × (List (Int × Int)) × Int)) (a1 : Int × Int) (a2 : List Int) (w0 : K.wf (.st (.pr (.str) (.pr (.sl (.st (.pr (.str) (.pr (.int .i64) (.int .i64))))) (.sl (.st (.pr (.str) (.pr (.sl (.st (.pr (.int .i64) (.int .i64)))) (.pr (.sl (.st (.pr (.int .i64) (.int .i64)))) (.pr (.sl (.st (.pr (.int .i64) (.int .i64)))) (.int .i64)))))))))) a0) (w1 : K.wf (.st (.pr (.int .u64) (.int .u64))) a1) (w2 : K.wf (.sl (.int .i64)) a2) (kr : (Bool → Option α)) : pl12_TransformParts.g N a0 a1 a2 kr = kr (pl12_TransformParts.spec a0 a1 a2) := by
 unfold pl12_TransformParts.g pl12_TransformParts.spec
 simp only [pf09_Small.spec, pl12_lives.spec, pf09_Equal.spec, tf_Subnet.spec, pf12_Subnet.spec, tf_Start.spec, pf12_Start.spec, tf_Reverse.spec, pf12_Reverse.spec, tf_Dual.spec, pf12_Dual.spec, tf_Union.spec, pf12_Union.spec, equalN_refl, beq_self_eq_true, cond_true, pf04_Same.spec]
 repeat' (first | rfl | (generalize smallN _ = b; cases b <;> simp only [Bool.not_true, Bool.not_false, cond_true, cond_false, condK, Bool.cond_self]))
theorem pl12_TransformParts.ok : FentOk P 5 pl12_TransformParts.fent := fentOk_of (by kernel_rfl) fun ds hk => by
 obtain ⟨a0, l0, rfl, h0⟩ := ds_cons hk
 obtain ⟨a1, l1, rfl, h1⟩ := ds_cons h0
 obtain ⟨a2, l2, rfl, h2⟩ := ds_cons h1
 obtain rfl := ds0 h2
 exact ⟨true, [.dat (.bool) (pl12_TransformParts.spec a0 a1 a2)], fun h hw => pl12_TransformParts.calls 18446744073709551616 a0 a1 a2 (pl12_TransformParts.law (Nat.le_refl _) a0 a1 a2 hw.1 hw.2.1 hw.2.2.1 _), fun α k => rfl⟩
theorem transformParts_calls (x0 : K.T (.st (.pr (.str) (.pr (.sl (.st (.pr (.str) (.pr (.int .i64) (.int .i64))))) (.sl (.st (.pr (.str) (.pr (.sl (.st (.pr (.int .i64) (.int .i64)))) (.pr (.sl (.st (.pr (.int .i64) (.int .i64)))) (.pr (.sl (.st (.pr (.int .i64) (.int .i64)))) (.int .i64))))))))))) (x1 : K.T (.st (.pr (.int .u64) (.int .u64)))) (x2 : K.T (.sl (.int .i64))) (w0 : K.wf (.st (.pr (.str) (.pr (.sl (.st (.pr (.str) (.pr (.int .i64) (.int .i64))))) (.sl (.st (.pr (.str) (.pr (.sl (.st (.pr (.int .i64) (.int .i64)))) (.pr (.sl (.st (.pr (.int .i64) (.int .i64)))) (.pr (.sl (.st (.pr (.int .i64) (.int .i64)))) (.int .i64)))))))))) x0) (w1 : K.wf (.st (.pr (.int .u64) (.int .u64))) x1) (w2 : K.wf (.sl (.int .i64)) x2) : CallsTo P 5 [⟨.st (.pr (.str) (.pr (.sl (.st (.pr (.str) (.pr (.int .i64) (.int .i64))))) (.sl (.st (.pr (.str) (.pr (.sl (.st (.pr (.int .i64) (.int .i64)))) (.pr (.sl (.st (.pr (.int .i64) (.int .i64)))) (.pr (.sl (.st (.pr (.int .i64) (.int .i64)))) (.int .i64))))))))), x0⟩, ⟨.st (.pr (.int .u64) (.int .u64)), x1⟩, ⟨.sl (.int .i64), x2⟩] [.dat .bool true] := pl12_TransformParts.calls 18446744073709551616 x0 x1 x2 (pl12_TransformParts.law (Nat.le_refl _) x0 x1 x2 w0 w1 w2 _)
end Go.VI
