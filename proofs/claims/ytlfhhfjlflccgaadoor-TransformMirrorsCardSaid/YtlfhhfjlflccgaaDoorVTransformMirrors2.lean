/- What the functions that TransformMirrors calls compute: printed out of the interpreter's normal forms (wip/vi/vigen.py) and proved. -/
import Derived.Test.YtlfhhfjlflccgaaDoorVTransformMirrors1
import Derived.Test.YtlfhhfjlflccgaaDoorProg
set_option linter.unusedVariables false
set_option linter.unusedSimpArgs false
set_option maxRecDepth 100000
set_option maxHeartbeats 4000000
noncomputable section
namespace Go.VI
open Go Go.Proofs
namespace tf_Union
def an27 : Ann := [(12, [2, 3, 4, 8, 9, 54, 55, 56], [2, 3, 4, 5, 8, 9]), (20, [4, 8, 9, 12, 76, 77, 78], [4, 5, 9])]
def an35 : Ann := [(3, [1, 2, 3, 6, 7, 16, 17, 18], [2, 3, 6, 7]), (8, [2, 6, 7, 34, 35, 36], [6, 7])]
def L0.sh : Sh := { sl := [(1, SV.a (SA.fx (Atom.fn 49 []))), (2, SV.a (SA.fx (Atom.fn 64 []))), (3, SV.a (SA.fx (Atom.box 5 0))), (6, SV.a (SA.fx (Atom.box 6 0))), (7, SV.a (SA.fx (Atom.box 7 0))), (16, SV.a (SA.d (K.str.pr ((K.int IntKind.i64).pr (K.int IntKind.i64))).st.sl)), (17, SV.a (SA.d (K.int IntKind.i64))), (18, SV.a (SA.d (K.int IntKind.i64)))], os := [(5, SO.box [SA.d K.str, SA.d (K.str.pr ((K.int IntKind.i64).pr (K.int IntKind.i64))).st.sl, SA.d (K.str.pr (((K.int IntKind.i64).pr (K.int IntKind.i64)).st.sl.pr (((K.int IntKind.i64).pr (K.int IntKind.i64)).st.sl.pr (((K.int IntKind.i64).pr (K.int IntKind.i64)).st.sl.pr (K.int IntKind.i64))))).st.sl]), (6, SO.box [SA.d K.str, SA.fx (Atom.sl 10 0 none), SA.fx (Atom.sl 11 0 none)]), (7, SO.box [SA.d K.str, SA.fx (Atom.sl 12 0 none), SA.fx (Atom.sl 13 0 none)]), (8, SO.row (K.str.pr ((K.int IntKind.i64).pr (K.int IntKind.i64))).st 0), (9, SO.row (K.str.pr (((K.int IntKind.i64).pr (K.int IntKind.i64)).st.sl.pr (((K.int IntKind.i64).pr (K.int IntKind.i64)).st.sl.pr (((K.int IntKind.i64).pr (K.int IntKind.i64)).st.sl.pr (K.int IntKind.i64))))).st 0), (10, SO.row (K.str.pr ((K.int IntKind.i64).pr (K.int IntKind.i64))).st 0), (11, SO.row (K.str.pr (((K.int IntKind.i64).pr (K.int IntKind.i64)).st.sl.pr (((K.int IntKind.i64).pr (K.int IntKind.i64)).st.sl.pr (((K.int IntKind.i64).pr (K.int IntKind.i64)).st.sl.pr (K.int IntKind.i64))))).st 0), (12, SO.row (K.str.pr ((K.int IntKind.i64).pr (K.int IntKind.i64))).st 0), (13, SO.row (K.str.pr (((K.int IntKind.i64).pr (K.int IntKind.i64)).st.sl.pr (((K.int IntKind.i64).pr (K.int IntKind.i64)).st.sl.pr (((K.int IntKind.i64).pr (K.int IntKind.i64)).st.sl.pr (K.int IntKind.i64))))).st 0), (4, SO.box [SA.d (K.int IntKind.i64), SA.d (K.int IntKind.i64)]), (3, SO.box [SA.d (K.int IntKind.i64), SA.d (K.int IntKind.i64)]), (2, SO.box [SA.d K.str, SA.fx (Atom.sl 8 0 none), SA.fx (Atom.sl 9 0 none)]), (1, SO.box [SA.d K.str, SA.d (K.str.pr ((K.int IntKind.i64).pr (K.int IntKind.i64))).st.sl, SA.d (K.str.pr (((K.int IntKind.i64).pr (K.int IntKind.i64)).st.sl.pr (((K.int IntKind.i64).pr (K.int IntKind.i64)).st.sl.pr (((K.int IntKind.i64).pr (K.int IntKind.i64)).st.sl.pr (K.int IntKind.i64))))).st.sl]), (0, SO.box [SA.d K.str, SA.d (K.str.pr ((K.int IntKind.i64).pr (K.int IntKind.i64))).st.sl, SA.d (K.str.pr (((K.int IntKind.i64).pr (K.int IntKind.i64)).st.sl.pr (((K.int IntKind.i64).pr (K.int IntKind.i64)).st.sl.pr (((K.int IntKind.i64).pr (K.int IntKind.i64)).st.sl.pr (K.int IntKind.i64))))).st.sl])], nx := 14 }
def L0.x0 : Sh := { sl := [(2, SV.a (SA.fx (Atom.fn 64 []))), (3, SV.a (SA.fx (Atom.box 5 0))), (6, SV.a (SA.fx (Atom.box 6 0))), (7, SV.a (SA.fx (Atom.box 7 0)))], os := [(5, SO.box [SA.d K.str, SA.d (K.str.pr ((K.int IntKind.i64).pr (K.int IntKind.i64))).st.sl, SA.d (K.str.pr (((K.int IntKind.i64).pr (K.int IntKind.i64)).st.sl.pr (((K.int IntKind.i64).pr (K.int IntKind.i64)).st.sl.pr (((K.int IntKind.i64).pr (K.int IntKind.i64)).st.sl.pr (K.int IntKind.i64))))).st.sl]), (6, SO.box [SA.d K.str, SA.fx (Atom.sl 10 0 none), SA.fx (Atom.sl 11 0 none)]), (7, SO.box [SA.d K.str, SA.fx (Atom.sl 12 0 none), SA.fx (Atom.sl 13 0 none)]), (8, SO.row (K.str.pr ((K.int IntKind.i64).pr (K.int IntKind.i64))).st 0), (9, SO.row (K.str.pr (((K.int IntKind.i64).pr (K.int IntKind.i64)).st.sl.pr (((K.int IntKind.i64).pr (K.int IntKind.i64)).st.sl.pr (((K.int IntKind.i64).pr (K.int IntKind.i64)).st.sl.pr (K.int IntKind.i64))))).st 0), (10, SO.row (K.str.pr ((K.int IntKind.i64).pr (K.int IntKind.i64))).st 0), (11, SO.row (K.str.pr (((K.int IntKind.i64).pr (K.int IntKind.i64)).st.sl.pr (((K.int IntKind.i64).pr (K.int IntKind.i64)).st.sl.pr (((K.int IntKind.i64).pr (K.int IntKind.i64)).st.sl.pr (K.int IntKind.i64))))).st 0), (12, SO.row (K.str.pr ((K.int IntKind.i64).pr (K.int IntKind.i64))).st 0), (13, SO.row (K.str.pr (((K.int IntKind.i64).pr (K.int IntKind.i64)).st.sl.pr (((K.int IntKind.i64).pr (K.int IntKind.i64)).st.sl.pr (((K.int IntKind.i64).pr (K.int IntKind.i64)).st.sl.pr (K.int IntKind.i64))))).st 0), (4, SO.box [SA.d (K.int IntKind.i64), SA.d (K.int IntKind.i64)]), (3, SO.box [SA.d (K.int IntKind.i64), SA.d (K.int IntKind.i64)]), (2, SO.box [SA.d K.str, SA.fx (Atom.sl 8 0 none), SA.fx (Atom.sl 9 0 none)]), (1, SO.box [SA.d K.str, SA.d (K.str.pr ((K.int IntKind.i64).pr (K.int IntKind.i64))).st.sl, SA.d (K.str.pr (((K.int IntKind.i64).pr (K.int IntKind.i64)).st.sl.pr (((K.int IntKind.i64).pr (K.int IntKind.i64)).st.sl.pr (((K.int IntKind.i64).pr (K.int IntKind.i64)).st.sl.pr (K.int IntKind.i64))))).st.sl]), (0, SO.box [SA.d K.str, SA.d (K.str.pr ((K.int IntKind.i64).pr (K.int IntKind.i64))).st.sl, SA.d (K.str.pr (((K.int IntKind.i64).pr (K.int IntKind.i64)).st.sl.pr (((K.int IntKind.i64).pr (K.int IntKind.i64)).st.sl.pr (((K.int IntKind.i64).pr (K.int IntKind.i64)).st.sl.pr (K.int IntKind.i64))))).st.sl])], nx := 14 }
def L0.st {α : Type} (N : Nat) (x0 : (List (BA × Int × Int))) (x1 : Int) (x3 : BA) (x4 : (List (BA × Int × Int))) (x5 : (List (BA × List (Int × Int) × List (Int × Int) × List (Int × Int) × Int))) (x6 : BA) (x7 : BA) (x8 : (List (BA × Int × Int))) (x9 : (List (BA × List (Int × Int) × List (Int × Int) × List (Int × Int) × Int))) (x10 : (List (BA × Int × Int))) (x11 : (List (BA × List (Int × Int) × List (Int × Int) × List (Int × Int) × Int))) (x13 : (List (BA × List (Int × Int) × List (Int × Int) × List (Int × Int) × Int))) (x14 : Int) (x15 : Int) (x16 : Int) (x17 : Int) (x18 : BA) (x19 : BA) (x20 : (List (BA × Int × Int))) (x21 : (List (BA × List (Int × Int) × List (Int × Int) × List (Int × Int) × Int))) (x22 : BA) (x23 : (List (BA × Int × Int))) (x24 : (List (BA × List (Int × Int) × List (Int × Int) × List (Int × Int) × Int))) (φ : (Int → (List (BA × Int × Int)) → Option α)) (x2 : Int) (x12 : (List (BA × Int × Int))) (k0 : ((List (BA × Int × Int)) → Option α)) : Option α :=
 cond (decide (x2 < x1)) (cond (decide (0 ≤ x2) && decide (x2 < (↑x0.length : Int))) (cond ((x12.length + 1).ble mxl) (cond ((x12.length + 1).ble mxl) (φ (IntKind.i64.wrap (x2 + 1)) (x12 ++ [((tf_samePlace.spec x2 ((x0.getD x2.toNat (eBA, 0, 0)).fst, (x0.getD x2.toNat (eBA, 0, 0)).snd.fst, (x0.getD x2.toNat (eBA, 0, 0)).snd.snd)).fst, (tf_samePlace.spec x2 ((x0.getD x2.toNat (eBA, 0, 0)).fst, (x0.getD x2.toNat (eBA, 0, 0)).snd.fst, (x0.getD x2.toNat (eBA, 0, 0)).snd.snd)).snd.fst, (tf_samePlace.spec x2 ((x0.getD x2.toNat (eBA, 0, 0)).fst, (x0.getD x2.toNat (eBA, 0, 0)).snd.fst, (x0.getD x2.toNat (eBA, 0, 0)).snd.snd)).snd.snd)])) (none)) (none)) (none)) (k0 (x12))
def L0.f {α : Type} (N : Nat) (c0 : (List (BA × Int × Int))) (c1 : Int) (c2 : BA) (c3 : (List (BA × Int × Int))) (c4 : (List (BA × List (Int × Int) × List (Int × Int) × List (Int × Int) × Int))) (c5 : BA) (c6 : BA) (c7 : (List (BA × Int × Int))) (c8 : (List (BA × List (Int × Int) × List (Int × Int) × List (Int × Int) × Int))) (c9 : (List (BA × Int × Int))) (c10 : (List (BA × List (Int × Int) × List (Int × Int) × List (Int × Int) × Int))) (c11 : (List (BA × List (Int × Int) × List (Int × Int) × List (Int × Int) × Int))) (c12 : Int) (c13 : Int) (c14 : Int) (c15 : Int) (c16 : BA) (c17 : BA) (c18 : (List (BA × Int × Int))) (c19 : (List (BA × List (Int × Int) × List (Int × Int) × List (Int × Int) × Int))) (c20 : BA) (c21 : (List (BA × Int × Int))) (c22 : (List (BA × List (Int × Int) × List (Int × Int) × List (Int × Int) × Int))) : Nat → Int → (List (BA × Int × Int)) → ((List (BA × Int × Int)) → Option α) → Option α
 | 0, _, _, _ => none
 | n + 1, d0, d1, k0 => L0.st N c0 c1 c2 c3 c4 c5 c6 c7 c8 c9 c10 c11 c12 c13 c14 c15 c16 c17 c18 c19 c20 c21 c22 (fun e0 e1 => L0.f N c0 c1 c2 c3 c4 c5 c6 c7 c8 c9 c10 c11 c12 c13 c14 c15 c16 c17 c18 c19 c20 c21 c22 n e0 e1 k0) d0 d1 k0
def L0.F {α : Type} (N : Nat) (d : L0.sh.T) (K : Cont α) : Option α := L0.f N d.1.2.2.2.2.2.1 d.1.2.2.2.2.2.2.1 d.2.1.1 d.2.1.2.1 d.2.1.2.2.1 d.2.2.1.1 d.2.2.2.1.1 d.2.2.2.2.1 d.2.2.2.2.2.1 d.2.2.2.2.2.2.1 d.2.2.2.2.2.2.2.1 d.2.2.2.2.2.2.2.2.2.1 d.2.2.2.2.2.2.2.2.2.2.1.1 d.2.2.2.2.2.2.2.2.2.2.1.2.1 d.2.2.2.2.2.2.2.2.2.2.2.1.1 d.2.2.2.2.2.2.2.2.2.2.2.1.2.1 d.2.2.2.2.2.2.2.2.2.2.2.2.1.1 d.2.2.2.2.2.2.2.2.2.2.2.2.2.1.1 d.2.2.2.2.2.2.2.2.2.2.2.2.2.1.2.1 d.2.2.2.2.2.2.2.2.2.2.2.2.2.1.2.2.1 d.2.2.2.2.2.2.2.2.2.2.2.2.2.2.1.1 d.2.2.2.2.2.2.2.2.2.2.2.2.2.2.1.2.1 d.2.2.2.2.2.2.2.2.2.2.2.2.2.2.1.2.2.1 N d.1.2.2.2.2.2.2.2.1 d.2.2.2.2.2.2.2.2.1 (fun y0 => K (Exit.exit 0) (L0.x0.enc (((), ((), ((), ((), ())))), ((d.2.1.1, (d.2.1.2.1, (d.2.1.2.2.1, ()))), ((d.2.2.1.1, ((), ((), ()))), ((d.2.2.2.1.1, ((), ((), ()))), (d.2.2.2.2.1, (d.2.2.2.2.2.1, (d.2.2.2.2.2.2.1, (d.2.2.2.2.2.2.2.1, (y0, (d.2.2.2.2.2.2.2.2.2.1, ((d.2.2.2.2.2.2.2.2.2.2.1.1, (d.2.2.2.2.2.2.2.2.2.2.1.2.1, ())), ((d.2.2.2.2.2.2.2.2.2.2.2.1.1, (d.2.2.2.2.2.2.2.2.2.2.2.1.2.1, ())), ((d.2.2.2.2.2.2.2.2.2.2.2.2.1.1, ((), ((), ()))), ((d.2.2.2.2.2.2.2.2.2.2.2.2.2.1.1, (d.2.2.2.2.2.2.2.2.2.2.2.2.2.1.2.1, (d.2.2.2.2.2.2.2.2.2.2.2.2.2.1.2.2.1, ()))), ((d.2.2.2.2.2.2.2.2.2.2.2.2.2.2.1.1, (d.2.2.2.2.2.2.2.2.2.2.2.2.2.2.1.2.1, (d.2.2.2.2.2.2.2.2.2.2.2.2.2.2.1.2.2.1, ()))), ())))))))))))))))))
def L1.sh : Sh := { sl := [(2, SV.a (SA.fx (Atom.fn 64 []))), (6, SV.a (SA.fx (Atom.box 5 0))), (7, SV.a (SA.fx (Atom.box 6 0))), (34, SV.a (SA.d (K.str.pr (((K.int IntKind.i64).pr (K.int IntKind.i64)).st.sl.pr (((K.int IntKind.i64).pr (K.int IntKind.i64)).st.sl.pr (((K.int IntKind.i64).pr (K.int IntKind.i64)).st.sl.pr (K.int IntKind.i64))))).st.sl)), (35, SV.a (SA.d (K.int IntKind.i64))), (36, SV.a (SA.d (K.int IntKind.i64)))], os := [(5, SO.box [SA.d K.str, SA.fx (Atom.sl 9 0 none), SA.fx (Atom.sl 10 0 none)]), (6, SO.box [SA.d K.str, SA.fx (Atom.sl 11 0 none), SA.fx (Atom.sl 12 0 none)]), (7, SO.row (K.str.pr ((K.int IntKind.i64).pr (K.int IntKind.i64))).st 0), (8, SO.row (K.str.pr (((K.int IntKind.i64).pr (K.int IntKind.i64)).st.sl.pr (((K.int IntKind.i64).pr (K.int IntKind.i64)).st.sl.pr (((K.int IntKind.i64).pr (K.int IntKind.i64)).st.sl.pr (K.int IntKind.i64))))).st 0), (9, SO.row (K.str.pr ((K.int IntKind.i64).pr (K.int IntKind.i64))).st 0), (10, SO.row (K.str.pr (((K.int IntKind.i64).pr (K.int IntKind.i64)).st.sl.pr (((K.int IntKind.i64).pr (K.int IntKind.i64)).st.sl.pr (((K.int IntKind.i64).pr (K.int IntKind.i64)).st.sl.pr (K.int IntKind.i64))))).st 0), (11, SO.row (K.str.pr ((K.int IntKind.i64).pr (K.int IntKind.i64))).st 0), (12, SO.row (K.str.pr (((K.int IntKind.i64).pr (K.int IntKind.i64)).st.sl.pr (((K.int IntKind.i64).pr (K.int IntKind.i64)).st.sl.pr (((K.int IntKind.i64).pr (K.int IntKind.i64)).st.sl.pr (K.int IntKind.i64))))).st 0), (4, SO.box [SA.d (K.int IntKind.i64), SA.d (K.int IntKind.i64)]), (3, SO.box [SA.d (K.int IntKind.i64), SA.d (K.int IntKind.i64)]), (2, SO.box [SA.d K.str, SA.fx (Atom.sl 7 0 none), SA.fx (Atom.sl 8 0 none)]), (1, SO.box [SA.d K.str, SA.d (K.str.pr ((K.int IntKind.i64).pr (K.int IntKind.i64))).st.sl, SA.d (K.str.pr (((K.int IntKind.i64).pr (K.int IntKind.i64)).st.sl.pr (((K.int IntKind.i64).pr (K.int IntKind.i64)).st.sl.pr (((K.int IntKind.i64).pr (K.int IntKind.i64)).st.sl.pr (K.int IntKind.i64))))).st.sl]), (0, SO.box [SA.d K.str, SA.d (K.str.pr ((K.int IntKind.i64).pr (K.int IntKind.i64))).st.sl, SA.d (K.str.pr (((K.int IntKind.i64).pr (K.int IntKind.i64)).st.sl.pr (((K.int IntKind.i64).pr (K.int IntKind.i64)).st.sl.pr (((K.int IntKind.i64).pr (K.int IntKind.i64)).st.sl.pr (K.int IntKind.i64))))).st.sl])], nx := 13 }
def L1.x0 : Sh := { sl := [(6, SV.a (SA.fx (Atom.box 5 0))), (7, SV.a (SA.fx (Atom.box 6 0)))], os := [(5, SO.box [SA.d K.str, SA.fx (Atom.sl 9 0 none), SA.fx (Atom.sl 10 0 none)]), (6, SO.box [SA.d K.str, SA.fx (Atom.sl 11 0 none), SA.fx (Atom.sl 12 0 none)]), (7, SO.row (K.str.pr ((K.int IntKind.i64).pr (K.int IntKind.i64))).st 0), (8, SO.row (K.str.pr (((K.int IntKind.i64).pr (K.int IntKind.i64)).st.sl.pr (((K.int IntKind.i64).pr (K.int IntKind.i64)).st.sl.pr (((K.int IntKind.i64).pr (K.int IntKind.i64)).st.sl.pr (K.int IntKind.i64))))).st 0), (9, SO.row (K.str.pr ((K.int IntKind.i64).pr (K.int IntKind.i64))).st 0), (10, SO.row (K.str.pr (((K.int IntKind.i64).pr (K.int IntKind.i64)).st.sl.pr (((K.int IntKind.i64).pr (K.int IntKind.i64)).st.sl.pr (((K.int IntKind.i64).pr (K.int IntKind.i64)).st.sl.pr (K.int IntKind.i64))))).st 0), (11, SO.row (K.str.pr ((K.int IntKind.i64).pr (K.int IntKind.i64))).st 0), (12, SO.row (K.str.pr (((K.int IntKind.i64).pr (K.int IntKind.i64)).st.sl.pr (((K.int IntKind.i64).pr (K.int IntKind.i64)).st.sl.pr (((K.int IntKind.i64).pr (K.int IntKind.i64)).st.sl.pr (K.int IntKind.i64))))).st 0), (4, SO.box [SA.d (K.int IntKind.i64), SA.d (K.int IntKind.i64)]), (3, SO.box [SA.d (K.int IntKind.i64), SA.d (K.int IntKind.i64)]), (2, SO.box [SA.d K.str, SA.fx (Atom.sl 7 0 none), SA.fx (Atom.sl 8 0 none)]), (1, SO.box [SA.d K.str, SA.d (K.str.pr ((K.int IntKind.i64).pr (K.int IntKind.i64))).st.sl, SA.d (K.str.pr (((K.int IntKind.i64).pr (K.int IntKind.i64)).st.sl.pr (((K.int IntKind.i64).pr (K.int IntKind.i64)).st.sl.pr (((K.int IntKind.i64).pr (K.int IntKind.i64)).st.sl.pr (K.int IntKind.i64))))).st.sl]), (0, SO.box [SA.d K.str, SA.d (K.str.pr ((K.int IntKind.i64).pr (K.int IntKind.i64))).st.sl, SA.d (K.str.pr (((K.int IntKind.i64).pr (K.int IntKind.i64)).st.sl.pr (((K.int IntKind.i64).pr (K.int IntKind.i64)).st.sl.pr (((K.int IntKind.i64).pr (K.int IntKind.i64)).st.sl.pr (K.int IntKind.i64))))).st.sl])], nx := 13 }
def L1.st {α : Type} (N : Nat) (x26 : (List (BA × List (Int × Int) × List (Int × Int) × List (Int × Int) × Int))) (x27 : Int) (x29 : BA) (x30 : BA) (x31 : (List (BA × Int × Int))) (x32 : (List (BA × List (Int × Int) × List (Int × Int) × List (Int × Int) × Int))) (x33 : (List (BA × Int × Int))) (x34 : (List (BA × List (Int × Int) × List (Int × Int) × List (Int × Int) × Int))) (x35 : (List (BA × Int × Int))) (x37 : Int) (x38 : Int) (x39 : Int) (x40 : Int) (x41 : BA) (x42 : BA) (x43 : (List (BA × Int × Int))) (x44 : (List (BA × List (Int × Int) × List (Int × Int) × List (Int × Int) × Int))) (x45 : BA) (x46 : (List (BA × Int × Int))) (x47 : (List (BA × List (Int × Int) × List (Int × Int) × List (Int × Int) × Int))) (φ : (Int → (List (BA × List (Int × Int) × List (Int × Int) × List (Int × Int) × Int)) → Option α)) (x28 : Int) (x36 : (List (BA × List (Int × Int) × List (Int × Int) × List (Int × Int) × Int))) (k0 : ((List (BA × List (Int × Int) × List (Int × Int) × List (Int × Int) × Int)) → Option α)) : Option α :=
 cond (decide (x28 < x27)) (cond (decide (0 ≤ x28) && decide (x28 < (↑x26.length : Int))) (cond (tf_clone.pre (x26.getD x28.toNat (eBA, [], [], [], 0)).snd.fst) (cond (tf_clone.pre (x26.getD x28.toNat (eBA, [], [], [], 0)).snd.snd.fst) (cond (tf_clone.pre (x26.getD x28.toNat (eBA, [], [], [], 0)).snd.snd.snd.fst) (cond (tf_clone.pre (x26.getD x28.toNat (eBA, [], [], [], 0)).snd.fst) (cond (tf_clone.pre (x26.getD x28.toNat (eBA, [], [], [], 0)).snd.snd.fst) (cond (tf_clone.pre (x26.getD x28.toNat (eBA, [], [], [], 0)).snd.snd.snd.fst) (cond ((x36.length + 1).ble mxl) (cond ((x36.length + 1).ble mxl) (φ (IntKind.i64.wrap (x28 + 1)) (x36 ++ [((tf_Union_2.spec ((x26.getD x28.toNat (eBA, [], [], [], 0)).fst, tf_clone.spec (x26.getD x28.toNat (eBA, [], [], [], 0)).snd.fst, tf_clone.spec (x26.getD x28.toNat (eBA, [], [], [], 0)).snd.snd.fst, tf_clone.spec (x26.getD x28.toNat (eBA, [], [], [], 0)).snd.snd.snd.fst, (x26.getD x28.toNat (eBA, [], [], [], 0)).snd.snd.snd.snd)).fst, (tf_Union_2.spec ((x26.getD x28.toNat (eBA, [], [], [], 0)).fst, tf_clone.spec (x26.getD x28.toNat (eBA, [], [], [], 0)).snd.fst, tf_clone.spec (x26.getD x28.toNat (eBA, [], [], [], 0)).snd.snd.fst, tf_clone.spec (x26.getD x28.toNat (eBA, [], [], [], 0)).snd.snd.snd.fst, (x26.getD x28.toNat (eBA, [], [], [], 0)).snd.snd.snd.snd)).snd.fst, (tf_Union_2.spec ((x26.getD x28.toNat (eBA, [], [], [], 0)).fst, tf_clone.spec (x26.getD x28.toNat (eBA, [], [], [], 0)).snd.fst, tf_clone.spec (x26.getD x28.toNat (eBA, [], [], [], 0)).snd.snd.fst, tf_clone.spec (x26.getD x28.toNat (eBA, [], [], [], 0)).snd.snd.snd.fst, (x26.getD x28.toNat (eBA, [], [], [], 0)).snd.snd.snd.snd)).snd.snd.fst, (tf_Union_2.spec ((x26.getD x28.toNat (eBA, [], [], [], 0)).fst, tf_clone.spec (x26.getD x28.toNat (eBA, [], [], [], 0)).snd.fst, tf_clone.spec (x26.getD x28.toNat (eBA, [], [], [], 0)).snd.snd.fst, tf_clone.spec (x26.getD x28.toNat (eBA, [], [], [], 0)).snd.snd.snd.fst, (x26.getD x28.toNat (eBA, [], [], [], 0)).snd.snd.snd.snd)).snd.snd.snd.fst, (tf_Union_2.spec ((x26.getD x28.toNat (eBA, [], [], [], 0)).fst, tf_clone.spec (x26.getD x28.toNat (eBA, [], [], [], 0)).snd.fst, tf_clone.spec (x26.getD x28.toNat (eBA, [], [], [], 0)).snd.snd.fst, tf_clone.spec (x26.getD x28.toNat (eBA, [], [], [], 0)).snd.snd.snd.fst, (x26.getD x28.toNat (eBA, [], [], [], 0)).snd.snd.snd.snd)).snd.snd.snd.snd)])) (none)) (none)) (none)) (none)) (none)) (none)) (none)) (none)) (none)) (k0 (x36))
def L1.f {α : Type} (N : Nat) (c0 : (List (BA × List (Int × Int) × List (Int × Int) × List (Int × Int) × Int))) (c1 : Int) (c2 : BA) (c3 : BA) (c4 : (List (BA × Int × Int))) (c5 : (List (BA × List (Int × Int) × List (Int × Int) × List (Int × Int) × Int))) (c6 : (List (BA × Int × Int))) (c7 : (List (BA × List (Int × Int) × List (Int × Int) × List (Int × Int) × Int))) (c8 : (List (BA × Int × Int))) (c9 : Int) (c10 : Int) (c11 : Int) (c12 : Int) (c13 : BA) (c14 : BA) (c15 : (List (BA × Int × Int))) (c16 : (List (BA × List (Int × Int) × List (Int × Int) × List (Int × Int) × Int))) (c17 : BA) (c18 : (List (BA × Int × Int))) (c19 : (List (BA × List (Int × Int) × List (Int × Int) × List (Int × Int) × Int))) : Nat → Int → (List (BA × List (Int × Int) × List (Int × Int) × List (Int × Int) × Int)) → ((List (BA × List (Int × Int) × List (Int × Int) × List (Int × Int) × Int)) → Option α) → Option α
 | 0, _, _, _ => none
 | n + 1, d0, d1, k0 => L1.st N c0 c1 c2 c3 c4 c5 c6 c7 c8 c9 c10 c11 c12 c13 c14 c15 c16 c17 c18 c19 (fun e0 e1 => L1.f N c0 c1 c2 c3 c4 c5 c6 c7 c8 c9 c10 c11 c12 c13 c14 c15 c16 c17 c18 c19 n e0 e1 k0) d0 d1 k0
def L1.F {α : Type} (N : Nat) (d : L1.sh.T) (K : Cont α) : Option α := L1.f N d.1.2.2.2.1 d.1.2.2.2.2.1 d.2.1.1 d.2.2.1.1 d.2.2.2.1 d.2.2.2.2.1 d.2.2.2.2.2.1 d.2.2.2.2.2.2.1 d.2.2.2.2.2.2.2.1 d.2.2.2.2.2.2.2.2.2.1.1 d.2.2.2.2.2.2.2.2.2.1.2.1 d.2.2.2.2.2.2.2.2.2.2.1.1 d.2.2.2.2.2.2.2.2.2.2.1.2.1 d.2.2.2.2.2.2.2.2.2.2.2.1.1 d.2.2.2.2.2.2.2.2.2.2.2.2.1.1 d.2.2.2.2.2.2.2.2.2.2.2.2.1.2.1 d.2.2.2.2.2.2.2.2.2.2.2.2.1.2.2.1 d.2.2.2.2.2.2.2.2.2.2.2.2.2.1.1 d.2.2.2.2.2.2.2.2.2.2.2.2.2.1.2.1 d.2.2.2.2.2.2.2.2.2.2.2.2.2.1.2.2.1 N d.1.2.2.2.2.2.1 d.2.2.2.2.2.2.2.2.1 (fun y0 => K (Exit.exit 2) (L1.x0.enc (((), ((), ())), ((d.2.1.1, ((), ((), ()))), ((d.2.2.1.1, ((), ((), ()))), (d.2.2.2.1, (d.2.2.2.2.1, (d.2.2.2.2.2.1, (d.2.2.2.2.2.2.1, (d.2.2.2.2.2.2.2.1, (y0, ((d.2.2.2.2.2.2.2.2.2.1.1, (d.2.2.2.2.2.2.2.2.2.1.2.1, ())), ((d.2.2.2.2.2.2.2.2.2.2.1.1, (d.2.2.2.2.2.2.2.2.2.2.1.2.1, ())), ((d.2.2.2.2.2.2.2.2.2.2.2.1.1, ((), ((), ()))), ((d.2.2.2.2.2.2.2.2.2.2.2.2.1.1, (d.2.2.2.2.2.2.2.2.2.2.2.2.1.2.1, (d.2.2.2.2.2.2.2.2.2.2.2.2.1.2.2.1, ()))), ((d.2.2.2.2.2.2.2.2.2.2.2.2.2.1.1, (d.2.2.2.2.2.2.2.2.2.2.2.2.2.1.2.1, (d.2.2.2.2.2.2.2.2.2.2.2.2.2.1.2.2.1, ()))), ()))))))))))))))))
def L2.sh : Sh := { sl := [(2, SV.a (SA.fx (Atom.box 0 0))), (3, SV.a (SA.fx (Atom.box 1 0))), (4, SV.a (SA.fx (Atom.box 2 0))), (8, SV.a (SA.fx (Atom.fn 61 [0]))), (9, SV.a (SA.fx (Atom.box 3 0))), (54, SV.a (SA.d (K.str.pr ((K.int IntKind.i64).pr (K.int IntKind.i64))).st.sl)), (55, SV.a (SA.d (K.int IntKind.i64))), (56, SV.a (SA.d (K.int IntKind.i64)))], os := [(0, SO.box [SA.d K.str, SA.d (K.str.pr ((K.int IntKind.i64).pr (K.int IntKind.i64))).st.sl, SA.d (K.str.pr (((K.int IntKind.i64).pr (K.int IntKind.i64)).st.sl.pr (((K.int IntKind.i64).pr (K.int IntKind.i64)).st.sl.pr (((K.int IntKind.i64).pr (K.int IntKind.i64)).st.sl.pr (K.int IntKind.i64))))).st.sl]), (1, SO.box [SA.d K.str, SA.d (K.str.pr ((K.int IntKind.i64).pr (K.int IntKind.i64))).st.sl, SA.d (K.str.pr (((K.int IntKind.i64).pr (K.int IntKind.i64)).st.sl.pr (((K.int IntKind.i64).pr (K.int IntKind.i64)).st.sl.pr (((K.int IntKind.i64).pr (K.int IntKind.i64)).st.sl.pr (K.int IntKind.i64))))).st.sl]), (2, SO.box [SA.d K.str, SA.fx (Atom.sl 4 0 none), SA.fx (Atom.sl 5 0 none)]), (3, SO.box [SA.d K.str, SA.fx (Atom.sl 6 0 none), SA.fx (Atom.sl 7 0 none)]), (4, SO.row (K.str.pr ((K.int IntKind.i64).pr (K.int IntKind.i64))).st 0), (5, SO.row (K.str.pr (((K.int IntKind.i64).pr (K.int IntKind.i64)).st.sl.pr (((K.int IntKind.i64).pr (K.int IntKind.i64)).st.sl.pr (((K.int IntKind.i64).pr (K.int IntKind.i64)).st.sl.pr (K.int IntKind.i64))))).st 0), (6, SO.row (K.str.pr ((K.int IntKind.i64).pr (K.int IntKind.i64))).st 0), (7, SO.row (K.str.pr (((K.int IntKind.i64).pr (K.int IntKind.i64)).st.sl.pr (((K.int IntKind.i64).pr (K.int IntKind.i64)).st.sl.pr (((K.int IntKind.i64).pr (K.int IntKind.i64)).st.sl.pr (K.int IntKind.i64))))).st 0)], nx := 8 }
def L2.x0 : Sh := { sl := [(2, SV.a (SA.fx (Atom.box 0 0))), (3, SV.a (SA.fx (Atom.box 1 0))), (4, SV.a (SA.fx (Atom.box 2 0))), (5, SV.a (SA.d (K.int IntKind.i64))), (8, SV.a (SA.fx (Atom.fn 61 [0]))), (9, SV.a (SA.fx (Atom.box 3 0)))], os := [(0, SO.box [SA.d K.str, SA.d (K.str.pr ((K.int IntKind.i64).pr (K.int IntKind.i64))).st.sl, SA.d (K.str.pr (((K.int IntKind.i64).pr (K.int IntKind.i64)).st.sl.pr (((K.int IntKind.i64).pr (K.int IntKind.i64)).st.sl.pr (((K.int IntKind.i64).pr (K.int IntKind.i64)).st.sl.pr (K.int IntKind.i64))))).st.sl]), (1, SO.box [SA.d K.str, SA.d (K.str.pr ((K.int IntKind.i64).pr (K.int IntKind.i64))).st.sl, SA.d (K.str.pr (((K.int IntKind.i64).pr (K.int IntKind.i64)).st.sl.pr (((K.int IntKind.i64).pr (K.int IntKind.i64)).st.sl.pr (((K.int IntKind.i64).pr (K.int IntKind.i64)).st.sl.pr (K.int IntKind.i64))))).st.sl]), (2, SO.box [SA.d K.str, SA.fx (Atom.sl 4 0 none), SA.fx (Atom.sl 5 0 none)]), (3, SO.box [SA.d K.str, SA.fx (Atom.sl 6 0 none), SA.fx (Atom.sl 7 0 none)]), (4, SO.row (K.str.pr ((K.int IntKind.i64).pr (K.int IntKind.i64))).st 0), (5, SO.row (K.str.pr (((K.int IntKind.i64).pr (K.int IntKind.i64)).st.sl.pr (((K.int IntKind.i64).pr (K.int IntKind.i64)).st.sl.pr (((K.int IntKind.i64).pr (K.int IntKind.i64)).st.sl.pr (K.int IntKind.i64))))).st 0), (6, SO.row (K.str.pr ((K.int IntKind.i64).pr (K.int IntKind.i64))).st 0), (7, SO.row (K.str.pr (((K.int IntKind.i64).pr (K.int IntKind.i64)).st.sl.pr (((K.int IntKind.i64).pr (K.int IntKind.i64)).st.sl.pr (((K.int IntKind.i64).pr (K.int IntKind.i64)).st.sl.pr (K.int IntKind.i64))))).st 0)], nx := 8 }
def L2.x1 : Sh := { sl := [(2, SV.a (SA.fx (Atom.box 0 0))), (3, SV.a (SA.fx (Atom.box 1 0))), (4, SV.a (SA.fx (Atom.box 2 0))), (5, SV.j), (8, SV.a (SA.fx (Atom.fn 61 [0]))), (9, SV.a (SA.fx (Atom.box 3 0)))], os := [(0, SO.box [SA.d K.str, SA.d (K.str.pr ((K.int IntKind.i64).pr (K.int IntKind.i64))).st.sl, SA.d (K.str.pr (((K.int IntKind.i64).pr (K.int IntKind.i64)).st.sl.pr (((K.int IntKind.i64).pr (K.int IntKind.i64)).st.sl.pr (((K.int IntKind.i64).pr (K.int IntKind.i64)).st.sl.pr (K.int IntKind.i64))))).st.sl]), (1, SO.box [SA.d K.str, SA.d (K.str.pr ((K.int IntKind.i64).pr (K.int IntKind.i64))).st.sl, SA.d (K.str.pr (((K.int IntKind.i64).pr (K.int IntKind.i64)).st.sl.pr (((K.int IntKind.i64).pr (K.int IntKind.i64)).st.sl.pr (((K.int IntKind.i64).pr (K.int IntKind.i64)).st.sl.pr (K.int IntKind.i64))))).st.sl]), (2, SO.box [SA.d K.str, SA.fx (Atom.sl 4 0 none), SA.fx (Atom.sl 5 0 none)]), (3, SO.box [SA.d K.str, SA.fx (Atom.sl 6 0 none), SA.fx (Atom.sl 7 0 none)]), (4, SO.row (K.str.pr ((K.int IntKind.i64).pr (K.int IntKind.i64))).st 0), (5, SO.row (K.str.pr (((K.int IntKind.i64).pr (K.int IntKind.i64)).st.sl.pr (((K.int IntKind.i64).pr (K.int IntKind.i64)).st.sl.pr (((K.int IntKind.i64).pr (K.int IntKind.i64)).st.sl.pr (K.int IntKind.i64))))).st 0), (6, SO.row (K.str.pr ((K.int IntKind.i64).pr (K.int IntKind.i64))).st 0), (7, SO.row (K.str.pr (((K.int IntKind.i64).pr (K.int IntKind.i64)).st.sl.pr (((K.int IntKind.i64).pr (K.int IntKind.i64)).st.sl.pr (((K.int IntKind.i64).pr (K.int IntKind.i64)).st.sl.pr (K.int IntKind.i64))))).st 0)], nx := 8 }
def L2.st {α : Type} (N : Nat) (x49 : (List (BA × Int × Int))) (x50 : Int) (x52 : BA) (x53 : (List (BA × Int × Int))) (x54 : (List (BA × List (Int × Int) × List (Int × Int) × List (Int × Int) × Int))) (x55 : BA) (x56 : (List (BA × Int × Int))) (x57 : (List (BA × List (Int × Int) × List (Int × Int) × List (Int × Int) × Int))) (x58 : BA) (x59 : BA) (x60 : (List (BA × Int × Int))) (x61 : (List (BA × List (Int × Int) × List (Int × Int) × List (Int × Int) × Int))) (x63 : (List (BA × List (Int × Int) × List (Int × Int) × List (Int × Int) × Int))) (φ : (Int → (List (BA × Int × Int)) → Option α)) (x51 : Int) (x62 : (List (BA × Int × Int))) (k0 : (Int → BA → (List (BA × Int × Int)) → (List (BA × List (Int × Int) × List (Int × Int) × List (Int × Int) × Int)) → (List (BA × Int × Int)) → Option α)) (k1 : ((List (BA × Int × Int)) → Option α)) : Option α :=
 cond (decide (x51 < x50)) (cond (decide (0 ≤ x51) && decide (x51 < (↑x49.length : Int))) (cond (tf_Union_1.spec (x49.getD x51.toNat (eBA, 0, 0)).fst (x52, x53, x54)) (k0 (6) ((ByteArray.mk (#[]))) ([]) ([]) (x62)) (cond ((x62.length + 1).ble mxl) (φ (IntKind.i64.wrap (x51 + 1)) (x62 ++ [((x49.getD x51.toNat (eBA, 0, 0)).fst, (x49.getD x51.toNat (eBA, 0, 0)).snd.fst, (x49.getD x51.toNat (eBA, 0, 0)).snd.snd)])) (none))) (none)) (k1 (x62))
def L2.f {α : Type} (N : Nat) (c0 : (List (BA × Int × Int))) (c1 : Int) (c2 : BA) (c3 : (List (BA × Int × Int))) (c4 : (List (BA × List (Int × Int) × List (Int × Int) × List (Int × Int) × Int))) (c5 : BA) (c6 : (List (BA × Int × Int))) (c7 : (List (BA × List (Int × Int) × List (Int × Int) × List (Int × Int) × Int))) (c8 : BA) (c9 : BA) (c10 : (List (BA × Int × Int))) (c11 : (List (BA × List (Int × Int) × List (Int × Int) × List (Int × Int) × Int))) (c12 : (List (BA × List (Int × Int) × List (Int × Int) × List (Int × Int) × Int))) : Nat → Int → (List (BA × Int × Int)) → (Int → BA → (List (BA × Int × Int)) → (List (BA × List (Int × Int) × List (Int × Int) × List (Int × Int) × Int)) → (List (BA × Int × Int)) → Option α) → ((List (BA × Int × Int)) → Option α) → Option α
 | 0, _, _, _, _ => none
 | n + 1, d0, d1, k0, k1 => L2.st N c0 c1 c2 c3 c4 c5 c6 c7 c8 c9 c10 c11 c12 (fun e0 e1 => L2.f N c0 c1 c2 c3 c4 c5 c6 c7 c8 c9 c10 c11 c12 n e0 e1 k0 k1) d0 d1 k0 k1
def L2.F {α : Type} (N : Nat) (d : L2.sh.T) (K : Cont α) : Option α := L2.f N d.1.2.2.2.2.2.1 d.1.2.2.2.2.2.2.1 d.2.1.1 d.2.1.2.1 d.2.1.2.2.1 d.2.2.1.1 d.2.2.1.2.1 d.2.2.1.2.2.1 d.2.2.2.1.1 d.2.2.2.2.1.1 d.2.2.2.2.2.1 d.2.2.2.2.2.2.1 d.2.2.2.2.2.2.2.2.1 N d.1.2.2.2.2.2.2.2.1 d.2.2.2.2.2.2.2.1 (fun y0 y1 y2 y3 y4 => K (Exit.ret) (L2.x0.enc (((), ((), ((), (y0, ((), ((), ())))))), ((d.2.1.1, (d.2.1.2.1, (d.2.1.2.2.1, ()))), ((d.2.2.1.1, (d.2.2.1.2.1, (d.2.2.1.2.2.1, ()))), ((y1, ((), ((), ()))), ((d.2.2.2.2.1.1, ((), ((), ()))), (y2, (y3, (y4, (d.2.2.2.2.2.2.2.2.1, ()))))))))))) (fun y0 => K (Exit.exit 0) (L2.x1.enc (((), ((), ((), ((), ((), ((), ())))))), ((d.2.1.1, (d.2.1.2.1, (d.2.1.2.2.1, ()))), ((d.2.2.1.1, (d.2.2.1.2.1, (d.2.2.1.2.2.1, ()))), ((d.2.2.2.1.1, ((), ((), ()))), ((d.2.2.2.2.1.1, ((), ((), ()))), (d.2.2.2.2.2.1, (d.2.2.2.2.2.2.1, (y0, (d.2.2.2.2.2.2.2.2.1, ())))))))))))
def L3.sh : Sh := { sl := [(4, SV.a (SA.fx (Atom.box 0 0))), (8, SV.a (SA.fx (Atom.fn 61 [1]))), (9, SV.a (SA.fx (Atom.box 2 0))), (12, SV.a (SA.d (K.int IntKind.i64))), (76, SV.a (SA.d (K.str.pr (((K.int IntKind.i64).pr (K.int IntKind.i64)).st.sl.pr (((K.int IntKind.i64).pr (K.int IntKind.i64)).st.sl.pr (((K.int IntKind.i64).pr (K.int IntKind.i64)).st.sl.pr (K.int IntKind.i64))))).st.sl)), (77, SV.a (SA.d (K.int IntKind.i64))), (78, SV.a (SA.d (K.int IntKind.i64)))], os := [(0, SO.box [SA.d K.str, SA.fx (Atom.sl 3 0 none), SA.fx (Atom.sl 4 0 none)]), (1, SO.box [SA.d K.str, SA.d (K.str.pr ((K.int IntKind.i64).pr (K.int IntKind.i64))).st.sl, SA.d (K.str.pr (((K.int IntKind.i64).pr (K.int IntKind.i64)).st.sl.pr (((K.int IntKind.i64).pr (K.int IntKind.i64)).st.sl.pr (((K.int IntKind.i64).pr (K.int IntKind.i64)).st.sl.pr (K.int IntKind.i64))))).st.sl]), (2, SO.box [SA.d K.str, SA.fx (Atom.sl 5 0 none), SA.fx (Atom.sl 6 0 none)]), (3, SO.row (K.str.pr ((K.int IntKind.i64).pr (K.int IntKind.i64))).st 0), (4, SO.row (K.str.pr (((K.int IntKind.i64).pr (K.int IntKind.i64)).st.sl.pr (((K.int IntKind.i64).pr (K.int IntKind.i64)).st.sl.pr (((K.int IntKind.i64).pr (K.int IntKind.i64)).st.sl.pr (K.int IntKind.i64))))).st 0), (5, SO.row (K.str.pr ((K.int IntKind.i64).pr (K.int IntKind.i64))).st 0), (6, SO.row (K.str.pr (((K.int IntKind.i64).pr (K.int IntKind.i64)).st.sl.pr (((K.int IntKind.i64).pr (K.int IntKind.i64)).st.sl.pr (((K.int IntKind.i64).pr (K.int IntKind.i64)).st.sl.pr (K.int IntKind.i64))))).st 0)], nx := 7 }
def L3.x0 : Sh := { sl := [(4, SV.a (SA.fx (Atom.box 0 0))), (5, SV.a (SA.d (K.int IntKind.i64))), (9, SV.a (SA.fx (Atom.box 1 0)))], os := [(0, SO.box [SA.d K.str, SA.fx (Atom.sl 2 0 none), SA.fx (Atom.sl 3 0 none)]), (1, SO.box [SA.d K.str, SA.fx (Atom.sl 4 0 none), SA.fx (Atom.sl 5 0 none)]), (2, SO.row (K.str.pr ((K.int IntKind.i64).pr (K.int IntKind.i64))).st 0), (3, SO.row (K.str.pr (((K.int IntKind.i64).pr (K.int IntKind.i64)).st.sl.pr (((K.int IntKind.i64).pr (K.int IntKind.i64)).st.sl.pr (((K.int IntKind.i64).pr (K.int IntKind.i64)).st.sl.pr (K.int IntKind.i64))))).st 0), (4, SO.row (K.str.pr ((K.int IntKind.i64).pr (K.int IntKind.i64))).st 0), (5, SO.row (K.str.pr (((K.int IntKind.i64).pr (K.int IntKind.i64)).st.sl.pr (((K.int IntKind.i64).pr (K.int IntKind.i64)).st.sl.pr (((K.int IntKind.i64).pr (K.int IntKind.i64)).st.sl.pr (K.int IntKind.i64))))).st 0)], nx := 6 }
def L3.x1 : Sh := { sl := [(4, SV.a (SA.fx (Atom.box 0 0))), (5, SV.j), (9, SV.a (SA.fx (Atom.box 1 0)))], os := [(0, SO.box [SA.d K.str, SA.fx (Atom.sl 2 0 none), SA.fx (Atom.sl 3 0 none)]), (1, SO.box [SA.d K.str, SA.fx (Atom.sl 4 0 none), SA.fx (Atom.sl 5 0 none)]), (2, SO.row (K.str.pr ((K.int IntKind.i64).pr (K.int IntKind.i64))).st 0), (3, SO.row (K.str.pr (((K.int IntKind.i64).pr (K.int IntKind.i64)).st.sl.pr (((K.int IntKind.i64).pr (K.int IntKind.i64)).st.sl.pr (((K.int IntKind.i64).pr (K.int IntKind.i64)).st.sl.pr (K.int IntKind.i64))))).st 0), (4, SO.row (K.str.pr ((K.int IntKind.i64).pr (K.int IntKind.i64))).st 0), (5, SO.row (K.str.pr (((K.int IntKind.i64).pr (K.int IntKind.i64)).st.sl.pr (((K.int IntKind.i64).pr (K.int IntKind.i64)).st.sl.pr (((K.int IntKind.i64).pr (K.int IntKind.i64)).st.sl.pr (K.int IntKind.i64))))).st 0)], nx := 6 }
def L3.st {α : Type} (N : Nat) (x70 : Int) (x71 : (List (BA × List (Int × Int) × List (Int × Int) × List (Int × Int) × Int))) (x72 : Int) (x74 : BA) (x75 : BA) (x76 : (List (BA × Int × Int))) (x77 : (List (BA × List (Int × Int) × List (Int × Int) × List (Int × Int) × Int))) (x78 : BA) (x79 : (List (BA × Int × Int))) (x80 : (List (BA × List (Int × Int) × List (Int × Int) × List (Int × Int) × Int))) (x81 : (List (BA × Int × Int))) (φ : (Int → (List (BA × List (Int × Int) × List (Int × Int) × List (Int × Int) × Int)) → Option α)) (x73 : Int) (x82 : (List (BA × List (Int × Int) × List (Int × Int) × List (Int × Int) × Int))) (k0 : (Int → BA → (List (BA × Int × Int)) → (List (BA × List (Int × Int) × List (Int × Int) × List (Int × Int) × Int)) → (List (BA × List (Int × Int) × List (Int × Int) × List (Int × Int) × Int)) → Option α)) (k1 : ((List (BA × List (Int × Int) × List (Int × Int) × List (Int × Int) × Int)) → Option α)) : Option α :=
 cond (decide (x73 < x72)) (cond (decide (0 ≤ x73) && decide (x73 < (↑x71.length : Int))) (cond (tf_Union_1.spec (x71.getD x73.toNat (eBA, [], [], [], 0)).fst (x75, x76, x77)) (k0 (6) ((ByteArray.mk (#[]))) ([]) ([]) (x82)) (cond (tf_shift.pre (x71.getD x73.toNat (eBA, [], [], [], 0)).snd.fst x70) (cond (tf_shift.pre (x71.getD x73.toNat (eBA, [], [], [], 0)).snd.snd.fst x70) (cond (tf_shift.pre (x71.getD x73.toNat (eBA, [], [], [], 0)).snd.snd.snd.fst x70) (cond (tf_shift.pre (x71.getD x73.toNat (eBA, [], [], [], 0)).snd.fst x70) (cond (tf_shift.pre (x71.getD x73.toNat (eBA, [], [], [], 0)).snd.snd.fst x70) (cond (tf_shift.pre (x71.getD x73.toNat (eBA, [], [], [], 0)).snd.snd.snd.fst x70) (cond ((x82.length + 1).ble mxl) (φ (IntKind.i64.wrap (x73 + 1)) (x82 ++ [((x71.getD x73.toNat (eBA, [], [], [], 0)).fst, tf_shift.spec (x71.getD x73.toNat (eBA, [], [], [], 0)).snd.fst x70, tf_shift.spec (x71.getD x73.toNat (eBA, [], [], [], 0)).snd.snd.fst x70, tf_shift.spec (x71.getD x73.toNat (eBA, [], [], [], 0)).snd.snd.snd.fst x70, (x71.getD x73.toNat (eBA, [], [], [], 0)).snd.snd.snd.snd)])) (none)) (none)) (none)) (none)) (none)) (none)) (none))) (none)) (k1 (x82))
def L3.f {α : Type} (N : Nat) (c0 : Int) (c1 : (List (BA × List (Int × Int) × List (Int × Int) × List (Int × Int) × Int))) (c2 : Int) (c3 : BA) (c4 : BA) (c5 : (List (BA × Int × Int))) (c6 : (List (BA × List (Int × Int) × List (Int × Int) × List (Int × Int) × Int))) (c7 : BA) (c8 : (List (BA × Int × Int))) (c9 : (List (BA × List (Int × Int) × List (Int × Int) × List (Int × Int) × Int))) (c10 : (List (BA × Int × Int))) : Nat → Int → (List (BA × List (Int × Int) × List (Int × Int) × List (Int × Int) × Int)) → (Int → BA → (List (BA × Int × Int)) → (List (BA × List (Int × Int) × List (Int × Int) × List (Int × Int) × Int)) → (List (BA × List (Int × Int) × List (Int × Int) × List (Int × Int) × Int)) → Option α) → ((List (BA × List (Int × Int) × List (Int × Int) × List (Int × Int) × Int)) → Option α) → Option α
 | 0, _, _, _, _ => none
 | n + 1, d0, d1, k0, k1 => L3.st N c0 c1 c2 c3 c4 c5 c6 c7 c8 c9 c10 (fun e0 e1 => L3.f N c0 c1 c2 c3 c4 c5 c6 c7 c8 c9 c10 n e0 e1 k0 k1) d0 d1 k0 k1
def L3.F {α : Type} (N : Nat) (d : L3.sh.T) (K : Cont α) : Option α := L3.f N d.1.2.2.2.1 d.1.2.2.2.2.1 d.1.2.2.2.2.2.1 d.2.1.1 d.2.2.1.1 d.2.2.1.2.1 d.2.2.1.2.2.1 d.2.2.2.1.1 d.2.2.2.2.1 d.2.2.2.2.2.1 d.2.2.2.2.2.2.1 N d.1.2.2.2.2.2.2.1 d.2.2.2.2.2.2.2.1 (fun y0 y1 y2 y3 y4 => K (Exit.ret) (L3.x0.enc (((), (y0, ((), ()))), ((y1, ((), ((), ()))), ((d.2.2.2.1.1, ((), ((), ()))), (y2, (y3, (d.2.2.2.2.2.2.1, (y4, ()))))))))) (fun y0 => K (Exit.exit 2) (L3.x1.enc (((), ((), ((), ()))), ((d.2.1.1, ((), ((), ()))), ((d.2.2.2.1.1, ((), ((), ()))), (d.2.2.2.2.1, (d.2.2.2.2.2.1, (d.2.2.2.2.2.2.1, (y0, ())))))))))
def ents27 {α : Type} (N : Nat) : List (SmE α) := [⟨0, 50, 12, [⟨L2.sh, L2.F N⟩]⟩, ⟨0, 50, 20, [⟨L3.sh, L3.F N⟩]⟩]
def ents35 {α : Type} (N : Nat) : List (SmE α) := [⟨5, 49, 3, [⟨L0.sh, L0.F N⟩]⟩, ⟨5, 49, 8, [⟨L1.sh, L1.F N⟩]⟩]
def C (N : Nat) : Ctx := ⟨tys, [(49, tf_samePlace.fent), (53, net_Check.fent), (65, tf_shift.fent), (61, tf_Union_1.fent), (64, tf_Union_2.fent), (72, tf_clone.fent)], [(35, ⟨Tryd.f35, an35, fun α lo d r => smL (ents35 N) lo d r⟩)], N⟩
def L0.B {α : Type} (N : Nat) : Env → Cont α → Option α := evC tys 62 5 (evCall (C N) 49) (evCallQ (C N)) N an35 (smL (ents35 N) 5 49) (loopOf 3 Tryd.f35)
theorem L0.r {α : Type} (N : Nat) (c0 : (List (BA × Int × Int))) (c1 : Int) (c2 : BA) (c3 : (List (BA × Int × Int))) (c4 : (List (BA × List (Int × Int) × List (Int × Int) × List (Int × Int) × Int))) (c5 : BA) (c6 : BA) (c7 : (List (BA × Int × Int))) (c8 : (List (BA × List (Int × Int) × List (Int × Int) × List (Int × Int) × Int))) (c9 : (List (BA × Int × Int))) (c10 : (List (BA × List (Int × Int) × List (Int × Int) × List (Int × Int) × Int))) (c11 : (List (BA × List (Int × Int) × List (Int × Int) × List (Int × Int) × Int))) (c12 : Int) (c13 : Int) (c14 : Int) (c15 : Int) (c16 : BA) (c17 : BA) (c18 : (List (BA × Int × Int))) (c19 : (List (BA × List (Int × Int) × List (Int × Int) × List (Int × Int) × Int))) (c20 : BA) (c21 : (List (BA × Int × Int))) (c22 : (List (BA × List (Int × Int) × List (Int × Int) × List (Int × Int) × Int))) (φ : Env → Option α) (K : Cont α) (d0 : Int) (d1 : (List (BA × Int × Int))) : L0.B N (L0.sh.enc (((), ((), ((), ((), ((), (c0, (c1, (d0, ())))))))), ((c2, (c3, (c4, ()))), ((c5, ((), ((), ()))), ((c6, ((), ((), ()))), (c7, (c8, (c9, (c10, (d1, (c11, ((c12, (c13, ())), ((c14, (c15, ())), ((c16, ((), ((), ()))), ((c17, (c18, (c19, ()))), ((c20, (c21, (c22, ()))), ())))))))))))))))) (contL φ K (Env.norm 5 [1, 2, 3, 6, 7, 16, 17, 18]) (Env.norm 5 [2, 3, 6, 7])) = L0.st N c0 c1 c2 c3 c4 c5 c6 c7 c8 c9 c10 c11 c12 c13 c14 c15 c16 c17 c18 c19 c20 c21 c22 (fun e0 e1 => φ (L0.sh.enc (((), ((), ((), ((), ((), (c0, (c1, (e0, ())))))))), ((c2, (c3, (c4, ()))), ((c5, ((), ((), ()))), ((c6, ((), ((), ()))), (c7, (c8, (c9, (c10, (e1, (c11, ((c12, (c13, ())), ((c14, (c15, ())), ((c16, ((), ((), ()))), ((c17, (c18, (c19, ()))), ((c20, (c21, (c22, ()))), ()))))))))))))))))) d0 d1 (fun y0 => K (Exit.exit 0) (L0.x0.enc (((), ((), ((), ((), ())))), ((c2, (c3, (c4, ()))), ((c5, ((), ((), ()))), ((c6, ((), ((), ()))), (c7, (c8, (c9, (c10, (y0, (c11, ((c12, (c13, ())), ((c14, (c15, ())), ((c16, ((), ((), ()))), ((c17, (c18, (c19, ()))), ((c20, (c21, (c22, ()))), ()))))))))))))))))) := by kernel_rfl
theorem L0.e {α : Type} (N : Nat) (c0 : (List (BA × Int × Int))) (c1 : Int) (c2 : BA) (c3 : (List (BA × Int × Int))) (c4 : (List (BA × List (Int × Int) × List (Int × Int) × List (Int × Int) × Int))) (c5 : BA) (c6 : BA) (c7 : (List (BA × Int × Int))) (c8 : (List (BA × List (Int × Int) × List (Int × Int) × List (Int × Int) × Int))) (c9 : (List (BA × Int × Int))) (c10 : (List (BA × List (Int × Int) × List (Int × Int) × List (Int × Int) × Int))) (c11 : (List (BA × List (Int × Int) × List (Int × Int) × List (Int × Int) × Int))) (c12 : Int) (c13 : Int) (c14 : Int) (c15 : Int) (c16 : BA) (c17 : BA) (c18 : (List (BA × Int × Int))) (c19 : (List (BA × List (Int × Int) × List (Int × Int) × List (Int × Int) × Int))) (c20 : BA) (c21 : (List (BA × Int × Int))) (c22 : (List (BA × List (Int × Int) × List (Int × Int) × List (Int × Int) × Int))) : ∀ (n : Nat) (d0 : Int) (d1 : (List (BA × Int × Int))) (K : Cont α), evL (L0.B N) (Env.norm 5 [1, 2, 3, 6, 7, 16, 17, 18]) (Env.norm 5 [2, 3, 6, 7]) n (L0.sh.enc (((), ((), ((), ((), ((), (c0, (c1, (d0, ())))))))), ((c2, (c3, (c4, ()))), ((c5, ((), ((), ()))), ((c6, ((), ((), ()))), (c7, (c8, (c9, (c10, (d1, (c11, ((c12, (c13, ())), ((c14, (c15, ())), ((c16, ((), ((), ()))), ((c17, (c18, (c19, ()))), ((c20, (c21, (c22, ()))), ())))))))))))))))) K = L0.f N c0 c1 c2 c3 c4 c5 c6 c7 c8 c9 c10 c11 c12 c13 c14 c15 c16 c17 c18 c19 c20 c21 c22 n d0 d1 (fun y0 => K (Exit.exit 0) (L0.x0.enc (((), ((), ((), ((), ())))), ((c2, (c3, (c4, ()))), ((c5, ((), ((), ()))), ((c6, ((), ((), ()))), (c7, (c8, (c9, (c10, (y0, (c11, ((c12, (c13, ())), ((c14, (c15, ())), ((c16, ((), ((), ()))), ((c17, (c18, (c19, ()))), ((c20, (c21, (c22, ()))), ())))))))))))))))))
 | 0, d0, d1, K => rfl
 | n + 1, d0, d1, K => evL_contL.trans ((L0.r N c0 c1 c2 c3 c4 c5 c6 c7 c8 c9 c10 c11 c12 c13 c14 c15 c16 c17 c18 c19 c20 c21 c22 (fun e => evL (L0.B N) (Env.norm 5 [1, 2, 3, 6, 7, 16, 17, 18]) (Env.norm 5 [2, 3, 6, 7]) n e K) K d0 d1).trans (congrArg (fun φ => L0.st N c0 c1 c2 c3 c4 c5 c6 c7 c8 c9 c10 c11 c12 c13 c14 c15 c16 c17 c18 c19 c20 c21 c22 φ d0 d1 (fun y0 => K (Exit.exit 0) (L0.x0.enc (((), ((), ((), ((), ())))), ((c2, (c3, (c4, ()))), ((c5, ((), ((), ()))), ((c6, ((), ((), ()))), (c7, (c8, (c9, (c10, (y0, (c11, ((c12, (c13, ())), ((c14, (c15, ())), ((c16, ((), ((), ()))), ((c17, (c18, (c19, ()))), ((c20, (c21, (c22, ()))), ())))))))))))))))))) (funext fun e0 => funext fun e1 => L0.e N c0 c1 c2 c3 c4 c5 c6 c7 c8 c9 c10 c11 c12 c13 c14 c15 c16 c17 c18 c19 c20 c21 c22 n e0 e1 K)))
def L1.B {α : Type} (N : Nat) : Env → Cont α → Option α := evC tys 62 5 (evCall (C N) 49) (evCallQ (C N)) N an35 (smL (ents35 N) 5 49) (loopOf 8 Tryd.f35)
theorem L1.r {α : Type} (N : Nat) (c0 : (List (BA × List (Int × Int) × List (Int × Int) × List (Int × Int) × Int))) (c1 : Int) (c2 : BA) (c3 : BA) (c4 : (List (BA × Int × Int))) (c5 : (List (BA × List (Int × Int) × List (Int × Int) × List (Int × Int) × Int))) (c6 : (List (BA × Int × Int))) (c7 : (List (BA × List (Int × Int) × List (Int × Int) × List (Int × Int) × Int))) (c8 : (List (BA × Int × Int))) (c9 : Int) (c10 : Int) (c11 : Int) (c12 : Int) (c13 : BA) (c14 : BA) (c15 : (List (BA × Int × Int))) (c16 : (List (BA × List (Int × Int) × List (Int × Int) × List (Int × Int) × Int))) (c17 : BA) (c18 : (List (BA × Int × Int))) (c19 : (List (BA × List (Int × Int) × List (Int × Int) × List (Int × Int) × Int))) (φ : Env → Option α) (K : Cont α) (d0 : Int) (d1 : (List (BA × List (Int × Int) × List (Int × Int) × List (Int × Int) × Int))) : L1.B N (L1.sh.enc (((), ((), ((), (c0, (c1, (d0, ())))))), ((c2, ((), ((), ()))), ((c3, ((), ((), ()))), (c4, (c5, (c6, (c7, (c8, (d1, ((c9, (c10, ())), ((c11, (c12, ())), ((c13, ((), ((), ()))), ((c14, (c15, (c16, ()))), ((c17, (c18, (c19, ()))), ()))))))))))))))) (contL φ K (Env.norm 5 [2, 6, 7, 34, 35, 36]) (Env.norm 5 [6, 7])) = L1.st N c0 c1 c2 c3 c4 c5 c6 c7 c8 c9 c10 c11 c12 c13 c14 c15 c16 c17 c18 c19 (fun e0 e1 => φ (L1.sh.enc (((), ((), ((), (c0, (c1, (e0, ())))))), ((c2, ((), ((), ()))), ((c3, ((), ((), ()))), (c4, (c5, (c6, (c7, (c8, (e1, ((c9, (c10, ())), ((c11, (c12, ())), ((c13, ((), ((), ()))), ((c14, (c15, (c16, ()))), ((c17, (c18, (c19, ()))), ())))))))))))))))) d0 d1 (fun y0 => K (Exit.exit 2) (L1.x0.enc (((), ((), ())), ((c2, ((), ((), ()))), ((c3, ((), ((), ()))), (c4, (c5, (c6, (c7, (c8, (y0, ((c9, (c10, ())), ((c11, (c12, ())), ((c13, ((), ((), ()))), ((c14, (c15, (c16, ()))), ((c17, (c18, (c19, ()))), ())))))))))))))))) := by kernel_rfl
theorem L1.e {α : Type} (N : Nat) (c0 : (List (BA × List (Int × Int) × List (Int × Int) × List (Int × Int) × Int))) (c1 : Int) (c2 : BA) (c3 : BA) (c4 : (List (BA × Int × Int))) (c5 : (List (BA × List (Int × Int) × List (Int × Int) × List (Int × Int) × Int))) (c6 : (List (BA × Int × Int))) (c7 : (List (BA × List (Int × Int) × List (Int × Int) × List (Int × Int) × Int))) (c8 : (List (BA × Int × Int))) (c9 : Int) (c10 : Int) (c11 : Int) (c12 : Int) (c13 : BA) (c14 : BA) (c15 : (List (BA × Int × Int))) (c16 : (List (BA × List (Int × Int) × List (Int × Int) × List (Int × Int) × Int))) (c17 : BA) (c18 : (List (BA × Int × Int))) (c19 : (List (BA × List (Int × Int) × List (Int × Int) × List (Int × Int) × Int))) : ∀ (n : Nat) (d0 : Int) (d1 : (List (BA × List (Int × Int) × List (Int × Int) × List (Int × Int) × Int))) (K : Cont α), evL (L1.B N) (Env.norm 5 [2, 6, 7, 34, 35, 36]) (Env.norm 5 [6, 7]) n (L1.sh.enc (((), ((), ((), (c0, (c1, (d0, ())))))), ((c2, ((), ((), ()))), ((c3, ((), ((), ()))), (c4, (c5, (c6, (c7, (c8, (d1, ((c9, (c10, ())), ((c11, (c12, ())), ((c13, ((), ((), ()))), ((c14, (c15, (c16, ()))), ((c17, (c18, (c19, ()))), ()))))))))))))))) K = L1.f N c0 c1 c2 c3 c4 c5 c6 c7 c8 c9 c10 c11 c12 c13 c14 c15 c16 c17 c18 c19 n d0 d1 (fun y0 => K (Exit.exit 2) (L1.x0.enc (((), ((), ())), ((c2, ((), ((), ()))), ((c3, ((), ((), ()))), (c4, (c5, (c6, (c7, (c8, (y0, ((c9, (c10, ())), ((c11, (c12, ())), ((c13, ((), ((), ()))), ((c14, (c15, (c16, ()))), ((c17, (c18, (c19, ()))), ()))))))))))))))))
 | 0, d0, d1, K => rfl
 | n + 1, d0, d1, K => evL_contL.trans ((L1.r N c0 c1 c2 c3 c4 c5 c6 c7 c8 c9 c10 c11 c12 c13 c14 c15 c16 c17 c18 c19 (fun e => evL (L1.B N) (Env.norm 5 [2, 6, 7, 34, 35, 36]) (Env.norm 5 [6, 7]) n e K) K d0 d1).trans (congrArg (fun φ => L1.st N c0 c1 c2 c3 c4 c5 c6 c7 c8 c9 c10 c11 c12 c13 c14 c15 c16 c17 c18 c19 φ d0 d1 (fun y0 => K (Exit.exit 2) (L1.x0.enc (((), ((), ())), ((c2, ((), ((), ()))), ((c3, ((), ((), ()))), (c4, (c5, (c6, (c7, (c8, (y0, ((c9, (c10, ())), ((c11, (c12, ())), ((c13, ((), ((), ()))), ((c14, (c15, (c16, ()))), ((c17, (c18, (c19, ()))), ()))))))))))))))))) (funext fun e0 => funext fun e1 => L1.e N c0 c1 c2 c3 c4 c5 c6 c7 c8 c9 c10 c11 c12 c13 c14 c15 c16 c17 c18 c19 n e0 e1 K)))
def L2.B {α : Type} (N : Nat) : Env → Cont α → Option α := evC tys 110 0 (evCall (C N) 50) (evCallQ (C N)) N an27 (smL (ents27 N) 0 50) (loopOf 12 Tryd.f27)
theorem L2.r {α : Type} (N : Nat) (c0 : (List (BA × Int × Int))) (c1 : Int) (c2 : BA) (c3 : (List (BA × Int × Int))) (c4 : (List (BA × List (Int × Int) × List (Int × Int) × List (Int × Int) × Int))) (c5 : BA) (c6 : (List (BA × Int × Int))) (c7 : (List (BA × List (Int × Int) × List (Int × Int) × List (Int × Int) × Int))) (c8 : BA) (c9 : BA) (c10 : (List (BA × Int × Int))) (c11 : (List (BA × List (Int × Int) × List (Int × Int) × List (Int × Int) × Int))) (c12 : (List (BA × List (Int × Int) × List (Int × Int) × List (Int × Int) × Int))) (φ : Env → Option α) (K : Cont α) (d0 : Int) (d1 : (List (BA × Int × Int))) : L2.B N (L2.sh.enc (((), ((), ((), ((), ((), (c0, (c1, (d0, ())))))))), ((c2, (c3, (c4, ()))), ((c5, (c6, (c7, ()))), ((c8, ((), ((), ()))), ((c9, ((), ((), ()))), (c10, (c11, (d1, (c12, ())))))))))) (contL φ K (Env.norm 0 [2, 3, 4, 8, 9, 54, 55, 56]) (Env.norm 0 [2, 3, 4, 5, 8, 9])) = L2.st N c0 c1 c2 c3 c4 c5 c6 c7 c8 c9 c10 c11 c12 (fun e0 e1 => φ (L2.sh.enc (((), ((), ((), ((), ((), (c0, (c1, (e0, ())))))))), ((c2, (c3, (c4, ()))), ((c5, (c6, (c7, ()))), ((c8, ((), ((), ()))), ((c9, ((), ((), ()))), (c10, (c11, (e1, (c12, ()))))))))))) d0 d1 (fun y0 y1 y2 y3 y4 => K (Exit.ret) (L2.x0.enc (((), ((), ((), (y0, ((), ((), ())))))), ((c2, (c3, (c4, ()))), ((c5, (c6, (c7, ()))), ((y1, ((), ((), ()))), ((c9, ((), ((), ()))), (y2, (y3, (y4, (c12, ()))))))))))) (fun y0 => K (Exit.exit 0) (L2.x1.enc (((), ((), ((), ((), ((), ((), ())))))), ((c2, (c3, (c4, ()))), ((c5, (c6, (c7, ()))), ((c8, ((), ((), ()))), ((c9, ((), ((), ()))), (c10, (c11, (y0, (c12, ()))))))))))) := by kernel_rfl
theorem L2.e {α : Type} (N : Nat) (c0 : (List (BA × Int × Int))) (c1 : Int) (c2 : BA) (c3 : (List (BA × Int × Int))) (c4 : (List (BA × List (Int × Int) × List (Int × Int) × List (Int × Int) × Int))) (c5 : BA) (c6 : (List (BA × Int × Int))) (c7 : (List (BA × List (Int × Int) × List (Int × Int) × List (Int × Int) × Int))) (c8 : BA) (c9 : BA) (c10 : (List (BA × Int × Int))) (c11 : (List (BA × List (Int × Int) × List (Int × Int) × List (Int × Int) × Int))) (c12 : (List (BA × List (Int × Int) × List (Int × Int) × List (Int × Int) × Int))) : ∀ (n : Nat) (d0 : Int) (d1 : (List (BA × Int × Int))) (K : Cont α), evL (L2.B N) (Env.norm 0 [2, 3, 4, 8, 9, 54, 55, 56]) (Env.norm 0 [2, 3, 4, 5, 8, 9]) n (L2.sh.enc (((), ((), ((), ((), ((), (c0, (c1, (d0, ())))))))), ((c2, (c3, (c4, ()))), ((c5, (c6, (c7, ()))), ((c8, ((), ((), ()))), ((c9, ((), ((), ()))), (c10, (c11, (d1, (c12, ())))))))))) K = L2.f N c0 c1 c2 c3 c4 c5 c6 c7 c8 c9 c10 c11 c12 n d0 d1 (fun y0 y1 y2 y3 y4 => K (Exit.ret) (L2.x0.enc (((), ((), ((), (y0, ((), ((), ())))))), ((c2, (c3, (c4, ()))), ((c5, (c6, (c7, ()))), ((y1, ((), ((), ()))), ((c9, ((), ((), ()))), (y2, (y3, (y4, (c12, ()))))))))))) (fun y0 => K (Exit.exit 0) (L2.x1.enc (((), ((), ((), ((), ((), ((), ())))))), ((c2, (c3, (c4, ()))), ((c5, (c6, (c7, ()))), ((c8, ((), ((), ()))), ((c9, ((), ((), ()))), (c10, (c11, (y0, (c12, ())))))))))))
 | 0, d0, d1, K => rfl
 | n + 1, d0, d1, K => evL_contL.trans ((L2.r N c0 c1 c2 c3 c4 c5 c6 c7 c8 c9 c10 c11 c12 (fun e => evL (L2.B N) (Env.norm 0 [2, 3, 4, 8, 9, 54, 55, 56]) (Env.norm 0 [2, 3, 4, 5, 8, 9]) n e K) K d0 d1).trans (congrArg (fun φ => L2.st N c0 c1 c2 c3 c4 c5 c6 c7 c8 c9 c10 c11 c12 φ d0 d1 (fun y0 y1 y2 y3 y4 => K (Exit.ret) (L2.x0.enc (((), ((), ((), (y0, ((), ((), ())))))), ((c2, (c3, (c4, ()))), ((c5, (c6, (c7, ()))), ((y1, ((), ((), ()))), ((c9, ((), ((), ()))), (y2, (y3, (y4, (c12, ()))))))))))) (fun y0 => K (Exit.exit 0) (L2.x1.enc (((), ((), ((), ((), ((), ((), ())))))), ((c2, (c3, (c4, ()))), ((c5, (c6, (c7, ()))), ((c8, ((), ((), ()))), ((c9, ((), ((), ()))), (c10, (c11, (y0, (c12, ())))))))))))) (funext fun e0 => funext fun e1 => L2.e N c0 c1 c2 c3 c4 c5 c6 c7 c8 c9 c10 c11 c12 n e0 e1 K)))
def L3.B {α : Type} (N : Nat) : Env → Cont α → Option α := evC tys 110 0 (evCall (C N) 50) (evCallQ (C N)) N an27 (smL (ents27 N) 0 50) (loopOf 20 Tryd.f27)
theorem L3.r {α : Type} (N : Nat) (c0 : Int) (c1 : (List (BA × List (Int × Int) × List (Int × Int) × List (Int × Int) × Int))) (c2 : Int) (c3 : BA) (c4 : BA) (c5 : (List (BA × Int × Int))) (c6 : (List (BA × List (Int × Int) × List (Int × Int) × List (Int × Int) × Int))) (c7 : BA) (c8 : (List (BA × Int × Int))) (c9 : (List (BA × List (Int × Int) × List (Int × Int) × List (Int × Int) × Int))) (c10 : (List (BA × Int × Int))) (φ : Env → Option α) (K : Cont α) (d0 : Int) (d1 : (List (BA × List (Int × Int) × List (Int × Int) × List (Int × Int) × Int))) : L3.B N (L3.sh.enc (((), ((), ((), (c0, (c1, (c2, (d0, ()))))))), ((c3, ((), ((), ()))), ((c4, (c5, (c6, ()))), ((c7, ((), ((), ()))), (c8, (c9, (c10, (d1, ()))))))))) (contL φ K (Env.norm 0 [4, 8, 9, 12, 76, 77, 78]) (Env.norm 0 [4, 5, 9])) = L3.st N c0 c1 c2 c3 c4 c5 c6 c7 c8 c9 c10 (fun e0 e1 => φ (L3.sh.enc (((), ((), ((), (c0, (c1, (c2, (e0, ()))))))), ((c3, ((), ((), ()))), ((c4, (c5, (c6, ()))), ((c7, ((), ((), ()))), (c8, (c9, (c10, (e1, ())))))))))) d0 d1 (fun y0 y1 y2 y3 y4 => K (Exit.ret) (L3.x0.enc (((), (y0, ((), ()))), ((y1, ((), ((), ()))), ((c7, ((), ((), ()))), (y2, (y3, (c10, (y4, ()))))))))) (fun y0 => K (Exit.exit 2) (L3.x1.enc (((), ((), ((), ()))), ((c3, ((), ((), ()))), ((c7, ((), ((), ()))), (c8, (c9, (c10, (y0, ()))))))))) := by kernel_rfl
theorem L3.e {α : Type} (N : Nat) (c0 : Int) (c1 : (List (BA × List (Int × Int) × List (Int × Int) × List (Int × Int) × Int))) (c2 : Int) (c3 : BA) (c4 : BA) (c5 : (List (BA × Int × Int))) (c6 : (List (BA × List (Int × Int) × List (Int × Int) × List (Int × Int) × Int))) (c7 : BA) (c8 : (List (BA × Int × Int))) (c9 : (List (BA × List (Int × Int) × List (Int × Int) × List (Int × Int) × Int))) (c10 : (List (BA × Int × Int))) : ∀ (n : Nat) (d0 : Int) (d1 : (List (BA × List (Int × Int) × List (Int × Int) × List (Int × Int) × Int))) (K : Cont α), evL (L3.B N) (Env.norm 0 [4, 8, 9, 12, 76, 77, 78]) (Env.norm 0 [4, 5, 9]) n (L3.sh.enc (((), ((), ((), (c0, (c1, (c2, (d0, ()))))))), ((c3, ((), ((), ()))), ((c4, (c5, (c6, ()))), ((c7, ((), ((), ()))), (c8, (c9, (c10, (d1, ()))))))))) K = L3.f N c0 c1 c2 c3 c4 c5 c6 c7 c8 c9 c10 n d0 d1 (fun y0 y1 y2 y3 y4 => K (Exit.ret) (L3.x0.enc (((), (y0, ((), ()))), ((y1, ((), ((), ()))), ((c7, ((), ((), ()))), (y2, (y3, (c10, (y4, ()))))))))) (fun y0 => K (Exit.exit 2) (L3.x1.enc (((), ((), ((), ()))), ((c3, ((), ((), ()))), ((c7, ((), ((), ()))), (c8, (c9, (c10, (y0, ())))))))))
 | 0, d0, d1, K => rfl
 | n + 1, d0, d1, K => evL_contL.trans ((L3.r N c0 c1 c2 c3 c4 c5 c6 c7 c8 c9 c10 (fun e => evL (L3.B N) (Env.norm 0 [4, 8, 9, 12, 76, 77, 78]) (Env.norm 0 [4, 5, 9]) n e K) K d0 d1).trans (congrArg (fun φ => L3.st N c0 c1 c2 c3 c4 c5 c6 c7 c8 c9 c10 φ d0 d1 (fun y0 y1 y2 y3 y4 => K (Exit.ret) (L3.x0.enc (((), (y0, ((), ()))), ((y1, ((), ((), ()))), ((c7, ((), ((), ()))), (y2, (y3, (c10, (y4, ()))))))))) (fun y0 => K (Exit.exit 2) (L3.x1.enc (((), ((), ((), ()))), ((c3, ((), ((), ()))), ((c7, ((), ((), ()))), (c8, (c9, (c10, (y0, ())))))))))) (funext fun e0 => funext fun e1 => L3.e N c0 c1 c2 c3 c4 c5 c6 c7 c8 c9 c10 n e0 e1 K)))
theorem ents27_ok {α : Type} (N : Nat) : AllP (EntOk (C N) Tryd.f27 an27 (ents27 (α := α) N)) (ents27 N) := ⟨entOk_of (b0 := loopOf 12 Tryd.f27) (li0 := [2, 3, 4, 8, 9, 54, 55, 56]) (lx0 := [2, 3, 4, 5, 8, 9]) (by kernel_rfl) (by kernel_rfl) ⟨fun d K => L2.e N d.1.2.2.2.2.2.1 d.1.2.2.2.2.2.2.1 d.2.1.1 d.2.1.2.1 d.2.1.2.2.1 d.2.2.1.1 d.2.2.1.2.1 d.2.2.1.2.2.1 d.2.2.2.1.1 d.2.2.2.2.1.1 d.2.2.2.2.2.1 d.2.2.2.2.2.2.1 d.2.2.2.2.2.2.2.2.1 N d.1.2.2.2.2.2.2.2.1 d.2.2.2.2.2.2.2.1 K, trivial⟩, entOk_of (b0 := loopOf 20 Tryd.f27) (li0 := [4, 8, 9, 12, 76, 77, 78]) (lx0 := [4, 5, 9]) (by kernel_rfl) (by kernel_rfl) ⟨fun d K => L3.e N d.1.2.2.2.1 d.1.2.2.2.2.1 d.1.2.2.2.2.2.1 d.2.1.1 d.2.2.1.1 d.2.2.1.2.1 d.2.2.1.2.2.1 d.2.2.2.1.1 d.2.2.2.2.1 d.2.2.2.2.2.1 d.2.2.2.2.2.2.1 N d.1.2.2.2.2.2.2.1 d.2.2.2.2.2.2.2.1 K, trivial⟩, trivial⟩
theorem ents35_ok {α : Type} (N : Nat) : AllP (EntOk (C N) Tryd.f35 an35 (ents35 (α := α) N)) (ents35 N) := ⟨entOk_of (b0 := loopOf 3 Tryd.f35) (li0 := [1, 2, 3, 6, 7, 16, 17, 18]) (lx0 := [2, 3, 6, 7]) (by kernel_rfl) (by kernel_rfl) ⟨fun d K => L0.e N d.1.2.2.2.2.2.1 d.1.2.2.2.2.2.2.1 d.2.1.1 d.2.1.2.1 d.2.1.2.2.1 d.2.2.1.1 d.2.2.2.1.1 d.2.2.2.2.1 d.2.2.2.2.2.1 d.2.2.2.2.2.2.1 d.2.2.2.2.2.2.2.1 d.2.2.2.2.2.2.2.2.2.1 d.2.2.2.2.2.2.2.2.2.2.1.1 d.2.2.2.2.2.2.2.2.2.2.1.2.1 d.2.2.2.2.2.2.2.2.2.2.2.1.1 d.2.2.2.2.2.2.2.2.2.2.2.1.2.1 d.2.2.2.2.2.2.2.2.2.2.2.2.1.1 d.2.2.2.2.2.2.2.2.2.2.2.2.2.1.1 d.2.2.2.2.2.2.2.2.2.2.2.2.2.1.2.1 d.2.2.2.2.2.2.2.2.2.2.2.2.2.1.2.2.1 d.2.2.2.2.2.2.2.2.2.2.2.2.2.2.1.1 d.2.2.2.2.2.2.2.2.2.2.2.2.2.2.1.2.1 d.2.2.2.2.2.2.2.2.2.2.2.2.2.2.1.2.2.1 N d.1.2.2.2.2.2.2.2.1 d.2.2.2.2.2.2.2.2.1 K, trivial⟩, entOk_of (b0 := loopOf 8 Tryd.f35) (li0 := [2, 6, 7, 34, 35, 36]) (lx0 := [6, 7]) (by kernel_rfl) (by kernel_rfl) ⟨fun d K => L1.e N d.1.2.2.2.1 d.1.2.2.2.2.1 d.2.1.1 d.2.2.1.1 d.2.2.2.1 d.2.2.2.2.1 d.2.2.2.2.2.1 d.2.2.2.2.2.2.1 d.2.2.2.2.2.2.2.1 d.2.2.2.2.2.2.2.2.2.1.1 d.2.2.2.2.2.2.2.2.2.1.2.1 d.2.2.2.2.2.2.2.2.2.2.1.1 d.2.2.2.2.2.2.2.2.2.2.1.2.1 d.2.2.2.2.2.2.2.2.2.2.2.1.1 d.2.2.2.2.2.2.2.2.2.2.2.2.1.1 d.2.2.2.2.2.2.2.2.2.2.2.2.1.2.1 d.2.2.2.2.2.2.2.2.2.2.2.2.1.2.2.1 d.2.2.2.2.2.2.2.2.2.2.2.2.2.1.1 d.2.2.2.2.2.2.2.2.2.2.2.2.2.1.2.1 d.2.2.2.2.2.2.2.2.2.2.2.2.2.1.2.2.1 N d.1.2.2.2.2.2.1 d.2.2.2.2.2.2.2.2.1 K, trivial⟩, trivial⟩
def g {α : Type} (N : Nat) (a0 : BA × List (BA × Int × Int) × List (BA × List (Int × Int) × List (Int × Int) × List (Int × Int) × Int)) (a1 : BA × List (BA × Int × Int) × List (BA × List (Int × Int) × List (Int × Int) × List (Int × Int) × Int)) (kr : ((BA × List (BA × Int × Int) × List (BA × List (Int × Int) × List (Int × Int) × List (Int × Int) × Int)) → Int → Option α)) : Option α :=
 cond ((net_Check.spec (a0.fst, a0.snd.fst, a0.snd.snd)).fst != 0) (kr (((ByteArray.mk (#[])), [], [])) ((net_Check.spec (a0.fst, a0.snd.fst, a0.snd.snd)).fst)) (cond ((net_Check.spec (a1.fst, a1.snd.fst, a1.snd.snd)).fst != 0) (kr (((ByteArray.mk (#[])), [], [])) ((net_Check.spec (a1.fst, a1.snd.fst, a1.snd.snd)).fst)) (cond (decide (24 < IntKind.i64.wrap ((↑(List.length a0.snd.fst) : Int) + (↑(List.length a1.snd.fst) : Int)))) (kr (((ByteArray.mk (#[])), [], [])) (2)) (cond (decide (24 < IntKind.i64.wrap ((↑(List.length a0.snd.snd) : Int) + (↑(List.length a1.snd.snd) : Int)))) (kr (((ByteArray.mk (#[])), [], [])) (2)) (L0.f N (a0.snd.fst) ((↑(List.length a0.snd.fst) : Int)) (a0.fst) (a0.snd.fst) (a0.snd.snd) ((ByteArray.mk (#[]))) (a0.fst) ([]) ([]) ([]) ([]) ([]) ((net_Check.spec (a1.fst, a1.snd.fst, a1.snd.snd)).fst) ((net_Check.spec (a1.fst, a1.snd.fst, a1.snd.snd)).snd) ((net_Check.spec (a0.fst, a0.snd.fst, a0.snd.snd)).fst) ((net_Check.spec (a0.fst, a0.snd.fst, a0.snd.snd)).snd) ((ByteArray.mk (#[]))) (a1.fst) (a1.snd.fst) (a1.snd.snd) (a0.fst) (a0.snd.fst) (a0.snd.snd) N (0) ([]) (fun x25 => L1.f N (a0.snd.snd) ((↑(List.length a0.snd.snd) : Int)) ((ByteArray.mk (#[]))) (a0.fst) ([]) ([]) ([]) ([]) (x25) ((net_Check.spec (a1.fst, a1.snd.fst, a1.snd.snd)).fst) ((net_Check.spec (a1.fst, a1.snd.fst, a1.snd.snd)).snd) ((net_Check.spec (a0.fst, a0.snd.fst, a0.snd.snd)).fst) ((net_Check.spec (a0.fst, a0.snd.fst, a0.snd.snd)).snd) ((ByteArray.mk (#[]))) (a1.fst) (a1.snd.fst) (a1.snd.snd) (a0.fst) (a0.snd.fst) (a0.snd.snd) N (0) ([]) (fun x48 => L2.f N (a1.snd.fst) ((↑(List.length a1.snd.fst) : Int)) (a0.fst) (a0.snd.fst) (a0.snd.snd) (a1.fst) (a1.snd.fst) (a1.snd.snd) ((ByteArray.mk (#[]))) (a0.fst) ([]) ([]) (x48) N (0) (x25) (fun x64 x65 x66 x67 x68 => kr ((x65, x66, x67)) (x64)) (fun x69 => L3.f N ((↑(List.length a0.snd.fst) : Int)) (a1.snd.snd) ((↑(List.length a1.snd.snd) : Int)) ((ByteArray.mk (#[]))) (a0.fst) (a0.snd.fst) (a0.snd.snd) (a0.fst) ([]) ([]) (x69) N (0) (x48) (fun x83 x84 x85 x86 x87 => kr ((x84, x85, x86)) (x83)) (fun x88 => kr ((a0.fst, x69, x88)) (0)))))))))
theorem eq (N : Nat) (a0 : BA × List (BA × Int × Int) × List (BA × List (Int × Int) × List (Int × Int) × List (Int × Int) × Int)) (a1 : BA × List (BA × Int × Int) × List (BA × List (Int × Int) × List (Int × Int) × List (Int × Int) × Int)) : evF (C N) 50 Tryd.f27 an27 (smL (ents27 N) 0 50) [((.st (.pr (.str) (.pr (.sl (.st (.pr (.str) (.pr (.int .i64) (.int .i64))))) (.sl (.st (.pr (.str) (.pr (.sl (.st (.pr (.int .i64) (.int .i64)))) (.pr (.sl (.st (.pr (.int .i64) (.int .i64)))) (.pr (.sl (.st (.pr (.int .i64) (.int .i64)))) (.int .i64))))))))) : K), false), ((.int .i64 : K), false)] [⟨.st (.pr (.str) (.pr (.sl (.st (.pr (.str) (.pr (.int .i64) (.int .i64))))) (.sl (.st (.pr (.str) (.pr (.sl (.st (.pr (.int .i64) (.int .i64)))) (.pr (.sl (.st (.pr (.int .i64) (.int .i64)))) (.pr (.sl (.st (.pr (.int .i64) (.int .i64)))) (.int .i64))))))))), a0⟩, ⟨.st (.pr (.str) (.pr (.sl (.st (.pr (.str) (.pr (.int .i64) (.int .i64))))) (.sl (.st (.pr (.str) (.pr (.sl (.st (.pr (.int .i64) (.int .i64)))) (.pr (.sl (.st (.pr (.int .i64) (.int .i64)))) (.pr (.sl (.st (.pr (.int .i64) (.int .i64)))) (.int .i64))))))))), a1⟩] = g N a0 a1 (fun r0 r1 => some [.dat ((K.str.pr ((K.str.pr ((K.int IntKind.i64).pr (K.int IntKind.i64))).st.sl.pr (K.str.pr (((K.int IntKind.i64).pr (K.int IntKind.i64)).st.sl.pr (((K.int IntKind.i64).pr (K.int IntKind.i64)).st.sl.pr (((K.int IntKind.i64).pr (K.int IntKind.i64)).st.sl.pr (K.int IntKind.i64))))).st.sl)).st) r0, .dat (K.int IntKind.i64) r1]) := by kernel_rfl
theorem ctxOk (N : Nat) : CtxOk P (C N) := ctxOk_of tysOk mixedOk ⟨tf_samePlace.ok, net_Check.ok, tf_shift.ok, tf_Union_1.ok, tf_Union_2.ok, tf_clone.ok, trivial⟩ ⟨⟨⟨by rfl, by kernel_rfl⟩, fun α lo d c hc => smL_ok (ents35_ok N) lo d hc⟩, trivial⟩
theorem calls (N : Nat) (a0 : BA × List (BA × Int × Int) × List (BA × List (Int × Int) × List (Int × Int) × List (Int × Int) × Int)) (a1 : BA × List (BA × Int × Int) × List (BA × List (Int × Int) × List (Int × Int) × List (Int × Int) × Int)) {rs : List Rs} (h : g N a0 a1 (fun r0 r1 => some [.dat ((K.str.pr ((K.str.pr ((K.int IntKind.i64).pr (K.int IntKind.i64))).st.sl.pr (K.str.pr (((K.int IntKind.i64).pr (K.int IntKind.i64)).st.sl.pr (((K.int IntKind.i64).pr (K.int IntKind.i64)).st.sl.pr (((K.int IntKind.i64).pr (K.int IntKind.i64)).st.sl.pr (K.int IntKind.i64))))).st.sl)).st) r0, .dat (K.int IntKind.i64) r1]) = some rs) : CallsTo P 27 [⟨.st (.pr (.str) (.pr (.sl (.st (.pr (.str) (.pr (.int .i64) (.int .i64))))) (.sl (.st (.pr (.str) (.pr (.sl (.st (.pr (.int .i64) (.int .i64)))) (.pr (.sl (.st (.pr (.int .i64) (.int .i64)))) (.pr (.sl (.st (.pr (.int .i64) (.int .i64)))) (.int .i64))))))))), a0⟩, ⟨.st (.pr (.str) (.pr (.sl (.st (.pr (.str) (.pr (.int .i64) (.int .i64))))) (.sl (.st (.pr (.str) (.pr (.sl (.st (.pr (.int .i64) (.int .i64)))) (.pr (.sl (.st (.pr (.int .i64) (.int .i64)))) (.pr (.sl (.st (.pr (.int .i64) (.int .i64)))) (.int .i64))))))))), a1⟩] rs := evF_calls' (ctxOk N) (by rfl) (ents27_ok N) ((eq N a0 a1).trans h)
def L0.l {α : Type} (N : Nat) (x0 : (List (BA × Int × Int))) (x3 : BA) (x4 : (List (BA × Int × Int))) (x5 : (List (BA × List (Int × Int) × List (Int × Int) × List (Int × Int) × Int))) (x6 : BA) (x7 : BA) (x8 : (List (BA × Int × Int))) (x9 : (List (BA × List (Int × Int) × List (Int × Int) × List (Int × Int) × Int))) (x10 : (List (BA × Int × Int))) (x11 : (List (BA × List (Int × Int) × List (Int × Int) × List (Int × Int) × Int))) (x13 : (List (BA × List (Int × Int) × List (Int × Int) × List (Int × Int) × Int))) (x14 : Int) (x15 : Int) (x16 : Int) (x17 : Int) (x18 : BA) (x19 : BA) (x20 : (List (BA × Int × Int))) (x21 : (List (BA × List (Int × Int) × List (Int × Int) × List (Int × Int) × Int))) (x22 : BA) (x23 : (List (BA × Int × Int))) (x24 : (List (BA × List (Int × Int) × List (Int × Int) × List (Int × Int) × Int))) (k0 : ((List (BA × Int × Int)) → Option α)) : List (BA × Int × Int) → Int → (List (BA × Int × Int)) → Option α
 | [], x2, x12 => k0 (x12)
 | x :: l, x2, x12 => (cond ((x12.length + 1).ble mxl) (cond ((x12.length + 1).ble mxl) (L0.l N x0 x3 x4 x5 x6 x7 x8 x9 x10 x11 x13 x14 x15 x16 x17 x18 x19 x20 x21 x22 x23 x24 k0 l (x2 + 1) (x12 ++ [((tf_samePlace.spec x2 (x.fst, x.snd.fst, x.snd.snd)).fst, (tf_samePlace.spec x2 (x.fst, x.snd.fst, x.snd.snd)).snd.fst, (tf_samePlace.spec x2 (x.fst, x.snd.fst, x.snd.snd)).snd.snd)])) (none)) (none))
theorem L0.rng {α : Type} {N : Nat} (x0 : (List (BA × Int × Int))) (x3 : BA) (x4 : (List (BA × Int × Int))) (x5 : (List (BA × List (Int × Int) × List (Int × Int) × List (Int × Int) × Int))) (x6 : BA) (x7 : BA) (x8 : (List (BA × Int × Int))) (x9 : (List (BA × List (Int × Int) × List (Int × Int) × List (Int × Int) × Int))) (x10 : (List (BA × Int × Int))) (x11 : (List (BA × List (Int × Int) × List (Int × Int) × List (Int × Int) × Int))) (x13 : (List (BA × List (Int × Int) × List (Int × Int) × List (Int × Int) × Int))) (x14 : Int) (x15 : Int) (x16 : Int) (x17 : Int) (x18 : BA) (x19 : BA) (x20 : (List (BA × Int × Int))) (x21 : (List (BA × List (Int × Int) × List (Int × Int) × List (Int × Int) × Int))) (x22 : BA) (x23 : (List (BA × Int × Int))) (x24 : (List (BA × List (Int × Int) × List (Int × Int) × List (Int × Int) × Int))) (hl : x0.length ≤ maxLen) (k0 : ((List (BA × Int × Int)) → Option α)) : ∀ (n j : Nat) (x12 : (List (BA × Int × Int))), x0.length < n + j → j ≤ x0.length → L0.f N x0 (x0.length : Int) x3 x4 x5 x6 x7 x8 x9 x10 x11 x13 x14 x15 x16 x17 x18 x19 x20 x21 x22 x23 x24 n (j : Int) x12 k0 = L0.l N x0 x3 x4 x5 x6 x7 x8 x9 x10 x11 x13 x14 x15 x16 x17 x18 x19 x20 x21 x22 x23 x24 k0 (x0.drop j) (j : Int) x12
 | 0, j, x12, h, hj => absurd h (by omega)
 | n + 1, j, x12, h, hj => by
  by_cases hlt : j < x0.length
  ·
   have e1 : decide ((j : Int) < (x0.length : Int)) = true := decide_eq_true (Int.ofNat_lt.2 hlt)
   have e2 : decide ((0 : Int) ≤ (j : Int)) = true := decide_eq_true (Int.natCast_nonneg j)
   have e3 : ∀ z, x0.getD (Int.toNat (j : Int)) z = x0[j] := fun z => by rw [Int.toNat_natCast]; exact (List.getElem_eq_getD z).symm
   have e3' : ∀ z, x0.getD (0 + Int.toNat (j : Int)) z = x0[j] := fun z => by rw [Nat.zero_add]; exact e3 z
   have e4 : IntKind.i64.wrap ((j : Int) + 1) = (j : Int) + 1 := wrap_next hlt hl
   have ih : ∀ (x12 : (List (BA × Int × Int))), L0.f N x0 (x0.length : Int) x3 x4 x5 x6 x7 x8 x9 x10 x11 x13 x14 x15 x16 x17 x18 x19 x20 x21 x22 x23 x24 n ((j : Int) + 1) x12 k0 = L0.l N x0 x3 x4 x5 x6 x7 x8 x9 x10 x11 x13 x14 x15 x16 x17 x18 x19 x20 x21 x22 x23 x24 k0 (x0.drop (j + 1)) ((j : Int) + 1) x12 := fun x12 => L0.rng x0 x3 x4 x5 x6 x7 x8 x9 x10 x11 x13 x14 x15 x16 x17 x18 x19 x20 x21 x22 x23 x24 hl k0 n (j + 1) x12 (by omega) (by omega)
   rw [List.drop_eq_getElem_cons hlt]
   first
    | (simp only [L0.f, L0.st, L0.l, e1, e2, e3, e3', e4, Bool.true_and, Bool.and_true, Bool.and_self, cond_true, ih]; done)
    | (simp only [L0.f, L0.st, L0.l, e1, e2, e3, e3', e4, Bool.true_and, Bool.and_true, Bool.and_self, cond_true, ih]; rfl)
  ·
   have e1 : decide ((j : Int) < (x0.length : Int)) = false := decide_eq_false (fun hc => hlt (Int.ofNat_lt.1 hc))
   rw [List.drop_eq_nil_of_le (by omega)]
   simp only [L0.f, L0.st, L0.l, e1, cond_false]
def L1.l {α : Type} (N : Nat) (x26 : (List (BA × List (Int × Int) × List (Int × Int) × List (Int × Int) × Int))) (x29 : BA) (x30 : BA) (x31 : (List (BA × Int × Int))) (x32 : (List (BA × List (Int × Int) × List (Int × Int) × List (Int × Int) × Int))) (x33 : (List (BA × Int × Int))) (x34 : (List (BA × List (Int × Int) × List (Int × Int) × List (Int × Int) × Int))) (x35 : (List (BA × Int × Int))) (x37 : Int) (x38 : Int) (x39 : Int) (x40 : Int) (x41 : BA) (x42 : BA) (x43 : (List (BA × Int × Int))) (x44 : (List (BA × List (Int × Int) × List (Int × Int) × List (Int × Int) × Int))) (x45 : BA) (x46 : (List (BA × Int × Int))) (x47 : (List (BA × List (Int × Int) × List (Int × Int) × List (Int × Int) × Int))) (k0 : ((List (BA × List (Int × Int) × List (Int × Int) × List (Int × Int) × Int)) → Option α)) : List (BA × List (Int × Int) × List (Int × Int) × List (Int × Int) × Int) → Int → (List (BA × List (Int × Int) × List (Int × Int) × List (Int × Int) × Int)) → Option α
 | [], x28, x36 => k0 (x36)
 | x :: l, x28, x36 => (cond (tf_clone.pre x.snd.fst) (cond (tf_clone.pre x.snd.snd.fst) (cond (tf_clone.pre x.snd.snd.snd.fst) (cond (tf_clone.pre x.snd.fst) (cond (tf_clone.pre x.snd.snd.fst) (cond (tf_clone.pre x.snd.snd.snd.fst) (cond ((x36.length + 1).ble mxl) (cond ((x36.length + 1).ble mxl) (L1.l N x26 x29 x30 x31 x32 x33 x34 x35 x37 x38 x39 x40 x41 x42 x43 x44 x45 x46 x47 k0 l (x28 + 1) (x36 ++ [((tf_Union_2.spec (x.fst, tf_clone.spec x.snd.fst, tf_clone.spec x.snd.snd.fst, tf_clone.spec x.snd.snd.snd.fst, x.snd.snd.snd.snd)).fst, (tf_Union_2.spec (x.fst, tf_clone.spec x.snd.fst, tf_clone.spec x.snd.snd.fst, tf_clone.spec x.snd.snd.snd.fst, x.snd.snd.snd.snd)).snd.fst, (tf_Union_2.spec (x.fst, tf_clone.spec x.snd.fst, tf_clone.spec x.snd.snd.fst, tf_clone.spec x.snd.snd.snd.fst, x.snd.snd.snd.snd)).snd.snd.fst, (tf_Union_2.spec (x.fst, tf_clone.spec x.snd.fst, tf_clone.spec x.snd.snd.fst, tf_clone.spec x.snd.snd.snd.fst, x.snd.snd.snd.snd)).snd.snd.snd.fst, (tf_Union_2.spec (x.fst, tf_clone.spec x.snd.fst, tf_clone.spec x.snd.snd.fst, tf_clone.spec x.snd.snd.snd.fst, x.snd.snd.snd.snd)).snd.snd.snd.snd)])) (none)) (none)) (none)) (none)) (none)) (none)) (none)) (none))
theorem L1.rng {α : Type} {N : Nat} (x26 : (List (BA × List (Int × Int) × List (Int × Int) × List (Int × Int) × Int))) (x29 : BA) (x30 : BA) (x31 : (List (BA × Int × Int))) (x32 : (List (BA × List (Int × Int) × List (Int × Int) × List (Int × Int) × Int))) (x33 : (List (BA × Int × Int))) (x34 : (List (BA × List (Int × Int) × List (Int × Int) × List (Int × Int) × Int))) (x35 : (List (BA × Int × Int))) (x37 : Int) (x38 : Int) (x39 : Int) (x40 : Int) (x41 : BA) (x42 : BA) (x43 : (List (BA × Int × Int))) (x44 : (List (BA × List (Int × Int) × List (Int × Int) × List (Int × Int) × Int))) (x45 : BA) (x46 : (List (BA × Int × Int))) (x47 : (List (BA × List (Int × Int) × List (Int × Int) × List (Int × Int) × Int))) (hl : x26.length ≤ maxLen) (k0 : ((List (BA × List (Int × Int) × List (Int × Int) × List (Int × Int) × Int)) → Option α)) : ∀ (n j : Nat) (x36 : (List (BA × List (Int × Int) × List (Int × Int) × List (Int × Int) × Int))), x26.length < n + j → j ≤ x26.length → L1.f N x26 (x26.length : Int) x29 x30 x31 x32 x33 x34 x35 x37 x38 x39 x40 x41 x42 x43 x44 x45 x46 x47 n (j : Int) x36 k0 = L1.l N x26 x29 x30 x31 x32 x33 x34 x35 x37 x38 x39 x40 x41 x42 x43 x44 x45 x46 x47 k0 (x26.drop j) (j : Int) x36
 | 0, j, x36, h, hj => absurd h (by omega)
 | n + 1, j, x36, h, hj => by
  by_cases hlt : j < x26.length
  ·
   have e1 : decide ((j : Int) < (x26.length : Int)) = true := decide_eq_true (Int.ofNat_lt.2 hlt)
   have e2 : decide ((0 : Int) ≤ (j : Int)) = true := decide_eq_true (Int.natCast_nonneg j)
   have e3 : ∀ z, x26.getD (Int.toNat (j : Int)) z = x26[j] := fun z => by rw [Int.toNat_natCast]; exact (List.getElem_eq_getD z).symm
   have e3' : ∀ z, x26.getD (0 + Int.toNat (j : Int)) z = x26[j] := fun z => by rw [Nat.zero_add]; exact e3 z
   have e4 : IntKind.i64.wrap ((j : Int) + 1) = (j : Int) + 1 := wrap_next hlt hl
   have ih : ∀ (x36 : (List (BA × List (Int × Int) × List (Int × Int) × List (Int × Int) × Int))), L1.f N x26 (x26.length : Int) x29 x30 x31 x32 x33 x34 x35 x37 x38 x39 x40 x41 x42 x43 x44 x45 x46 x47 n ((j : Int) + 1) x36 k0 = L1.l N x26 x29 x30 x31 x32 x33 x34 x35 x37 x38 x39 x40 x41 x42 x43 x44 x45 x46 x47 k0 (x26.drop (j + 1)) ((j : Int) + 1) x36 := fun x36 => L1.rng x26 x29 x30 x31 x32 x33 x34 x35 x37 x38 x39 x40 x41 x42 x43 x44 x45 x46 x47 hl k0 n (j + 1) x36 (by omega) (by omega)
   rw [List.drop_eq_getElem_cons hlt]
   first
    | (simp only [L1.f, L1.st, L1.l, e1, e2, e3, e3', e4, Bool.true_and, Bool.and_true, Bool.and_self, cond_true, ih]; done)
    | (simp only [L1.f, L1.st, L1.l, e1, e2, e3, e3', e4, Bool.true_and, Bool.and_true, Bool.and_self, cond_true, ih]; rfl)
  ·
   have e1 : decide ((j : Int) < (x26.length : Int)) = false := decide_eq_false (fun hc => hlt (Int.ofNat_lt.1 hc))
   rw [List.drop_eq_nil_of_le (by omega)]
   simp only [L1.f, L1.st, L1.l, e1, cond_false]
def L2.l {α : Type} (N : Nat) (x49 : (List (BA × Int × Int))) (x52 : BA) (x53 : (List (BA × Int × Int))) (x54 : (List (BA × List (Int × Int) × List (Int × Int) × List (Int × Int) × Int))) (x55 : BA) (x56 : (List (BA × Int × Int))) (x57 : (List (BA × List (Int × Int) × List (Int × Int) × List (Int × Int) × Int))) (x58 : BA) (x59 : BA) (x60 : (List (BA × Int × Int))) (x61 : (List (BA × List (Int × Int) × List (Int × Int) × List (Int × Int) × Int))) (x63 : (List (BA × List (Int × Int) × List (Int × Int) × List (Int × Int) × Int))) (k0 : (Int → BA → (List (BA × Int × Int)) → (List (BA × List (Int × Int) × List (Int × Int) × List (Int × Int) × Int)) → (List (BA × Int × Int)) → Option α)) (k1 : ((List (BA × Int × Int)) → Option α)) : List (BA × Int × Int) → Int → (List (BA × Int × Int)) → Option α
 | [], x51, x62 => k1 (x62)
 | x :: l, x51, x62 => (cond (tf_Union_1.spec x.fst (x52, x53, x54)) (k0 (6) ((ByteArray.mk (#[]))) ([]) ([]) (x62)) (cond ((x62.length + 1).ble mxl) (L2.l N x49 x52 x53 x54 x55 x56 x57 x58 x59 x60 x61 x63 k0 k1 l (x51 + 1) (x62 ++ [(x.fst, x.snd.fst, x.snd.snd)])) (none)))
theorem L2.rng {α : Type} {N : Nat} (x49 : (List (BA × Int × Int))) (x52 : BA) (x53 : (List (BA × Int × Int))) (x54 : (List (BA × List (Int × Int) × List (Int × Int) × List (Int × Int) × Int))) (x55 : BA) (x56 : (List (BA × Int × Int))) (x57 : (List (BA × List (Int × Int) × List (Int × Int) × List (Int × Int) × Int))) (x58 : BA) (x59 : BA) (x60 : (List (BA × Int × Int))) (x61 : (List (BA × List (Int × Int) × List (Int × Int) × List (Int × Int) × Int))) (x63 : (List (BA × List (Int × Int) × List (Int × Int) × List (Int × Int) × Int))) (hl : x49.length ≤ maxLen) (k0 : (Int → BA → (List (BA × Int × Int)) → (List (BA × List (Int × Int) × List (Int × Int) × List (Int × Int) × Int)) → (List (BA × Int × Int)) → Option α)) (k1 : ((List (BA × Int × Int)) → Option α)) : ∀ (n j : Nat) (x62 : (List (BA × Int × Int))), x49.length < n + j → j ≤ x49.length → L2.f N x49 (x49.length : Int) x52 x53 x54 x55 x56 x57 x58 x59 x60 x61 x63 n (j : Int) x62 k0 k1 = L2.l N x49 x52 x53 x54 x55 x56 x57 x58 x59 x60 x61 x63 k0 k1 (x49.drop j) (j : Int) x62
 | 0, j, x62, h, hj => absurd h (by omega)
 | n + 1, j, x62, h, hj => by
  by_cases hlt : j < x49.length
  ·
   have e1 : decide ((j : Int) < (x49.length : Int)) = true := decide_eq_true (Int.ofNat_lt.2 hlt)
   have e2 : decide ((0 : Int) ≤ (j : Int)) = true := decide_eq_true (Int.natCast_nonneg j)
   have e3 : ∀ z, x49.getD (Int.toNat (j : Int)) z = x49[j] := fun z => by rw [Int.toNat_natCast]; exact (List.getElem_eq_getD z).symm
   have e3' : ∀ z, x49.getD (0 + Int.toNat (j : Int)) z = x49[j] := fun z => by rw [Nat.zero_add]; exact e3 z
   have e4 : IntKind.i64.wrap ((j : Int) + 1) = (j : Int) + 1 := wrap_next hlt hl
   have ih : ∀ (x62 : (List (BA × Int × Int))), L2.f N x49 (x49.length : Int) x52 x53 x54 x55 x56 x57 x58 x59 x60 x61 x63 n ((j : Int) + 1) x62 k0 k1 = L2.l N x49 x52 x53 x54 x55 x56 x57 x58 x59 x60 x61 x63 k0 k1 (x49.drop (j + 1)) ((j : Int) + 1) x62 := fun x62 => L2.rng x49 x52 x53 x54 x55 x56 x57 x58 x59 x60 x61 x63 hl k0 k1 n (j + 1) x62 (by omega) (by omega)
   rw [List.drop_eq_getElem_cons hlt]
   first
    | (simp only [L2.f, L2.st, L2.l, e1, e2, e3, e3', e4, Bool.true_and, Bool.and_true, Bool.and_self, cond_true, ih]; done)
    | (simp only [L2.f, L2.st, L2.l, e1, e2, e3, e3', e4, Bool.true_and, Bool.and_true, Bool.and_self, cond_true, ih]; rfl)
  ·
   have e1 : decide ((j : Int) < (x49.length : Int)) = false := decide_eq_false (fun hc => hlt (Int.ofNat_lt.1 hc))
   rw [List.drop_eq_nil_of_le (by omega)]
   simp only [L2.f, L2.st, L2.l, e1, cond_false]
def L3.l {α : Type} (N : Nat) (x70 : Int) (x71 : (List (BA × List (Int × Int) × List (Int × Int) × List (Int × Int) × Int))) (x74 : BA) (x75 : BA) (x76 : (List (BA × Int × Int))) (x77 : (List (BA × List (Int × Int) × List (Int × Int) × List (Int × Int) × Int))) (x78 : BA) (x79 : (List (BA × Int × Int))) (x80 : (List (BA × List (Int × Int) × List (Int × Int) × List (Int × Int) × Int))) (x81 : (List (BA × Int × Int))) (k0 : (Int → BA → (List (BA × Int × Int)) → (List (BA × List (Int × Int) × List (Int × Int) × List (Int × Int) × Int)) → (List (BA × List (Int × Int) × List (Int × Int) × List (Int × Int) × Int)) → Option α)) (k1 : ((List (BA × List (Int × Int) × List (Int × Int) × List (Int × Int) × Int)) → Option α)) : List (BA × List (Int × Int) × List (Int × Int) × List (Int × Int) × Int) → Int → (List (BA × List (Int × Int) × List (Int × Int) × List (Int × Int) × Int)) → Option α
 | [], x73, x82 => k1 (x82)
 | x :: l, x73, x82 => (cond (tf_Union_1.spec x.fst (x75, x76, x77)) (k0 (6) ((ByteArray.mk (#[]))) ([]) ([]) (x82)) (cond (tf_shift.pre x.snd.fst x70) (cond (tf_shift.pre x.snd.snd.fst x70) (cond (tf_shift.pre x.snd.snd.snd.fst x70) (cond (tf_shift.pre x.snd.fst x70) (cond (tf_shift.pre x.snd.snd.fst x70) (cond (tf_shift.pre x.snd.snd.snd.fst x70) (cond ((x82.length + 1).ble mxl) (L3.l N x70 x71 x74 x75 x76 x77 x78 x79 x80 x81 k0 k1 l (x73 + 1) (x82 ++ [(x.fst, tf_shift.spec x.snd.fst x70, tf_shift.spec x.snd.snd.fst x70, tf_shift.spec x.snd.snd.snd.fst x70, x.snd.snd.snd.snd)])) (none)) (none)) (none)) (none)) (none)) (none)) (none)))
theorem L3.rng {α : Type} {N : Nat} (x70 : Int) (x71 : (List (BA × List (Int × Int) × List (Int × Int) × List (Int × Int) × Int))) (x74 : BA) (x75 : BA) (x76 : (List (BA × Int × Int))) (x77 : (List (BA × List (Int × Int) × List (Int × Int) × List (Int × Int) × Int))) (x78 : BA) (x79 : (List (BA × Int × Int))) (x80 : (List (BA × List (Int × Int) × List (Int × Int) × List (Int × Int) × Int))) (x81 : (List (BA × Int × Int))) (hl : x71.length ≤ maxLen) (k0 : (Int → BA → (List (BA × Int × Int)) → (List (BA × List (Int × Int) × List (Int × Int) × List (Int × Int) × Int)) → (List (BA × List (Int × Int) × List (Int × Int) × List (Int × Int) × Int)) → Option α)) (k1 : ((List (BA × List (Int × Int) × List (Int × Int) × List (Int × Int) × Int)) → Option α)) : ∀ (n j : Nat) (x82 : (List (BA × List (Int × Int) × List (Int × Int) × List (Int × Int) × Int))), x71.length < n + j → j ≤ x71.length → L3.f N x70 x71 (x71.length : Int) x74 x75 x76 x77 x78 x79 x80 x81 n (j : Int) x82 k0 k1 = L3.l N x70 x71 x74 x75 x76 x77 x78 x79 x80 x81 k0 k1 (x71.drop j) (j : Int) x82
 | 0, j, x82, h, hj => absurd h (by omega)
 | n + 1, j, x82, h, hj => by
  by_cases hlt : j < x71.length
  ·
   have e1 : decide ((j : Int) < (x71.length : Int)) = true := decide_eq_true (Int.ofNat_lt.2 hlt)
   have e2 : decide ((0 : Int) ≤ (j : Int)) = true := decide_eq_true (Int.natCast_nonneg j)
   have e3 : ∀ z, x71.getD (Int.toNat (j : Int)) z = x71[j] := fun z => by rw [Int.toNat_natCast]; exact (List.getElem_eq_getD z).symm
   have e3' : ∀ z, x71.getD (0 + Int.toNat (j : Int)) z = x71[j] := fun z => by rw [Nat.zero_add]; exact e3 z
   have e4 : IntKind.i64.wrap ((j : Int) + 1) = (j : Int) + 1 := wrap_next hlt hl
   have ih : ∀ (x82 : (List (BA × List (Int × Int) × List (Int × Int) × List (Int × Int) × Int))), L3.f N x70 x71 (x71.length : Int) x74 x75 x76 x77 x78 x79 x80 x81 n ((j : Int) + 1) x82 k0 k1 = L3.l N x70 x71 x74 x75 x76 x77 x78 x79 x80 x81 k0 k1 (x71.drop (j + 1)) ((j : Int) + 1) x82 := fun x82 => L3.rng x70 x71 x74 x75 x76 x77 x78 x79 x80 x81 hl k0 k1 n (j + 1) x82 (by omega) (by omega)
   rw [List.drop_eq_getElem_cons hlt]
   first
    | (simp only [L3.f, L3.st, L3.l, e1, e2, e3, e3', e4, Bool.true_and, Bool.and_true, Bool.and_self, cond_true, ih]; done)
    | (simp only [L3.f, L3.st, L3.l, e1, e2, e3, e3', e4, Bool.true_and, Bool.and_true, Bool.and_self, cond_true, ih]; rfl)
  ·
   have e1 : decide ((j : Int) < (x71.length : Int)) = false := decide_eq_false (fun hc => hlt (Int.ofNat_lt.1 hc))
   rw [List.drop_eq_nil_of_le (by omega)]
   simp only [L3.f, L3.st, L3.l, e1, cond_false]
end tf_Union
theorem tf_Union.L0.law {α : Type} {N : Nat} (x0 : (List (BA × Int × Int))) (x3 : BA) (x4 : (List (BA × Int × Int))) (x5 : (List (BA × List (Int × Int) × List (Int × Int) × List (Int × Int) × Int))) (x6 : BA) (x7 : BA) (x8 : (List (BA × Int × Int))) (x9 : (List (BA × List (Int × Int) × List (Int × Int) × List (Int × Int) × Int))) (x10 : (List (BA × Int × Int))) (x11 : (List (BA × List (Int × Int) × List (Int × Int) × List (Int × Int) × Int))) (x13 : (List (BA × List (Int × Int) × List (Int × Int) × List (Int × Int) × Int))) (x14 : Int) (x15 : Int) (x16 : Int) (x17 : Int) (x18 : BA) (x19 : BA) (x20 : (List (BA × Int × Int))) (x21 : (List (BA × List (Int × Int) × List (Int × Int) × List (Int × Int) × Int))) (x22 : BA) (x23 : (List (BA × Int × Int))) (x24 : (List (BA × List (Int × Int) × List (Int × Int) × List (Int × Int) × Int))) (k0 : ((List (BA × Int × Int)) → Option α)) : ∀ (l : List PlaceT) (j : Int) (acc : List PlaceT), acc.length + l.length ≤ 1000 → tf_Union.L0.l N x0 x3 x4 x5 x6 x7 x8 x9 x10 x11 x13 x14 x15 x16 x17 x18 x19 x20 x21 x22 x23 x24 k0 l j acc = k0 (acc ++ l)
 | [], j, acc, _ => by rw [tf_Union.L0.l, List.append_nil]
 | x :: l, j, acc, h0 => by
  simp only [List.length_cons] at h0
  rw [tf_Union.L0.l, ble1 _ (by omega)]
  simp only [cond_true]
  rw [tf_Union.L0.law _ _ _ _ _ _ _ _ _ _ _ _ _ _ _ _ _ _ _ _ _ _ _ l _ _ (by simp; omega), List.append_assoc]
  rfl
theorem tf_Union.L1.law {α : Type} {N : Nat} (x26 : (List (BA × List (Int × Int) × List (Int × Int) × List (Int × Int) × Int))) (x29 : BA) (x30 : BA) (x31 : (List (BA × Int × Int))) (x32 : (List (BA × List (Int × Int) × List (Int × Int) × List (Int × Int) × Int))) (x33 : (List (BA × Int × Int))) (x34 : (List (BA × List (Int × Int) × List (Int × Int) × List (Int × Int) × Int))) (x35 : (List (BA × Int × Int))) (x37 : Int) (x38 : Int) (x39 : Int) (x40 : Int) (x41 : BA) (x42 : BA) (x43 : (List (BA × Int × Int))) (x44 : (List (BA × List (Int × Int) × List (Int × Int) × List (Int × Int) × Int))) (x45 : BA) (x46 : (List (BA × Int × Int))) (x47 : (List (BA × List (Int × Int) × List (Int × Int) × List (Int × Int) × Int))) (k0 : ((List (BA × List (Int × Int) × List (Int × Int) × List (Int × Int) × Int)) → Option α)) : ∀ (l : List TransT) (j : Int) (acc : List TransT), acc.length + l.length ≤ 1000 → (∀ t ∈ l, BigT t) → tf_Union.L1.l N x26 x29 x30 x31 x32 x33 x34 x35 x37 x38 x39 x40 x41 x42 x43 x44 x45 x46 x47 k0 l j acc = k0 (acc ++ l)
 | [], j, acc, _, h => by rw [tf_Union.L1.l, List.append_nil]
 | x :: l, j, acc, h0, h => by
  simp only [List.length_cons] at h0
  obtain ⟨h1, h2, h3⟩ := h x (by simp)
  rw [tf_Union.L1.l]
  simp only [tf_clone.pre, h1, h2, h3, cond_true]
  rw [ble1 _ (by omega)]
  simp only [cond_true]
  rw [tf_Union.L1.law _ _ _ _ _ _ _ _ _ _ _ _ _ _ _ _ _ _ _ _ l _ _ (by simp; omega) (fun t ht => h t (by simp [ht])), List.append_assoc]
  rfl
theorem tf_Union.L2.law {α : Type} {N : Nat} (x49 : (List (BA × Int × Int))) (x52 : BA) (x53 : (List (BA × Int × Int))) (x54 : (List (BA × List (Int × Int) × List (Int × Int) × List (Int × Int) × Int))) (x55 : BA) (x56 : (List (BA × Int × Int))) (x57 : (List (BA × List (Int × Int) × List (Int × Int) × List (Int × Int) × Int))) (x58 : BA) (x59 : BA) (x60 : (List (BA × Int × Int))) (x61 : (List (BA × List (Int × Int) × List (Int × Int) × List (Int × Int) × Int))) (x63 : (List (BA × List (Int × Int) × List (Int × Int) × List (Int × Int) × Int))) (k0 : (Int → BA → (List (BA × Int × Int)) → (List (BA × List (Int × Int) × List (Int × Int) × List (Int × Int) × Int)) → (List (BA × Int × Int)) → Option α)) (k1 : ((List (BA × Int × Int)) → Option α)) (r : Option α) (hr : ∀ z, k0 6 ⟨#[]⟩ [] [] z = r) (hv : (checkN (x52, x53, x54)).1 = 0) : ∀ (l : List PlaceT) (j : Int) (acc : List PlaceT), acc.length + l.length ≤ 1000 → tf_Union.L2.l N x49 x52 x53 x54 x55 x56 x57 x58 x59 x60 x61 x63 k0 k1 l j acc = cond (l.any fun p => knownN (x52, x53, x54) p.1) r (k1 (acc ++ l))
 | [], j, acc, _ => by rw [tf_Union.L2.l, List.append_nil]; rfl
 | x :: l, j, acc, h0 => by
  simp only [List.length_cons] at h0
  rw [tf_Union.L2.l, show tf_Union_1.spec x.1 (x52, x53, x54) = knownN (x52, x53, x54) x.1 by unfold tf_Union_1.spec; rw [hv]; rfl, List.any_cons]
  cases knownN (x52, x53, x54) x.1
  ·
   simp only [cond_false, Bool.false_or]
   rw [ble1 _ (by omega), cond_true, tf_Union.L2.law _ _ _ _ _ _ _ _ _ _ _ _ _ _ r hr hv l _ _ (by simp; omega), List.append_assoc]
   rfl
  ·
   simp only [cond_true, Bool.true_or]
   exact hr _
theorem tf_Union.L3.law {α : Type} {N : Nat} (x70 : Int) (x71 : (List (BA × List (Int × Int) × List (Int × Int) × List (Int × Int) × Int))) (x74 : BA) (x75 : BA) (x76 : (List (BA × Int × Int))) (x77 : (List (BA × List (Int × Int) × List (Int × Int) × List (Int × Int) × Int))) (x78 : BA) (x79 : (List (BA × Int × Int))) (x80 : (List (BA × List (Int × Int) × List (Int × Int) × List (Int × Int) × Int))) (x81 : (List (BA × Int × Int))) (k0 : (Int → BA → (List (BA × Int × Int)) → (List (BA × List (Int × Int) × List (Int × Int) × List (Int × Int) × Int)) → (List (BA × List (Int × Int) × List (Int × Int) × List (Int × Int) × Int)) → Option α)) (k1 : ((List (BA × List (Int × Int) × List (Int × Int) × List (Int × Int) × Int)) → Option α)) (r : Option α) (hr : ∀ z, k0 6 ⟨#[]⟩ [] [] z = r) (hv : (checkN (x75, x76, x77)).1 = 0) : ∀ (l : List TransT) (j : Int) (acc : List TransT), acc.length + l.length ≤ 1000 → (∀ t ∈ l, BigT t) → tf_Union.L3.l N x70 x71 x74 x75 x76 x77 x78 x79 x80 x81 k0 k1 l j acc = cond (l.any fun p => knownN (x75, x76, x77) p.1) r (k1 (acc ++ l.map (shiftT x70)))
 | [], j, acc, _, _ => by rw [tf_Union.L3.l, List.map_nil, List.append_nil]; rfl
 | x :: l, j, acc, h0, h => by
  simp only [List.length_cons] at h0
  obtain ⟨h1, h2, h3⟩ := h x (by simp)
  rw [tf_Union.L3.l, show tf_Union_1.spec x.1 (x75, x76, x77) = knownN (x75, x76, x77) x.1 by unfold tf_Union_1.spec; rw [hv]; rfl, List.any_cons]
  cases knownN (x75, x76, x77) x.1
  ·
   simp only [tf_shift.pre, h1, h2, h3, cond_false, cond_true, Bool.false_or]
   rw [ble1 _ (by omega), cond_true, tf_Union.L3.law _ _ _ _ _ _ _ _ _ _ _ _ r hr hv l _ _ (by simp; omega) (fun t ht => h t (by simp [ht])), List.append_assoc]
   rfl
  ·
   simp only [cond_true, Bool.true_or]
   exact hr _
theorem tf_Union.law {α : Type} {N : Nat} (hN : 18446744073709551616 ≤ N) (a0 : BA × (List (BA × Int × Int)) × List (BA × (List (Int × Int)) × (List (Int × Int)) × (List (Int × Int)) × Int)) (a1 : BA × (List (BA × Int × Int)) × List (BA × (List (Int × Int)) × (List (Int × Int)) × (List (Int × Int)) × Int)) (w0 : K.wf (.st (.pr (.str) (.pr (.sl (.st (.pr (.str) (.pr (.int .i64) (.int .i64))))) (.sl (.st (.pr (.str) (.pr (.sl (.st (.pr (.int .i64) (.int .i64)))) (.pr (.sl (.st (.pr (.int .i64) (.int .i64)))) (.pr (.sl (.st (.pr (.int .i64) (.int .i64)))) (.int .i64)))))))))) a0) (w1 : K.wf (.st (.pr (.str) (.pr (.sl (.st (.pr (.str) (.pr (.int .i64) (.int .i64))))) (.sl (.st (.pr (.str) (.pr (.sl (.st (.pr (.int .i64) (.int .i64)))) (.pr (.sl (.st (.pr (.int .i64) (.int .i64)))) (.pr (.sl (.st (.pr (.int .i64) (.int .i64)))) (.int .i64)))))))))) a1) (kr : ((BA × (List (BA × Int × Int)) × List (BA × (List (Int × Int)) × (List (Int × Int)) × (List (Int × Int)) × Int)) → Int → Option α)) : tf_Union.g N a0 a1 kr = kr (tf_Union.spec a0 a1).1 (tf_Union.spec a0 a1).2 := by
 unfold tf_Union.g tf_Union.spec unionE
 simp only [net_Check.spec, bne, checkN_eta]
 cases hc : (checkN a0).1 == 0
 ·
  rfl
 cases hd : (checkN a1).1 == 0
 ·
  rfl
 have hv := checkN_t.1 hc
 have hv' := checkN_t.1 hd
 have hnp := hv.np
 have hnt := hv.nt
 have hnp' := hv'.np
 have hnt' := hv'.nt
 simp only [Bool.not_true, cond_false, cond_true]
 rw [wrap_i64 (inI_i64.2 (by omega : -9223372036854775808 ≤ ((List.length a0.2.1 : Nat) : Int) + ((List.length a1.2.1 : Nat) : Int) ∧ ((List.length a0.2.1 : Nat) : Int) + ((List.length a1.2.1 : Nat) : Int) ≤ 9223372036854775807)),
  wrap_i64 (inI_i64.2 (by omega : -9223372036854775808 ≤ ((List.length a0.2.2 : Nat) : Int) + ((List.length a1.2.2 : Nat) : Int) ∧ ((List.length a0.2.2 : Nat) : Int) + ((List.length a1.2.2 : Nat) : Int) ≤ 9223372036854775807))]
 by_cases h1 : 24 < a0.2.1.length + a1.2.1.length
 ·
  rw [decide_eq_true h1, decide_eq_true (by omega : (24 : Int) < ((List.length a0.2.1 : Nat) : Int) + ((List.length a1.2.1 : Nat) : Int))]
  rfl
 rw [decide_eq_false h1, decide_eq_false (by omega : ¬ (24 : Int) < ((List.length a0.2.1 : Nat) : Int) + ((List.length a1.2.1 : Nat) : Int))]
 by_cases h2 : 24 < a0.2.2.length + a1.2.2.length
 ·
  rw [decide_eq_true h2, decide_eq_true (by omega : (24 : Int) < ((List.length a0.2.2 : Nat) : Int) + ((List.length a1.2.2 : Nat) : Int))]
  rfl
 rw [decide_eq_false h2, decide_eq_false (by omega : ¬ (24 : Int) < ((List.length a0.2.2 : Nat) : Int) + ((List.length a1.2.2 : Nat) : Int))]
 simp only [Bool.or_self, cond_false]
 refine (tf_Union.L0.rng (N := N) _ _ _ _ _ _ _ _ _ _ _ _ _ _ _ _ _ _ _ _ _ _ (w0.2.1.1) _ N 0 _ (by have := le_fuel (w0.2.1.1) hN; omega) (Nat.zero_le _)).trans ?_
 refine (tf_Union.L0.law _ _ _ _ _ _ _ _ _ _ _ _ _ _ _ _ _ _ _ _ _ _ _ _ _ _ (by simp; omega)).trans ?_
 simp only [List.drop_zero, List.nil_append]
 refine (tf_Union.L1.rng (N := N) _ _ _ _ _ _ _ _ _ _ _ _ _ _ _ _ _ _ _ (w0.2.2.1) _ N 0 _ (by have := le_fuel (w0.2.2.1) hN; omega) (Nat.zero_le _)).trans ?_
 refine (tf_Union.L1.law _ _ _ _ _ _ _ _ _ _ _ _ _ _ _ _ _ _ _ _ _ _ _ (by simp; omega) (by simpa using hv.big)).trans ?_
 simp only [List.drop_zero, List.nil_append]
 refine (tf_Union.L2.rng (N := N) _ _ _ _ _ _ _ _ _ _ _ _ (w1.2.1.1) _ _ N 0 _ (by have := le_fuel (w1.2.1.1) hN; omega) (Nat.zero_le _)).trans ?_
 refine (tf_Union.L2.law _ _ _ _ _ _ _ _ _ _ _ _ _ _ (kr (noNet) 6) (fun _ => rfl) (by rw [checkN_eta]; exact beq0.1 hc) _ _ _ (by simp; omega)).trans ?_
 simp only [List.drop_zero, List.nil_append]
 rw [show (fun p : PlaceT => knownN (a0.1, a0.2.1, a0.2.2) p.1) = fun p => knownN a0 p.1 from rfl]
 cases List.any a1.2.1 _
 ·
  simp only [cond_false, Bool.false_or]
  refine (tf_Union.L3.rng (N := N) _ _ _ _ _ _ _ _ _ _ (w1.2.2.1) _ _ N 0 _ (by have := le_fuel (w1.2.2.1) hN; omega) (Nat.zero_le _)).trans ?_
  refine (tf_Union.L3.law _ _ _ _ _ _ _ _ _ _ _ _ (kr (noNet) 6) (fun _ => rfl) (by rw [checkN_eta]; exact beq0.1 hc) _ _ _ (by simp; omega) (by simpa using hv'.big)).trans ?_
  simp only [List.drop_zero]
  rw [show (fun p : TransT => knownN (a0.1, a0.2.1, a0.2.2) p.1) = fun p => knownN a0 p.1 from rfl]
  cases List.any a1.2.2 _ <;> rfl
 ·
  rfl
theorem tf_Union.ok : FentOk P 27 tf_Union.fent := fentOk_of (by kernel_rfl) fun ds hk => by
 obtain ⟨a0, l0, rfl, h0⟩ := ds_cons hk
 obtain ⟨a1, l1, rfl, h1⟩ := ds_cons h0
 obtain rfl := ds0 h1
 exact ⟨true, [.dat (.st (.pr (.str) (.pr (.sl (.st (.pr (.str) (.pr (.int .i64) (.int .i64))))) (.sl (.st (.pr (.str) (.pr (.sl (.st (.pr (.int .i64) (.int .i64)))) (.pr (.sl (.st (.pr (.int .i64) (.int .i64)))) (.pr (.sl (.st (.pr (.int .i64) (.int .i64)))) (.int .i64)))))))))) (tf_Union.spec a0 a1).1, .dat (.int .i64) (tf_Union.spec a0 a1).2], fun h hw => tf_Union.calls 18446744073709551616 a0 a1 (tf_Union.law (Nat.le_refl _) a0 a1 hw.1 hw.2.1 _), fun α k => rfl⟩
end Go.VI
namespace Go.VI
open Go Go.Proofs
namespace strconv_Itoa
def an39 : Ann := []
def an73 : Ann := []
def an91 : Ann := []
def an96 : Ann := []
def an97 : Ann := []
def an98 : Ann := [(1, [0, 1, 4], [0, 1, 4])]
def an99 : Ann := [(11, [0, 1, 3, 4, 10, 11, 12, 13, 14, 15, 16], [0, 1, 3, 4, 10, 11, 12, 13]), (18, [0, 1, 3, 4, 10, 11, 12, 13, 17], [0, 1, 3, 4, 10, 11, 12, 13])]
def an100 : Ann := []
def an101 : Ann := []
def an102 : Ann := []
def an103 : Ann := []
def an104 : Ann := []
def an105 : Ann := []
def an106 : Ann := []
def ents39 {α : Type} (N : Nat) : List (SmE α) := []
def ents73 {α : Type} (N : Nat) : List (SmE α) := []
def ents91 {α : Type} (N : Nat) : List (SmE α) := []
def ents96 {α : Type} (N : Nat) : List (SmE α) := []
def ents97 {α : Type} (N : Nat) : List (SmE α) := []
def ents98 {α : Type} (N : Nat) : List (SmE α) := []
def ents99 {α : Type} (N : Nat) : List (SmE α) := []
def ents100 {α : Type} (N : Nat) : List (SmE α) := []
def ents101 {α : Type} (N : Nat) : List (SmE α) := []
def ents102 {α : Type} (N : Nat) : List (SmE α) := []
def ents103 {α : Type} (N : Nat) : List (SmE α) := []
def ents104 {α : Type} (N : Nat) : List (SmE α) := []
def ents105 {α : Type} (N : Nat) : List (SmE α) := []
def ents106 {α : Type} (N : Nat) : List (SmE α) := []
def C (N : Nat) : Ctx := ⟨tys, [], [(73, ⟨Tryd.f73, an73, fun α lo d r => smL (ents73 N) lo d r⟩), (91, ⟨Tryd.f91, an91, fun α lo d r => smL (ents91 N) lo d r⟩), (96, ⟨Tryd.f96, an96, fun α lo d r => smL (ents96 N) lo d r⟩), (97, ⟨Tryd.f97, an97, fun α lo d r => smL (ents97 N) lo d r⟩), (98, ⟨Tryd.f98, an98, fun α lo d r => smL (ents98 N) lo d r⟩), (99, ⟨Tryd.f99, an99, fun α lo d r => smL (ents99 N) lo d r⟩), (100, ⟨Tryd.f100, an100, fun α lo d r => smL (ents100 N) lo d r⟩), (101, ⟨Tryd.f101, an101, fun α lo d r => smL (ents101 N) lo d r⟩), (102, ⟨Tryd.f102, an102, fun α lo d r => smL (ents102 N) lo d r⟩), (103, ⟨Tryd.f103, an103, fun α lo d r => smL (ents103 N) lo d r⟩), (104, ⟨Tryd.f104, an104, fun α lo d r => smL (ents104 N) lo d r⟩), (105, ⟨Tryd.f105, an105, fun α lo d r => smL (ents105 N) lo d r⟩), (106, ⟨Tryd.f106, an106, fun α lo d r => smL (ents106 N) lo d r⟩)], N⟩
theorem ents39_ok {α : Type} (N : Nat) : AllP (EntOk (C N) Tryd.f39 an39 (ents39 (α := α) N)) (ents39 N) := trivial
theorem ents73_ok {α : Type} (N : Nat) : AllP (EntOk (C N) Tryd.f73 an73 (ents73 (α := α) N)) (ents73 N) := trivial
theorem ents91_ok {α : Type} (N : Nat) : AllP (EntOk (C N) Tryd.f91 an91 (ents91 (α := α) N)) (ents91 N) := trivial
theorem ents96_ok {α : Type} (N : Nat) : AllP (EntOk (C N) Tryd.f96 an96 (ents96 (α := α) N)) (ents96 N) := trivial
theorem ents97_ok {α : Type} (N : Nat) : AllP (EntOk (C N) Tryd.f97 an97 (ents97 (α := α) N)) (ents97 N) := trivial
theorem ents98_ok {α : Type} (N : Nat) : AllP (EntOk (C N) Tryd.f98 an98 (ents98 (α := α) N)) (ents98 N) := trivial
theorem ents99_ok {α : Type} (N : Nat) : AllP (EntOk (C N) Tryd.f99 an99 (ents99 (α := α) N)) (ents99 N) := trivial
theorem ents100_ok {α : Type} (N : Nat) : AllP (EntOk (C N) Tryd.f100 an100 (ents100 (α := α) N)) (ents100 N) := trivial
theorem ents101_ok {α : Type} (N : Nat) : AllP (EntOk (C N) Tryd.f101 an101 (ents101 (α := α) N)) (ents101 N) := trivial
theorem ents102_ok {α : Type} (N : Nat) : AllP (EntOk (C N) Tryd.f102 an102 (ents102 (α := α) N)) (ents102 N) := trivial
theorem ents103_ok {α : Type} (N : Nat) : AllP (EntOk (C N) Tryd.f103 an103 (ents103 (α := α) N)) (ents103 N) := trivial
theorem ents104_ok {α : Type} (N : Nat) : AllP (EntOk (C N) Tryd.f104 an104 (ents104 (α := α) N)) (ents104 N) := trivial
theorem ents105_ok {α : Type} (N : Nat) : AllP (EntOk (C N) Tryd.f105 an105 (ents105 (α := α) N)) (ents105 N) := trivial
theorem ents106_ok {α : Type} (N : Nat) : AllP (EntOk (C N) Tryd.f106 an106 (ents106 (α := α) N)) (ents106 N) := trivial
def g {α : Type} (N : Nat) (a0 : Int) (kr : (BA → Option α)) : Option α :=
 cond (decide (0 ≤ a0)) (cond (decide (a0 < 100)) (cond (decide (a0 < 10)) (cond (decide (0 ≤ a0) && decide (a0 ≤ IntKind.i64.wrap (a0 + 1)) && decide (IntKind.i64.wrap (a0 + 1) ≤ (↑(ByteArray.mk (#[48, 49, 50, 51, 52, 53, 54, 55, 56, 57, 97, 98, 99, 100, 101, 102, 103, 104, 105, 106, 107, 108, 109, 110, 111, 112, 113, 114, 115, 116, 117, 118, 119, 120, 121, 122])).data.toList.length : Int))) (kr ((ByteArray.mk ((Array.mk (List.drop a0.toNat (List.take (IntKind.i64.wrap (a0 + 1)).toNat (ByteArray.mk (#[48, 49, 50, 51, 52, 53, 54, 55, 56, 57, 97, 98, 99, 100, 101, 102, 103, 104, 105, 106, 107, 108, 109, 110, 111, 112, 113, 114, 115, 116, 117, 118, 119, 120, 121, 122])).data.toList))))))) (none)) (cond (decide (0 ≤ IntKind.i64.wrap (a0 * 2)) && decide (IntKind.i64.wrap (a0 * 2) ≤ IntKind.i64.wrap (IntKind.i64.wrap (a0 * 2) + 2)) && decide (IntKind.i64.wrap (IntKind.i64.wrap (a0 * 2) + 2) ≤ (↑(ByteArray.mk ((([48, 48, 48, 49, 48, 50, 48, 51, 48, 52, 48, 53, 48, 54, 48, 55, 48, 56, 48, 57, 49, 48, 49, 49, 49, 50, 49, 51, 49, 52, 49, 53, 49, 54, 49, 55, 49, 56, 49, 57, 50, 48, 50, 49, 50, 50, 50, 51, 50, 52].append [50, 53, 50, 54, 50, 55, 50, 56, 50, 57, 51, 48, 51, 49, 51, 50, 51, 51, 51, 52, 51, 53, 51, 54, 51, 55, 51, 56, 51, 57, 52, 48, 52, 49, 52, 50, 52, 51, 52, 52, 52, 53, 52, 54, 52, 55, 52, 56, 52, 57]).append ([53, 48, 53, 49, 53, 50, 53, 51, 53, 52, 53, 53, 53, 54, 53, 55, 53, 56, 53, 57, 54, 48, 54, 49, 54, 50, 54, 51, 54, 52, 54, 53, 54, 54, 54, 55, 54, 56, 54, 57, 55, 48, 55, 49, 55, 50, 55, 51, 55, 52].append [55, 53, 55, 54, 55, 55, 55, 56, 55, 57, 56, 48, 56, 49, 56, 50, 56, 51, 56, 52, 56, 53, 56, 54, 56, 55, 56, 56, 56, 57, 57, 48, 57, 49, 57, 50, 57, 51, 57, 52, 57, 53, 57, 54, 57, 55, 57, 56, 57, 57])).toArray)).data.toList.length : Int))) (kr ((ByteArray.mk ((Array.mk (List.drop (IntKind.i64.wrap (a0 * 2)).toNat (List.take (IntKind.i64.wrap (IntKind.i64.wrap (a0 * 2) + 2)).toNat (ByteArray.mk ((([48, 48, 48, 49, 48, 50, 48, 51, 48, 52, 48, 53, 48, 54, 48, 55, 48, 56, 48, 57, 49, 48, 49, 49, 49, 50, 49, 51, 49, 52, 49, 53, 49, 54, 49, 55, 49, 56, 49, 57, 50, 48, 50, 49, 50, 50, 50, 51, 50, 52].append [50, 53, 50, 54, 50, 55, 50, 56, 50, 57, 51, 48, 51, 49, 51, 50, 51, 51, 51, 52, 51, 53, 51, 54, 51, 55, 51, 56, 51, 57, 52, 48, 52, 49, 52, 50, 52, 51, 52, 52, 52, 53, 52, 54, 52, 55, 52, 56, 52, 57]).append ([53, 48, 53, 49, 53, 50, 53, 51, 53, 52, 53, 53, 53, 54, 53, 55, 53, 56, 53, 57, 54, 48, 54, 49, 54, 50, 54, 51, 54, 52, 54, 53, 54, 54, 54, 55, 54, 56, 54, 57, 55, 48, 55, 49, 55, 50, 55, 51, 55, 52].append [55, 53, 55, 54, 55, 55, 55, 56, 55, 57, 56, 48, 56, 49, 56, 50, 56, 51, 56, 52, 56, 53, 56, 54, 56, 55, 56, 56, 56, 57, 57, 48, 57, 49, 57, 50, 57, 51, 57, 52, 57, 53, 57, 54, 57, 55, 57, 56, 57, 57])).toArray)).data.toList))))))) (none))) (cond (decide (a0 < 0)) (cond (decide (4294967296 ≤ IntKind.u64.wrap (0 - IntKind.u64.wrap a0))) (cond (decide (65536 ≤ (IntKind.u64.wrap (0 - IntKind.u64.wrap a0)).fdiv (2 ^ min (Int.toNat 32) IntKind.u64.bits))) (cond (decide (256 ≤ ((IntKind.u64.wrap (0 - IntKind.u64.wrap a0)).fdiv (2 ^ min (Int.toNat 32) IntKind.u64.bits)).fdiv (2 ^ min (Int.toNat 16) IntKind.u64.bits))) (cond (decide (0 ≤ IntKind.u8.wrap ((((IntKind.u64.wrap (0 - IntKind.u64.wrap a0)).fdiv (2 ^ min (Int.toNat 32) IntKind.u64.bits)).fdiv (2 ^ min (Int.toNat 16) IntKind.u64.bits)).fdiv (2 ^ min (Int.toNat 8) IntKind.u64.bits))) && decide (IntKind.u8.wrap ((((IntKind.u64.wrap (0 - IntKind.u64.wrap a0)).fdiv (2 ^ min (Int.toNat 32) IntKind.u64.bits)).fdiv (2 ^ min (Int.toNat 16) IntKind.u64.bits)).fdiv (2 ^ min (Int.toNat 8) IntKind.u64.bits)) < (↑(ByteArray.mk ((([0, 1, 2, 2, 3, 3, 3, 3, 4, 4, 4, 4, 4, 4, 4, 4, 5, 5, 5, 5, 5, 5, 5, 5, 5, 5, 5, 5, 5, 5, 5, 5, 6, 6, 6, 6, 6, 6, 6, 6, 6, 6, 6, 6, 6, 6, 6, 6, 6, 6, 6, 6, 6, 6, 6, 6, 6, 6, 6, 6, 6, 6, 6, 6].append [7, 7, 7, 7, 7, 7, 7, 7, 7, 7, 7, 7, 7, 7, 7, 7, 7, 7, 7, 7, 7, 7, 7, 7, 7, 7, 7, 7, 7, 7, 7, 7, 7, 7, 7, 7, 7, 7, 7, 7, 7, 7, 7, 7, 7, 7, 7, 7, 7, 7, 7, 7, 7, 7, 7, 7, 7, 7, 7, 7, 7, 7, 7, 7]).append ([8, 8, 8, 8, 8, 8, 8, 8, 8, 8, 8, 8, 8, 8, 8, 8, 8, 8, 8, 8, 8, 8, 8, 8, 8, 8, 8, 8, 8, 8, 8, 8, 8, 8, 8, 8, 8, 8, 8, 8, 8, 8, 8, 8, 8, 8, 8, 8, 8, 8, 8, 8, 8, 8, 8, 8, 8, 8, 8, 8, 8, 8, 8, 8].append [8, 8, 8, 8, 8, 8, 8, 8, 8, 8, 8, 8, 8, 8, 8, 8, 8, 8, 8, 8, 8, 8, 8, 8, 8, 8, 8, 8, 8, 8, 8, 8, 8, 8, 8, 8, 8, 8, 8, 8, 8, 8, 8, 8, 8, 8, 8, 8, 8, 8, 8, 8, 8, 8, 8, 8, 8, 8, 8, 8, 8, 8, 8, 8])).toArray)).data.toList.length : Int))) (none) (none)) (cond (decide (0 ≤ IntKind.u8.wrap (((IntKind.u64.wrap (0 - IntKind.u64.wrap a0)).fdiv (2 ^ min (Int.toNat 32) IntKind.u64.bits)).fdiv (2 ^ min (Int.toNat 16) IntKind.u64.bits))) && decide (IntKind.u8.wrap (((IntKind.u64.wrap (0 - IntKind.u64.wrap a0)).fdiv (2 ^ min (Int.toNat 32) IntKind.u64.bits)).fdiv (2 ^ min (Int.toNat 16) IntKind.u64.bits)) < (↑(ByteArray.mk ((([0, 1, 2, 2, 3, 3, 3, 3, 4, 4, 4, 4, 4, 4, 4, 4, 5, 5, 5, 5, 5, 5, 5, 5, 5, 5, 5, 5, 5, 5, 5, 5, 6, 6, 6, 6, 6, 6, 6, 6, 6, 6, 6, 6, 6, 6, 6, 6, 6, 6, 6, 6, 6, 6, 6, 6, 6, 6, 6, 6, 6, 6, 6, 6].append [7, 7, 7, 7, 7, 7, 7, 7, 7, 7, 7, 7, 7, 7, 7, 7, 7, 7, 7, 7, 7, 7, 7, 7, 7, 7, 7, 7, 7, 7, 7, 7, 7, 7, 7, 7, 7, 7, 7, 7, 7, 7, 7, 7, 7, 7, 7, 7, 7, 7, 7, 7, 7, 7, 7, 7, 7, 7, 7, 7, 7, 7, 7, 7]).append ([8, 8, 8, 8, 8, 8, 8, 8, 8, 8, 8, 8, 8, 8, 8, 8, 8, 8, 8, 8, 8, 8, 8, 8, 8, 8, 8, 8, 8, 8, 8, 8, 8, 8, 8, 8, 8, 8, 8, 8, 8, 8, 8, 8, 8, 8, 8, 8, 8, 8, 8, 8, 8, 8, 8, 8, 8, 8, 8, 8, 8, 8, 8, 8].append [8, 8, 8, 8, 8, 8, 8, 8, 8, 8, 8, 8, 8, 8, 8, 8, 8, 8, 8, 8, 8, 8, 8, 8, 8, 8, 8, 8, 8, 8, 8, 8, 8, 8, 8, 8, 8, 8, 8, 8, 8, 8, 8, 8, 8, 8, 8, 8, 8, 8, 8, 8, 8, 8, 8, 8, 8, 8, 8, 8, 8, 8, 8, 8])).toArray)).data.toList.length : Int))) (none) (none))) (cond (decide (256 ≤ (IntKind.u64.wrap (0 - IntKind.u64.wrap a0)).fdiv (2 ^ min (Int.toNat 32) IntKind.u64.bits))) (cond (decide (0 ≤ IntKind.u8.wrap (((IntKind.u64.wrap (0 - IntKind.u64.wrap a0)).fdiv (2 ^ min (Int.toNat 32) IntKind.u64.bits)).fdiv (2 ^ min (Int.toNat 8) IntKind.u64.bits))) && decide (IntKind.u8.wrap (((IntKind.u64.wrap (0 - IntKind.u64.wrap a0)).fdiv (2 ^ min (Int.toNat 32) IntKind.u64.bits)).fdiv (2 ^ min (Int.toNat 8) IntKind.u64.bits)) < (↑(ByteArray.mk ((([0, 1, 2, 2, 3, 3, 3, 3, 4, 4, 4, 4, 4, 4, 4, 4, 5, 5, 5, 5, 5, 5, 5, 5, 5, 5, 5, 5, 5, 5, 5, 5, 6, 6, 6, 6, 6, 6, 6, 6, 6, 6, 6, 6, 6, 6, 6, 6, 6, 6, 6, 6, 6, 6, 6, 6, 6, 6, 6, 6, 6, 6, 6, 6].append [7, 7, 7, 7, 7, 7, 7, 7, 7, 7, 7, 7, 7, 7, 7, 7, 7, 7, 7, 7, 7, 7, 7, 7, 7, 7, 7, 7, 7, 7, 7, 7, 7, 7, 7, 7, 7, 7, 7, 7, 7, 7, 7, 7, 7, 7, 7, 7, 7, 7, 7, 7, 7, 7, 7, 7, 7, 7, 7, 7, 7, 7, 7, 7]).append ([8, 8, 8, 8, 8, 8, 8, 8, 8, 8, 8, 8, 8, 8, 8, 8, 8, 8, 8, 8, 8, 8, 8, 8, 8, 8, 8, 8, 8, 8, 8, 8, 8, 8, 8, 8, 8, 8, 8, 8, 8, 8, 8, 8, 8, 8, 8, 8, 8, 8, 8, 8, 8, 8, 8, 8, 8, 8, 8, 8, 8, 8, 8, 8].append [8, 8, 8, 8, 8, 8, 8, 8, 8, 8, 8, 8, 8, 8, 8, 8, 8, 8, 8, 8, 8, 8, 8, 8, 8, 8, 8, 8, 8, 8, 8, 8, 8, 8, 8, 8, 8, 8, 8, 8, 8, 8, 8, 8, 8, 8, 8, 8, 8, 8, 8, 8, 8, 8, 8, 8, 8, 8, 8, 8, 8, 8, 8, 8])).toArray)).data.toList.length : Int))) (none) (none)) (cond (decide (0 ≤ IntKind.u8.wrap ((IntKind.u64.wrap (0 - IntKind.u64.wrap a0)).fdiv (2 ^ min (Int.toNat 32) IntKind.u64.bits))) && decide (IntKind.u8.wrap ((IntKind.u64.wrap (0 - IntKind.u64.wrap a0)).fdiv (2 ^ min (Int.toNat 32) IntKind.u64.bits)) < (↑(ByteArray.mk ((([0, 1, 2, 2, 3, 3, 3, 3, 4, 4, 4, 4, 4, 4, 4, 4, 5, 5, 5, 5, 5, 5, 5, 5, 5, 5, 5, 5, 5, 5, 5, 5, 6, 6, 6, 6, 6, 6, 6, 6, 6, 6, 6, 6, 6, 6, 6, 6, 6, 6, 6, 6, 6, 6, 6, 6, 6, 6, 6, 6, 6, 6, 6, 6].append [7, 7, 7, 7, 7, 7, 7, 7, 7, 7, 7, 7, 7, 7, 7, 7, 7, 7, 7, 7, 7, 7, 7, 7, 7, 7, 7, 7, 7, 7, 7, 7, 7, 7, 7, 7, 7, 7, 7, 7, 7, 7, 7, 7, 7, 7, 7, 7, 7, 7, 7, 7, 7, 7, 7, 7, 7, 7, 7, 7, 7, 7, 7, 7]).append ([8, 8, 8, 8, 8, 8, 8, 8, 8, 8, 8, 8, 8, 8, 8, 8, 8, 8, 8, 8, 8, 8, 8, 8, 8, 8, 8, 8, 8, 8, 8, 8, 8, 8, 8, 8, 8, 8, 8, 8, 8, 8, 8, 8, 8, 8, 8, 8, 8, 8, 8, 8, 8, 8, 8, 8, 8, 8, 8, 8, 8, 8, 8, 8].append [8, 8, 8, 8, 8, 8, 8, 8, 8, 8, 8, 8, 8, 8, 8, 8, 8, 8, 8, 8, 8, 8, 8, 8, 8, 8, 8, 8, 8, 8, 8, 8, 8, 8, 8, 8, 8, 8, 8, 8, 8, 8, 8, 8, 8, 8, 8, 8, 8, 8, 8, 8, 8, 8, 8, 8, 8, 8, 8, 8, 8, 8, 8, 8])).toArray)).data.toList.length : Int))) (none) (none)))) (cond (decide (65536 ≤ IntKind.u64.wrap (0 - IntKind.u64.wrap a0))) (cond (decide (256 ≤ (IntKind.u64.wrap (0 - IntKind.u64.wrap a0)).fdiv (2 ^ min (Int.toNat 16) IntKind.u64.bits))) (cond (decide (0 ≤ IntKind.u8.wrap (((IntKind.u64.wrap (0 - IntKind.u64.wrap a0)).fdiv (2 ^ min (Int.toNat 16) IntKind.u64.bits)).fdiv (2 ^ min (Int.toNat 8) IntKind.u64.bits))) && decide (IntKind.u8.wrap (((IntKind.u64.wrap (0 - IntKind.u64.wrap a0)).fdiv (2 ^ min (Int.toNat 16) IntKind.u64.bits)).fdiv (2 ^ min (Int.toNat 8) IntKind.u64.bits)) < (↑(ByteArray.mk ((([0, 1, 2, 2, 3, 3, 3, 3, 4, 4, 4, 4, 4, 4, 4, 4, 5, 5, 5, 5, 5, 5, 5, 5, 5, 5, 5, 5, 5, 5, 5, 5, 6, 6, 6, 6, 6, 6, 6, 6, 6, 6, 6, 6, 6, 6, 6, 6, 6, 6, 6, 6, 6, 6, 6, 6, 6, 6, 6, 6, 6, 6, 6, 6].append [7, 7, 7, 7, 7, 7, 7, 7, 7, 7, 7, 7, 7, 7, 7, 7, 7, 7, 7, 7, 7, 7, 7, 7, 7, 7, 7, 7, 7, 7, 7, 7, 7, 7, 7, 7, 7, 7, 7, 7, 7, 7, 7, 7, 7, 7, 7, 7, 7, 7, 7, 7, 7, 7, 7, 7, 7, 7, 7, 7, 7, 7, 7, 7]).append ([8, 8, 8, 8, 8, 8, 8, 8, 8, 8, 8, 8, 8, 8, 8, 8, 8, 8, 8, 8, 8, 8, 8, 8, 8, 8, 8, 8, 8, 8, 8, 8, 8, 8, 8, 8, 8, 8, 8, 8, 8, 8, 8, 8, 8, 8, 8, 8, 8, 8, 8, 8, 8, 8, 8, 8, 8, 8, 8, 8, 8, 8, 8, 8].append [8, 8, 8, 8, 8, 8, 8, 8, 8, 8, 8, 8, 8, 8, 8, 8, 8, 8, 8, 8, 8, 8, 8, 8, 8, 8, 8, 8, 8, 8, 8, 8, 8, 8, 8, 8, 8, 8, 8, 8, 8, 8, 8, 8, 8, 8, 8, 8, 8, 8, 8, 8, 8, 8, 8, 8, 8, 8, 8, 8, 8, 8, 8, 8])).toArray)).data.toList.length : Int))) (none) (none)) (cond (decide (0 ≤ IntKind.u8.wrap ((IntKind.u64.wrap (0 - IntKind.u64.wrap a0)).fdiv (2 ^ min (Int.toNat 16) IntKind.u64.bits))) && decide (IntKind.u8.wrap ((IntKind.u64.wrap (0 - IntKind.u64.wrap a0)).fdiv (2 ^ min (Int.toNat 16) IntKind.u64.bits)) < (↑(ByteArray.mk ((([0, 1, 2, 2, 3, 3, 3, 3, 4, 4, 4, 4, 4, 4, 4, 4, 5, 5, 5, 5, 5, 5, 5, 5, 5, 5, 5, 5, 5, 5, 5, 5, 6, 6, 6, 6, 6, 6, 6, 6, 6, 6, 6, 6, 6, 6, 6, 6, 6, 6, 6, 6, 6, 6, 6, 6, 6, 6, 6, 6, 6, 6, 6, 6].append [7, 7, 7, 7, 7, 7, 7, 7, 7, 7, 7, 7, 7, 7, 7, 7, 7, 7, 7, 7, 7, 7, 7, 7, 7, 7, 7, 7, 7, 7, 7, 7, 7, 7, 7, 7, 7, 7, 7, 7, 7, 7, 7, 7, 7, 7, 7, 7, 7, 7, 7, 7, 7, 7, 7, 7, 7, 7, 7, 7, 7, 7, 7, 7]).append ([8, 8, 8, 8, 8, 8, 8, 8, 8, 8, 8, 8, 8, 8, 8, 8, 8, 8, 8, 8, 8, 8, 8, 8, 8, 8, 8, 8, 8, 8, 8, 8, 8, 8, 8, 8, 8, 8, 8, 8, 8, 8, 8, 8, 8, 8, 8, 8, 8, 8, 8, 8, 8, 8, 8, 8, 8, 8, 8, 8, 8, 8, 8, 8].append [8, 8, 8, 8, 8, 8, 8, 8, 8, 8, 8, 8, 8, 8, 8, 8, 8, 8, 8, 8, 8, 8, 8, 8, 8, 8, 8, 8, 8, 8, 8, 8, 8, 8, 8, 8, 8, 8, 8, 8, 8, 8, 8, 8, 8, 8, 8, 8, 8, 8, 8, 8, 8, 8, 8, 8, 8, 8, 8, 8, 8, 8, 8, 8])).toArray)).data.toList.length : Int))) (none) (none))) (cond (decide (256 ≤ IntKind.u64.wrap (0 - IntKind.u64.wrap a0))) (cond (decide (0 ≤ IntKind.u8.wrap ((IntKind.u64.wrap (0 - IntKind.u64.wrap a0)).fdiv (2 ^ min (Int.toNat 8) IntKind.u64.bits))) && decide (IntKind.u8.wrap ((IntKind.u64.wrap (0 - IntKind.u64.wrap a0)).fdiv (2 ^ min (Int.toNat 8) IntKind.u64.bits)) < (↑(ByteArray.mk ((([0, 1, 2, 2, 3, 3, 3, 3, 4, 4, 4, 4, 4, 4, 4, 4, 5, 5, 5, 5, 5, 5, 5, 5, 5, 5, 5, 5, 5, 5, 5, 5, 6, 6, 6, 6, 6, 6, 6, 6, 6, 6, 6, 6, 6, 6, 6, 6, 6, 6, 6, 6, 6, 6, 6, 6, 6, 6, 6, 6, 6, 6, 6, 6].append [7, 7, 7, 7, 7, 7, 7, 7, 7, 7, 7, 7, 7, 7, 7, 7, 7, 7, 7, 7, 7, 7, 7, 7, 7, 7, 7, 7, 7, 7, 7, 7, 7, 7, 7, 7, 7, 7, 7, 7, 7, 7, 7, 7, 7, 7, 7, 7, 7, 7, 7, 7, 7, 7, 7, 7, 7, 7, 7, 7, 7, 7, 7, 7]).append ([8, 8, 8, 8, 8, 8, 8, 8, 8, 8, 8, 8, 8, 8, 8, 8, 8, 8, 8, 8, 8, 8, 8, 8, 8, 8, 8, 8, 8, 8, 8, 8, 8, 8, 8, 8, 8, 8, 8, 8, 8, 8, 8, 8, 8, 8, 8, 8, 8, 8, 8, 8, 8, 8, 8, 8, 8, 8, 8, 8, 8, 8, 8, 8].append [8, 8, 8, 8, 8, 8, 8, 8, 8, 8, 8, 8, 8, 8, 8, 8, 8, 8, 8, 8, 8, 8, 8, 8, 8, 8, 8, 8, 8, 8, 8, 8, 8, 8, 8, 8, 8, 8, 8, 8, 8, 8, 8, 8, 8, 8, 8, 8, 8, 8, 8, 8, 8, 8, 8, 8, 8, 8, 8, 8, 8, 8, 8, 8])).toArray)).data.toList.length : Int))) (none) (none)) (cond (decide (0 ≤ IntKind.u8.wrap (IntKind.u64.wrap (0 - IntKind.u64.wrap a0))) && decide (IntKind.u8.wrap (IntKind.u64.wrap (0 - IntKind.u64.wrap a0)) < (↑(ByteArray.mk ((([0, 1, 2, 2, 3, 3, 3, 3, 4, 4, 4, 4, 4, 4, 4, 4, 5, 5, 5, 5, 5, 5, 5, 5, 5, 5, 5, 5, 5, 5, 5, 5, 6, 6, 6, 6, 6, 6, 6, 6, 6, 6, 6, 6, 6, 6, 6, 6, 6, 6, 6, 6, 6, 6, 6, 6, 6, 6, 6, 6, 6, 6, 6, 6].append [7, 7, 7, 7, 7, 7, 7, 7, 7, 7, 7, 7, 7, 7, 7, 7, 7, 7, 7, 7, 7, 7, 7, 7, 7, 7, 7, 7, 7, 7, 7, 7, 7, 7, 7, 7, 7, 7, 7, 7, 7, 7, 7, 7, 7, 7, 7, 7, 7, 7, 7, 7, 7, 7, 7, 7, 7, 7, 7, 7, 7, 7, 7, 7]).append ([8, 8, 8, 8, 8, 8, 8, 8, 8, 8, 8, 8, 8, 8, 8, 8, 8, 8, 8, 8, 8, 8, 8, 8, 8, 8, 8, 8, 8, 8, 8, 8, 8, 8, 8, 8, 8, 8, 8, 8, 8, 8, 8, 8, 8, 8, 8, 8, 8, 8, 8, 8, 8, 8, 8, 8, 8, 8, 8, 8, 8, 8, 8, 8].append [8, 8, 8, 8, 8, 8, 8, 8, 8, 8, 8, 8, 8, 8, 8, 8, 8, 8, 8, 8, 8, 8, 8, 8, 8, 8, 8, 8, 8, 8, 8, 8, 8, 8, 8, 8, 8, 8, 8, 8, 8, 8, 8, 8, 8, 8, 8, 8, 8, 8, 8, 8, 8, 8, 8, 8, 8, 8, 8, 8, 8, 8, 8, 8])).toArray)).data.toList.length : Int))) (none) (none))))) (cond (decide (4294967296 ≤ IntKind.u64.wrap a0)) (cond (decide (65536 ≤ (IntKind.u64.wrap a0).fdiv (2 ^ min (Int.toNat 32) IntKind.u64.bits))) (cond (decide (256 ≤ ((IntKind.u64.wrap a0).fdiv (2 ^ min (Int.toNat 32) IntKind.u64.bits)).fdiv (2 ^ min (Int.toNat 16) IntKind.u64.bits))) (cond (decide (0 ≤ IntKind.u8.wrap ((((IntKind.u64.wrap a0).fdiv (2 ^ min (Int.toNat 32) IntKind.u64.bits)).fdiv (2 ^ min (Int.toNat 16) IntKind.u64.bits)).fdiv (2 ^ min (Int.toNat 8) IntKind.u64.bits))) && decide (IntKind.u8.wrap ((((IntKind.u64.wrap a0).fdiv (2 ^ min (Int.toNat 32) IntKind.u64.bits)).fdiv (2 ^ min (Int.toNat 16) IntKind.u64.bits)).fdiv (2 ^ min (Int.toNat 8) IntKind.u64.bits)) < (↑(ByteArray.mk ((([0, 1, 2, 2, 3, 3, 3, 3, 4, 4, 4, 4, 4, 4, 4, 4, 5, 5, 5, 5, 5, 5, 5, 5, 5, 5, 5, 5, 5, 5, 5, 5, 6, 6, 6, 6, 6, 6, 6, 6, 6, 6, 6, 6, 6, 6, 6, 6, 6, 6, 6, 6, 6, 6, 6, 6, 6, 6, 6, 6, 6, 6, 6, 6].append [7, 7, 7, 7, 7, 7, 7, 7, 7, 7, 7, 7, 7, 7, 7, 7, 7, 7, 7, 7, 7, 7, 7, 7, 7, 7, 7, 7, 7, 7, 7, 7, 7, 7, 7, 7, 7, 7, 7, 7, 7, 7, 7, 7, 7, 7, 7, 7, 7, 7, 7, 7, 7, 7, 7, 7, 7, 7, 7, 7, 7, 7, 7, 7]).append ([8, 8, 8, 8, 8, 8, 8, 8, 8, 8, 8, 8, 8, 8, 8, 8, 8, 8, 8, 8, 8, 8, 8, 8, 8, 8, 8, 8, 8, 8, 8, 8, 8, 8, 8, 8, 8, 8, 8, 8, 8, 8, 8, 8, 8, 8, 8, 8, 8, 8, 8, 8, 8, 8, 8, 8, 8, 8, 8, 8, 8, 8, 8, 8].append [8, 8, 8, 8, 8, 8, 8, 8, 8, 8, 8, 8, 8, 8, 8, 8, 8, 8, 8, 8, 8, 8, 8, 8, 8, 8, 8, 8, 8, 8, 8, 8, 8, 8, 8, 8, 8, 8, 8, 8, 8, 8, 8, 8, 8, 8, 8, 8, 8, 8, 8, 8, 8, 8, 8, 8, 8, 8, 8, 8, 8, 8, 8, 8])).toArray)).data.toList.length : Int))) (none) (none)) (cond (decide (0 ≤ IntKind.u8.wrap (((IntKind.u64.wrap a0).fdiv (2 ^ min (Int.toNat 32) IntKind.u64.bits)).fdiv (2 ^ min (Int.toNat 16) IntKind.u64.bits))) && decide (IntKind.u8.wrap (((IntKind.u64.wrap a0).fdiv (2 ^ min (Int.toNat 32) IntKind.u64.bits)).fdiv (2 ^ min (Int.toNat 16) IntKind.u64.bits)) < (↑(ByteArray.mk ((([0, 1, 2, 2, 3, 3, 3, 3, 4, 4, 4, 4, 4, 4, 4, 4, 5, 5, 5, 5, 5, 5, 5, 5, 5, 5, 5, 5, 5, 5, 5, 5, 6, 6, 6, 6, 6, 6, 6, 6, 6, 6, 6, 6, 6, 6, 6, 6, 6, 6, 6, 6, 6, 6, 6, 6, 6, 6, 6, 6, 6, 6, 6, 6].append [7, 7, 7, 7, 7, 7, 7, 7, 7, 7, 7, 7, 7, 7, 7, 7, 7, 7, 7, 7, 7, 7, 7, 7, 7, 7, 7, 7, 7, 7, 7, 7, 7, 7, 7, 7, 7, 7, 7, 7, 7, 7, 7, 7, 7, 7, 7, 7, 7, 7, 7, 7, 7, 7, 7, 7, 7, 7, 7, 7, 7, 7, 7, 7]).append ([8, 8, 8, 8, 8, 8, 8, 8, 8, 8, 8, 8, 8, 8, 8, 8, 8, 8, 8, 8, 8, 8, 8, 8, 8, 8, 8, 8, 8, 8, 8, 8, 8, 8, 8, 8, 8, 8, 8, 8, 8, 8, 8, 8, 8, 8, 8, 8, 8, 8, 8, 8, 8, 8, 8, 8, 8, 8, 8, 8, 8, 8, 8, 8].append [8, 8, 8, 8, 8, 8, 8, 8, 8, 8, 8, 8, 8, 8, 8, 8, 8, 8, 8, 8, 8, 8, 8, 8, 8, 8, 8, 8, 8, 8, 8, 8, 8, 8, 8, 8, 8, 8, 8, 8, 8, 8, 8, 8, 8, 8, 8, 8, 8, 8, 8, 8, 8, 8, 8, 8, 8, 8, 8, 8, 8, 8, 8, 8])).toArray)).data.toList.length : Int))) (none) (none))) (cond (decide (256 ≤ (IntKind.u64.wrap a0).fdiv (2 ^ min (Int.toNat 32) IntKind.u64.bits))) (cond (decide (0 ≤ IntKind.u8.wrap (((IntKind.u64.wrap a0).fdiv (2 ^ min (Int.toNat 32) IntKind.u64.bits)).fdiv (2 ^ min (Int.toNat 8) IntKind.u64.bits))) && decide (IntKind.u8.wrap (((IntKind.u64.wrap a0).fdiv (2 ^ min (Int.toNat 32) IntKind.u64.bits)).fdiv (2 ^ min (Int.toNat 8) IntKind.u64.bits)) < (↑(ByteArray.mk ((([0, 1, 2, 2, 3, 3, 3, 3, 4, 4, 4, 4, 4, 4, 4, 4, 5, 5, 5, 5, 5, 5, 5, 5, 5, 5, 5, 5, 5, 5, 5, 5, 6, 6, 6, 6, 6, 6, 6, 6, 6, 6, 6, 6, 6, 6, 6, 6, 6, 6, 6, 6, 6, 6, 6, 6, 6, 6, 6, 6, 6, 6, 6, 6].append [7, 7, 7, 7, 7, 7, 7, 7, 7, 7, 7, 7, 7, 7, 7, 7, 7, 7, 7, 7, 7, 7, 7, 7, 7, 7, 7, 7, 7, 7, 7, 7, 7, 7, 7, 7, 7, 7, 7, 7, 7, 7, 7, 7, 7, 7, 7, 7, 7, 7, 7, 7, 7, 7, 7, 7, 7, 7, 7, 7, 7, 7, 7, 7]).append ([8, 8, 8, 8, 8, 8, 8, 8, 8, 8, 8, 8, 8, 8, 8, 8, 8, 8, 8, 8, 8, 8, 8, 8, 8, 8, 8, 8, 8, 8, 8, 8, 8, 8, 8, 8, 8, 8, 8, 8, 8, 8, 8, 8, 8, 8, 8, 8, 8, 8, 8, 8, 8, 8, 8, 8, 8, 8, 8, 8, 8, 8, 8, 8].append [8, 8, 8, 8, 8, 8, 8, 8, 8, 8, 8, 8, 8, 8, 8, 8, 8, 8, 8, 8, 8, 8, 8, 8, 8, 8, 8, 8, 8, 8, 8, 8, 8, 8, 8, 8, 8, 8, 8, 8, 8, 8, 8, 8, 8, 8, 8, 8, 8, 8, 8, 8, 8, 8, 8, 8, 8, 8, 8, 8, 8, 8, 8, 8])).toArray)).data.toList.length : Int))) (none) (none)) (cond (decide (0 ≤ IntKind.u8.wrap ((IntKind.u64.wrap a0).fdiv (2 ^ min (Int.toNat 32) IntKind.u64.bits))) && decide (IntKind.u8.wrap ((IntKind.u64.wrap a0).fdiv (2 ^ min (Int.toNat 32) IntKind.u64.bits)) < (↑(ByteArray.mk ((([0, 1, 2, 2, 3, 3, 3, 3, 4, 4, 4, 4, 4, 4, 4, 4, 5, 5, 5, 5, 5, 5, 5, 5, 5, 5, 5, 5, 5, 5, 5, 5, 6, 6, 6, 6, 6, 6, 6, 6, 6, 6, 6, 6, 6, 6, 6, 6, 6, 6, 6, 6, 6, 6, 6, 6, 6, 6, 6, 6, 6, 6, 6, 6].append [7, 7, 7, 7, 7, 7, 7, 7, 7, 7, 7, 7, 7, 7, 7, 7, 7, 7, 7, 7, 7, 7, 7, 7, 7, 7, 7, 7, 7, 7, 7, 7, 7, 7, 7, 7, 7, 7, 7, 7, 7, 7, 7, 7, 7, 7, 7, 7, 7, 7, 7, 7, 7, 7, 7, 7, 7, 7, 7, 7, 7, 7, 7, 7]).append ([8, 8, 8, 8, 8, 8, 8, 8, 8, 8, 8, 8, 8, 8, 8, 8, 8, 8, 8, 8, 8, 8, 8, 8, 8, 8, 8, 8, 8, 8, 8, 8, 8, 8, 8, 8, 8, 8, 8, 8, 8, 8, 8, 8, 8, 8, 8, 8, 8, 8, 8, 8, 8, 8, 8, 8, 8, 8, 8, 8, 8, 8, 8, 8].append [8, 8, 8, 8, 8, 8, 8, 8, 8, 8, 8, 8, 8, 8, 8, 8, 8, 8, 8, 8, 8, 8, 8, 8, 8, 8, 8, 8, 8, 8, 8, 8, 8, 8, 8, 8, 8, 8, 8, 8, 8, 8, 8, 8, 8, 8, 8, 8, 8, 8, 8, 8, 8, 8, 8, 8, 8, 8, 8, 8, 8, 8, 8, 8])).toArray)).data.toList.length : Int))) (none) (none)))) (cond (decide (65536 ≤ IntKind.u64.wrap a0)) (cond (decide (256 ≤ (IntKind.u64.wrap a0).fdiv (2 ^ min (Int.toNat 16) IntKind.u64.bits))) (cond (decide (0 ≤ IntKind.u8.wrap (((IntKind.u64.wrap a0).fdiv (2 ^ min (Int.toNat 16) IntKind.u64.bits)).fdiv (2 ^ min (Int.toNat 8) IntKind.u64.bits))) && decide (IntKind.u8.wrap (((IntKind.u64.wrap a0).fdiv (2 ^ min (Int.toNat 16) IntKind.u64.bits)).fdiv (2 ^ min (Int.toNat 8) IntKind.u64.bits)) < (↑(ByteArray.mk ((([0, 1, 2, 2, 3, 3, 3, 3, 4, 4, 4, 4, 4, 4, 4, 4, 5, 5, 5, 5, 5, 5, 5, 5, 5, 5, 5, 5, 5, 5, 5, 5, 6, 6, 6, 6, 6, 6, 6, 6, 6, 6, 6, 6, 6, 6, 6, 6, 6, 6, 6, 6, 6, 6, 6, 6, 6, 6, 6, 6, 6, 6, 6, 6].append [7, 7, 7, 7, 7, 7, 7, 7, 7, 7, 7, 7, 7, 7, 7, 7, 7, 7, 7, 7, 7, 7, 7, 7, 7, 7, 7, 7, 7, 7, 7, 7, 7, 7, 7, 7, 7, 7, 7, 7, 7, 7, 7, 7, 7, 7, 7, 7, 7, 7, 7, 7, 7, 7, 7, 7, 7, 7, 7, 7, 7, 7, 7, 7]).append ([8, 8, 8, 8, 8, 8, 8, 8, 8, 8, 8, 8, 8, 8, 8, 8, 8, 8, 8, 8, 8, 8, 8, 8, 8, 8, 8, 8, 8, 8, 8, 8, 8, 8, 8, 8, 8, 8, 8, 8, 8, 8, 8, 8, 8, 8, 8, 8, 8, 8, 8, 8, 8, 8, 8, 8, 8, 8, 8, 8, 8, 8, 8, 8].append [8, 8, 8, 8, 8, 8, 8, 8, 8, 8, 8, 8, 8, 8, 8, 8, 8, 8, 8, 8, 8, 8, 8, 8, 8, 8, 8, 8, 8, 8, 8, 8, 8, 8, 8, 8, 8, 8, 8, 8, 8, 8, 8, 8, 8, 8, 8, 8, 8, 8, 8, 8, 8, 8, 8, 8, 8, 8, 8, 8, 8, 8, 8, 8])).toArray)).data.toList.length : Int))) (none) (none)) (cond (decide (0 ≤ IntKind.u8.wrap ((IntKind.u64.wrap a0).fdiv (2 ^ min (Int.toNat 16) IntKind.u64.bits))) && decide (IntKind.u8.wrap ((IntKind.u64.wrap a0).fdiv (2 ^ min (Int.toNat 16) IntKind.u64.bits)) < (↑(ByteArray.mk ((([0, 1, 2, 2, 3, 3, 3, 3, 4, 4, 4, 4, 4, 4, 4, 4, 5, 5, 5, 5, 5, 5, 5, 5, 5, 5, 5, 5, 5, 5, 5, 5, 6, 6, 6, 6, 6, 6, 6, 6, 6, 6, 6, 6, 6, 6, 6, 6, 6, 6, 6, 6, 6, 6, 6, 6, 6, 6, 6, 6, 6, 6, 6, 6].append [7, 7, 7, 7, 7, 7, 7, 7, 7, 7, 7, 7, 7, 7, 7, 7, 7, 7, 7, 7, 7, 7, 7, 7, 7, 7, 7, 7, 7, 7, 7, 7, 7, 7, 7, 7, 7, 7, 7, 7, 7, 7, 7, 7, 7, 7, 7, 7, 7, 7, 7, 7, 7, 7, 7, 7, 7, 7, 7, 7, 7, 7, 7, 7]).append ([8, 8, 8, 8, 8, 8, 8, 8, 8, 8, 8, 8, 8, 8, 8, 8, 8, 8, 8, 8, 8, 8, 8, 8, 8, 8, 8, 8, 8, 8, 8, 8, 8, 8, 8, 8, 8, 8, 8, 8, 8, 8, 8, 8, 8, 8, 8, 8, 8, 8, 8, 8, 8, 8, 8, 8, 8, 8, 8, 8, 8, 8, 8, 8].append [8, 8, 8, 8, 8, 8, 8, 8, 8, 8, 8, 8, 8, 8, 8, 8, 8, 8, 8, 8, 8, 8, 8, 8, 8, 8, 8, 8, 8, 8, 8, 8, 8, 8, 8, 8, 8, 8, 8, 8, 8, 8, 8, 8, 8, 8, 8, 8, 8, 8, 8, 8, 8, 8, 8, 8, 8, 8, 8, 8, 8, 8, 8, 8])).toArray)).data.toList.length : Int))) (none) (none))) (cond (decide (256 ≤ IntKind.u64.wrap a0)) (cond (decide (0 ≤ IntKind.u8.wrap ((IntKind.u64.wrap a0).fdiv (2 ^ min (Int.toNat 8) IntKind.u64.bits))) && decide (IntKind.u8.wrap ((IntKind.u64.wrap a0).fdiv (2 ^ min (Int.toNat 8) IntKind.u64.bits)) < (↑(ByteArray.mk ((([0, 1, 2, 2, 3, 3, 3, 3, 4, 4, 4, 4, 4, 4, 4, 4, 5, 5, 5, 5, 5, 5, 5, 5, 5, 5, 5, 5, 5, 5, 5, 5, 6, 6, 6, 6, 6, 6, 6, 6, 6, 6, 6, 6, 6, 6, 6, 6, 6, 6, 6, 6, 6, 6, 6, 6, 6, 6, 6, 6, 6, 6, 6, 6].append [7, 7, 7, 7, 7, 7, 7, 7, 7, 7, 7, 7, 7, 7, 7, 7, 7, 7, 7, 7, 7, 7, 7, 7, 7, 7, 7, 7, 7, 7, 7, 7, 7, 7, 7, 7, 7, 7, 7, 7, 7, 7, 7, 7, 7, 7, 7, 7, 7, 7, 7, 7, 7, 7, 7, 7, 7, 7, 7, 7, 7, 7, 7, 7]).append ([8, 8, 8, 8, 8, 8, 8, 8, 8, 8, 8, 8, 8, 8, 8, 8, 8, 8, 8, 8, 8, 8, 8, 8, 8, 8, 8, 8, 8, 8, 8, 8, 8, 8, 8, 8, 8, 8, 8, 8, 8, 8, 8, 8, 8, 8, 8, 8, 8, 8, 8, 8, 8, 8, 8, 8, 8, 8, 8, 8, 8, 8, 8, 8].append [8, 8, 8, 8, 8, 8, 8, 8, 8, 8, 8, 8, 8, 8, 8, 8, 8, 8, 8, 8, 8, 8, 8, 8, 8, 8, 8, 8, 8, 8, 8, 8, 8, 8, 8, 8, 8, 8, 8, 8, 8, 8, 8, 8, 8, 8, 8, 8, 8, 8, 8, 8, 8, 8, 8, 8, 8, 8, 8, 8, 8, 8, 8, 8])).toArray)).data.toList.length : Int))) (none) (none)) (cond (decide (0 ≤ IntKind.u8.wrap (IntKind.u64.wrap a0)) && decide (IntKind.u8.wrap (IntKind.u64.wrap a0) < (↑(ByteArray.mk ((([0, 1, 2, 2, 3, 3, 3, 3, 4, 4, 4, 4, 4, 4, 4, 4, 5, 5, 5, 5, 5, 5, 5, 5, 5, 5, 5, 5, 5, 5, 5, 5, 6, 6, 6, 6, 6, 6, 6, 6, 6, 6, 6, 6, 6, 6, 6, 6, 6, 6, 6, 6, 6, 6, 6, 6, 6, 6, 6, 6, 6, 6, 6, 6].append [7, 7, 7, 7, 7, 7, 7, 7, 7, 7, 7, 7, 7, 7, 7, 7, 7, 7, 7, 7, 7, 7, 7, 7, 7, 7, 7, 7, 7, 7, 7, 7, 7, 7, 7, 7, 7, 7, 7, 7, 7, 7, 7, 7, 7, 7, 7, 7, 7, 7, 7, 7, 7, 7, 7, 7, 7, 7, 7, 7, 7, 7, 7, 7]).append ([8, 8, 8, 8, 8, 8, 8, 8, 8, 8, 8, 8, 8, 8, 8, 8, 8, 8, 8, 8, 8, 8, 8, 8, 8, 8, 8, 8, 8, 8, 8, 8, 8, 8, 8, 8, 8, 8, 8, 8, 8, 8, 8, 8, 8, 8, 8, 8, 8, 8, 8, 8, 8, 8, 8, 8, 8, 8, 8, 8, 8, 8, 8, 8].append [8, 8, 8, 8, 8, 8, 8, 8, 8, 8, 8, 8, 8, 8, 8, 8, 8, 8, 8, 8, 8, 8, 8, 8, 8, 8, 8, 8, 8, 8, 8, 8, 8, 8, 8, 8, 8, 8, 8, 8, 8, 8, 8, 8, 8, 8, 8, 8, 8, 8, 8, 8, 8, 8, 8, 8, 8, 8, 8, 8, 8, 8, 8, 8])).toArray)).data.toList.length : Int))) (none) (none))))))) (cond (decide (a0 < 0)) (cond (decide (4294967296 ≤ IntKind.u64.wrap (0 - IntKind.u64.wrap a0))) (cond (decide (65536 ≤ (IntKind.u64.wrap (0 - IntKind.u64.wrap a0)).fdiv (2 ^ min (Int.toNat 32) IntKind.u64.bits))) (cond (decide (256 ≤ ((IntKind.u64.wrap (0 - IntKind.u64.wrap a0)).fdiv (2 ^ min (Int.toNat 32) IntKind.u64.bits)).fdiv (2 ^ min (Int.toNat 16) IntKind.u64.bits))) (cond (decide (0 ≤ IntKind.u8.wrap ((((IntKind.u64.wrap (0 - IntKind.u64.wrap a0)).fdiv (2 ^ min (Int.toNat 32) IntKind.u64.bits)).fdiv (2 ^ min (Int.toNat 16) IntKind.u64.bits)).fdiv (2 ^ min (Int.toNat 8) IntKind.u64.bits))) && decide (IntKind.u8.wrap ((((IntKind.u64.wrap (0 - IntKind.u64.wrap a0)).fdiv (2 ^ min (Int.toNat 32) IntKind.u64.bits)).fdiv (2 ^ min (Int.toNat 16) IntKind.u64.bits)).fdiv (2 ^ min (Int.toNat 8) IntKind.u64.bits)) < (↑(ByteArray.mk ((([0, 1, 2, 2, 3, 3, 3, 3, 4, 4, 4, 4, 4, 4, 4, 4, 5, 5, 5, 5, 5, 5, 5, 5, 5, 5, 5, 5, 5, 5, 5, 5, 6, 6, 6, 6, 6, 6, 6, 6, 6, 6, 6, 6, 6, 6, 6, 6, 6, 6, 6, 6, 6, 6, 6, 6, 6, 6, 6, 6, 6, 6, 6, 6].append [7, 7, 7, 7, 7, 7, 7, 7, 7, 7, 7, 7, 7, 7, 7, 7, 7, 7, 7, 7, 7, 7, 7, 7, 7, 7, 7, 7, 7, 7, 7, 7, 7, 7, 7, 7, 7, 7, 7, 7, 7, 7, 7, 7, 7, 7, 7, 7, 7, 7, 7, 7, 7, 7, 7, 7, 7, 7, 7, 7, 7, 7, 7, 7]).append ([8, 8, 8, 8, 8, 8, 8, 8, 8, 8, 8, 8, 8, 8, 8, 8, 8, 8, 8, 8, 8, 8, 8, 8, 8, 8, 8, 8, 8, 8, 8, 8, 8, 8, 8, 8, 8, 8, 8, 8, 8, 8, 8, 8, 8, 8, 8, 8, 8, 8, 8, 8, 8, 8, 8, 8, 8, 8, 8, 8, 8, 8, 8, 8].append [8, 8, 8, 8, 8, 8, 8, 8, 8, 8, 8, 8, 8, 8, 8, 8, 8, 8, 8, 8, 8, 8, 8, 8, 8, 8, 8, 8, 8, 8, 8, 8, 8, 8, 8, 8, 8, 8, 8, 8, 8, 8, 8, 8, 8, 8, 8, 8, 8, 8, 8, 8, 8, 8, 8, 8, 8, 8, 8, 8, 8, 8, 8, 8])).toArray)).data.toList.length : Int))) (none) (none)) (cond (decide (0 ≤ IntKind.u8.wrap (((IntKind.u64.wrap (0 - IntKind.u64.wrap a0)).fdiv (2 ^ min (Int.toNat 32) IntKind.u64.bits)).fdiv (2 ^ min (Int.toNat 16) IntKind.u64.bits))) && decide (IntKind.u8.wrap (((IntKind.u64.wrap (0 - IntKind.u64.wrap a0)).fdiv (2 ^ min (Int.toNat 32) IntKind.u64.bits)).fdiv (2 ^ min (Int.toNat 16) IntKind.u64.bits)) < (↑(ByteArray.mk ((([0, 1, 2, 2, 3, 3, 3, 3, 4, 4, 4, 4, 4, 4, 4, 4, 5, 5, 5, 5, 5, 5, 5, 5, 5, 5, 5, 5, 5, 5, 5, 5, 6, 6, 6, 6, 6, 6, 6, 6, 6, 6, 6, 6, 6, 6, 6, 6, 6, 6, 6, 6, 6, 6, 6, 6, 6, 6, 6, 6, 6, 6, 6, 6].append [7, 7, 7, 7, 7, 7, 7, 7, 7, 7, 7, 7, 7, 7, 7, 7, 7, 7, 7, 7, 7, 7, 7, 7, 7, 7, 7, 7, 7, 7, 7, 7, 7, 7, 7, 7, 7, 7, 7, 7, 7, 7, 7, 7, 7, 7, 7, 7, 7, 7, 7, 7, 7, 7, 7, 7, 7, 7, 7, 7, 7, 7, 7, 7]).append ([8, 8, 8, 8, 8, 8, 8, 8, 8, 8, 8, 8, 8, 8, 8, 8, 8, 8, 8, 8, 8, 8, 8, 8, 8, 8, 8, 8, 8, 8, 8, 8, 8, 8, 8, 8, 8, 8, 8, 8, 8, 8, 8, 8, 8, 8, 8, 8, 8, 8, 8, 8, 8, 8, 8, 8, 8, 8, 8, 8, 8, 8, 8, 8].append [8, 8, 8, 8, 8, 8, 8, 8, 8, 8, 8, 8, 8, 8, 8, 8, 8, 8, 8, 8, 8, 8, 8, 8, 8, 8, 8, 8, 8, 8, 8, 8, 8, 8, 8, 8, 8, 8, 8, 8, 8, 8, 8, 8, 8, 8, 8, 8, 8, 8, 8, 8, 8, 8, 8, 8, 8, 8, 8, 8, 8, 8, 8, 8])).toArray)).data.toList.length : Int))) (none) (none))) (cond (decide (256 ≤ (IntKind.u64.wrap (0 - IntKind.u64.wrap a0)).fdiv (2 ^ min (Int.toNat 32) IntKind.u64.bits))) (cond (decide (0 ≤ IntKind.u8.wrap (((IntKind.u64.wrap (0 - IntKind.u64.wrap a0)).fdiv (2 ^ min (Int.toNat 32) IntKind.u64.bits)).fdiv (2 ^ min (Int.toNat 8) IntKind.u64.bits))) && decide (IntKind.u8.wrap (((IntKind.u64.wrap (0 - IntKind.u64.wrap a0)).fdiv (2 ^ min (Int.toNat 32) IntKind.u64.bits)).fdiv (2 ^ min (Int.toNat 8) IntKind.u64.bits)) < (↑(ByteArray.mk ((([0, 1, 2, 2, 3, 3, 3, 3, 4, 4, 4, 4, 4, 4, 4, 4, 5, 5, 5, 5, 5, 5, 5, 5, 5, 5, 5, 5, 5, 5, 5, 5, 6, 6, 6, 6, 6, 6, 6, 6, 6, 6, 6, 6, 6, 6, 6, 6, 6, 6, 6, 6, 6, 6, 6, 6, 6, 6, 6, 6, 6, 6, 6, 6].append [7, 7, 7, 7, 7, 7, 7, 7, 7, 7, 7, 7, 7, 7, 7, 7, 7, 7, 7, 7, 7, 7, 7, 7, 7, 7, 7, 7, 7, 7, 7, 7, 7, 7, 7, 7, 7, 7, 7, 7, 7, 7, 7, 7, 7, 7, 7, 7, 7, 7, 7, 7, 7, 7, 7, 7, 7, 7, 7, 7, 7, 7, 7, 7]).append ([8, 8, 8, 8, 8, 8, 8, 8, 8, 8, 8, 8, 8, 8, 8, 8, 8, 8, 8, 8, 8, 8, 8, 8, 8, 8, 8, 8, 8, 8, 8, 8, 8, 8, 8, 8, 8, 8, 8, 8, 8, 8, 8, 8, 8, 8, 8, 8, 8, 8, 8, 8, 8, 8, 8, 8, 8, 8, 8, 8, 8, 8, 8, 8].append [8, 8, 8, 8, 8, 8, 8, 8, 8, 8, 8, 8, 8, 8, 8, 8, 8, 8, 8, 8, 8, 8, 8, 8, 8, 8, 8, 8, 8, 8, 8, 8, 8, 8, 8, 8, 8, 8, 8, 8, 8, 8, 8, 8, 8, 8, 8, 8, 8, 8, 8, 8, 8, 8, 8, 8, 8, 8, 8, 8, 8, 8, 8, 8])).toArray)).data.toList.length : Int))) (none) (none)) (cond (decide (0 ≤ IntKind.u8.wrap ((IntKind.u64.wrap (0 - IntKind.u64.wrap a0)).fdiv (2 ^ min (Int.toNat 32) IntKind.u64.bits))) && decide (IntKind.u8.wrap ((IntKind.u64.wrap (0 - IntKind.u64.wrap a0)).fdiv (2 ^ min (Int.toNat 32) IntKind.u64.bits)) < (↑(ByteArray.mk ((([0, 1, 2, 2, 3, 3, 3, 3, 4, 4, 4, 4, 4, 4, 4, 4, 5, 5, 5, 5, 5, 5, 5, 5, 5, 5, 5, 5, 5, 5, 5, 5, 6, 6, 6, 6, 6, 6, 6, 6, 6, 6, 6, 6, 6, 6, 6, 6, 6, 6, 6, 6, 6, 6, 6, 6, 6, 6, 6, 6, 6, 6, 6, 6].append [7, 7, 7, 7, 7, 7, 7, 7, 7, 7, 7, 7, 7, 7, 7, 7, 7, 7, 7, 7, 7, 7, 7, 7, 7, 7, 7, 7, 7, 7, 7, 7, 7, 7, 7, 7, 7, 7, 7, 7, 7, 7, 7, 7, 7, 7, 7, 7, 7, 7, 7, 7, 7, 7, 7, 7, 7, 7, 7, 7, 7, 7, 7, 7]).append ([8, 8, 8, 8, 8, 8, 8, 8, 8, 8, 8, 8, 8, 8, 8, 8, 8, 8, 8, 8, 8, 8, 8, 8, 8, 8, 8, 8, 8, 8, 8, 8, 8, 8, 8, 8, 8, 8, 8, 8, 8, 8, 8, 8, 8, 8, 8, 8, 8, 8, 8, 8, 8, 8, 8, 8, 8, 8, 8, 8, 8, 8, 8, 8].append [8, 8, 8, 8, 8, 8, 8, 8, 8, 8, 8, 8, 8, 8, 8, 8, 8, 8, 8, 8, 8, 8, 8, 8, 8, 8, 8, 8, 8, 8, 8, 8, 8, 8, 8, 8, 8, 8, 8, 8, 8, 8, 8, 8, 8, 8, 8, 8, 8, 8, 8, 8, 8, 8, 8, 8, 8, 8, 8, 8, 8, 8, 8, 8])).toArray)).data.toList.length : Int))) (none) (none)))) (cond (decide (65536 ≤ IntKind.u64.wrap (0 - IntKind.u64.wrap a0))) (cond (decide (256 ≤ (IntKind.u64.wrap (0 - IntKind.u64.wrap a0)).fdiv (2 ^ min (Int.toNat 16) IntKind.u64.bits))) (cond (decide (0 ≤ IntKind.u8.wrap (((IntKind.u64.wrap (0 - IntKind.u64.wrap a0)).fdiv (2 ^ min (Int.toNat 16) IntKind.u64.bits)).fdiv (2 ^ min (Int.toNat 8) IntKind.u64.bits))) && decide (IntKind.u8.wrap (((IntKind.u64.wrap (0 - IntKind.u64.wrap a0)).fdiv (2 ^ min (Int.toNat 16) IntKind.u64.bits)).fdiv (2 ^ min (Int.toNat 8) IntKind.u64.bits)) < (↑(ByteArray.mk ((([0, 1, 2, 2, 3, 3, 3, 3, 4, 4, 4, 4, 4, 4, 4, 4, 5, 5, 5, 5, 5, 5, 5, 5, 5, 5, 5, 5, 5, 5, 5, 5, 6, 6, 6, 6, 6, 6, 6, 6, 6, 6, 6, 6, 6, 6, 6, 6, 6, 6, 6, 6, 6, 6, 6, 6, 6, 6, 6, 6, 6, 6, 6, 6].append [7, 7, 7, 7, 7, 7, 7, 7, 7, 7, 7, 7, 7, 7, 7, 7, 7, 7, 7, 7, 7, 7, 7, 7, 7, 7, 7, 7, 7, 7, 7, 7, 7, 7, 7, 7, 7, 7, 7, 7, 7, 7, 7, 7, 7, 7, 7, 7, 7, 7, 7, 7, 7, 7, 7, 7, 7, 7, 7, 7, 7, 7, 7, 7]).append ([8, 8, 8, 8, 8, 8, 8, 8, 8, 8, 8, 8, 8, 8, 8, 8, 8, 8, 8, 8, 8, 8, 8, 8, 8, 8, 8, 8, 8, 8, 8, 8, 8, 8, 8, 8, 8, 8, 8, 8, 8, 8, 8, 8, 8, 8, 8, 8, 8, 8, 8, 8, 8, 8, 8, 8, 8, 8, 8, 8, 8, 8, 8, 8].append [8, 8, 8, 8, 8, 8, 8, 8, 8, 8, 8, 8, 8, 8, 8, 8, 8, 8, 8, 8, 8, 8, 8, 8, 8, 8, 8, 8, 8, 8, 8, 8, 8, 8, 8, 8, 8, 8, 8, 8, 8, 8, 8, 8, 8, 8, 8, 8, 8, 8, 8, 8, 8, 8, 8, 8, 8, 8, 8, 8, 8, 8, 8, 8])).toArray)).data.toList.length : Int))) (none) (none)) (cond (decide (0 ≤ IntKind.u8.wrap ((IntKind.u64.wrap (0 - IntKind.u64.wrap a0)).fdiv (2 ^ min (Int.toNat 16) IntKind.u64.bits))) && decide (IntKind.u8.wrap ((IntKind.u64.wrap (0 - IntKind.u64.wrap a0)).fdiv (2 ^ min (Int.toNat 16) IntKind.u64.bits)) < (↑(ByteArray.mk ((([0, 1, 2, 2, 3, 3, 3, 3, 4, 4, 4, 4, 4, 4, 4, 4, 5, 5, 5, 5, 5, 5, 5, 5, 5, 5, 5, 5, 5, 5, 5, 5, 6, 6, 6, 6, 6, 6, 6, 6, 6, 6, 6, 6, 6, 6, 6, 6, 6, 6, 6, 6, 6, 6, 6, 6, 6, 6, 6, 6, 6, 6, 6, 6].append [7, 7, 7, 7, 7, 7, 7, 7, 7, 7, 7, 7, 7, 7, 7, 7, 7, 7, 7, 7, 7, 7, 7, 7, 7, 7, 7, 7, 7, 7, 7, 7, 7, 7, 7, 7, 7, 7, 7, 7, 7, 7, 7, 7, 7, 7, 7, 7, 7, 7, 7, 7, 7, 7, 7, 7, 7, 7, 7, 7, 7, 7, 7, 7]).append ([8, 8, 8, 8, 8, 8, 8, 8, 8, 8, 8, 8, 8, 8, 8, 8, 8, 8, 8, 8, 8, 8, 8, 8, 8, 8, 8, 8, 8, 8, 8, 8, 8, 8, 8, 8, 8, 8, 8, 8, 8, 8, 8, 8, 8, 8, 8, 8, 8, 8, 8, 8, 8, 8, 8, 8, 8, 8, 8, 8, 8, 8, 8, 8].append [8, 8, 8, 8, 8, 8, 8, 8, 8, 8, 8, 8, 8, 8, 8, 8, 8, 8, 8, 8, 8, 8, 8, 8, 8, 8, 8, 8, 8, 8, 8, 8, 8, 8, 8, 8, 8, 8, 8, 8, 8, 8, 8, 8, 8, 8, 8, 8, 8, 8, 8, 8, 8, 8, 8, 8, 8, 8, 8, 8, 8, 8, 8, 8])).toArray)).data.toList.length : Int))) (none) (none))) (cond (decide (256 ≤ IntKind.u64.wrap (0 - IntKind.u64.wrap a0))) (cond (decide (0 ≤ IntKind.u8.wrap ((IntKind.u64.wrap (0 - IntKind.u64.wrap a0)).fdiv (2 ^ min (Int.toNat 8) IntKind.u64.bits))) && decide (IntKind.u8.wrap ((IntKind.u64.wrap (0 - IntKind.u64.wrap a0)).fdiv (2 ^ min (Int.toNat 8) IntKind.u64.bits)) < (↑(ByteArray.mk ((([0, 1, 2, 2, 3, 3, 3, 3, 4, 4, 4, 4, 4, 4, 4, 4, 5, 5, 5, 5, 5, 5, 5, 5, 5, 5, 5, 5, 5, 5, 5, 5, 6, 6, 6, 6, 6, 6, 6, 6, 6, 6, 6, 6, 6, 6, 6, 6, 6, 6, 6, 6, 6, 6, 6, 6, 6, 6, 6, 6, 6, 6, 6, 6].append [7, 7, 7, 7, 7, 7, 7, 7, 7, 7, 7, 7, 7, 7, 7, 7, 7, 7, 7, 7, 7, 7, 7, 7, 7, 7, 7, 7, 7, 7, 7, 7, 7, 7, 7, 7, 7, 7, 7, 7, 7, 7, 7, 7, 7, 7, 7, 7, 7, 7, 7, 7, 7, 7, 7, 7, 7, 7, 7, 7, 7, 7, 7, 7]).append ([8, 8, 8, 8, 8, 8, 8, 8, 8, 8, 8, 8, 8, 8, 8, 8, 8, 8, 8, 8, 8, 8, 8, 8, 8, 8, 8, 8, 8, 8, 8, 8, 8, 8, 8, 8, 8, 8, 8, 8, 8, 8, 8, 8, 8, 8, 8, 8, 8, 8, 8, 8, 8, 8, 8, 8, 8, 8, 8, 8, 8, 8, 8, 8].append [8, 8, 8, 8, 8, 8, 8, 8, 8, 8, 8, 8, 8, 8, 8, 8, 8, 8, 8, 8, 8, 8, 8, 8, 8, 8, 8, 8, 8, 8, 8, 8, 8, 8, 8, 8, 8, 8, 8, 8, 8, 8, 8, 8, 8, 8, 8, 8, 8, 8, 8, 8, 8, 8, 8, 8, 8, 8, 8, 8, 8, 8, 8, 8])).toArray)).data.toList.length : Int))) (none) (none)) (cond (decide (0 ≤ IntKind.u8.wrap (IntKind.u64.wrap (0 - IntKind.u64.wrap a0))) && decide (IntKind.u8.wrap (IntKind.u64.wrap (0 - IntKind.u64.wrap a0)) < (↑(ByteArray.mk ((([0, 1, 2, 2, 3, 3, 3, 3, 4, 4, 4, 4, 4, 4, 4, 4, 5, 5, 5, 5, 5, 5, 5, 5, 5, 5, 5, 5, 5, 5, 5, 5, 6, 6, 6, 6, 6, 6, 6, 6, 6, 6, 6, 6, 6, 6, 6, 6, 6, 6, 6, 6, 6, 6, 6, 6, 6, 6, 6, 6, 6, 6, 6, 6].append [7, 7, 7, 7, 7, 7, 7, 7, 7, 7, 7, 7, 7, 7, 7, 7, 7, 7, 7, 7, 7, 7, 7, 7, 7, 7, 7, 7, 7, 7, 7, 7, 7, 7, 7, 7, 7, 7, 7, 7, 7, 7, 7, 7, 7, 7, 7, 7, 7, 7, 7, 7, 7, 7, 7, 7, 7, 7, 7, 7, 7, 7, 7, 7]).append ([8, 8, 8, 8, 8, 8, 8, 8, 8, 8, 8, 8, 8, 8, 8, 8, 8, 8, 8, 8, 8, 8, 8, 8, 8, 8, 8, 8, 8, 8, 8, 8, 8, 8, 8, 8, 8, 8, 8, 8, 8, 8, 8, 8, 8, 8, 8, 8, 8, 8, 8, 8, 8, 8, 8, 8, 8, 8, 8, 8, 8, 8, 8, 8].append [8, 8, 8, 8, 8, 8, 8, 8, 8, 8, 8, 8, 8, 8, 8, 8, 8, 8, 8, 8, 8, 8, 8, 8, 8, 8, 8, 8, 8, 8, 8, 8, 8, 8, 8, 8, 8, 8, 8, 8, 8, 8, 8, 8, 8, 8, 8, 8, 8, 8, 8, 8, 8, 8, 8, 8, 8, 8, 8, 8, 8, 8, 8, 8])).toArray)).data.toList.length : Int))) (none) (none))))) (cond (decide (4294967296 ≤ IntKind.u64.wrap a0)) (cond (decide (65536 ≤ (IntKind.u64.wrap a0).fdiv (2 ^ min (Int.toNat 32) IntKind.u64.bits))) (cond (decide (256 ≤ ((IntKind.u64.wrap a0).fdiv (2 ^ min (Int.toNat 32) IntKind.u64.bits)).fdiv (2 ^ min (Int.toNat 16) IntKind.u64.bits))) (cond (decide (0 ≤ IntKind.u8.wrap ((((IntKind.u64.wrap a0).fdiv (2 ^ min (Int.toNat 32) IntKind.u64.bits)).fdiv (2 ^ min (Int.toNat 16) IntKind.u64.bits)).fdiv (2 ^ min (Int.toNat 8) IntKind.u64.bits))) && decide (IntKind.u8.wrap ((((IntKind.u64.wrap a0).fdiv (2 ^ min (Int.toNat 32) IntKind.u64.bits)).fdiv (2 ^ min (Int.toNat 16) IntKind.u64.bits)).fdiv (2 ^ min (Int.toNat 8) IntKind.u64.bits)) < (↑(ByteArray.mk ((([0, 1, 2, 2, 3, 3, 3, 3, 4, 4, 4, 4, 4, 4, 4, 4, 5, 5, 5, 5, 5, 5, 5, 5, 5, 5, 5, 5, 5, 5, 5, 5, 6, 6, 6, 6, 6, 6, 6, 6, 6, 6, 6, 6, 6, 6, 6, 6, 6, 6, 6, 6, 6, 6, 6, 6, 6, 6, 6, 6, 6, 6, 6, 6].append [7, 7, 7, 7, 7, 7, 7, 7, 7, 7, 7, 7, 7, 7, 7, 7, 7, 7, 7, 7, 7, 7, 7, 7, 7, 7, 7, 7, 7, 7, 7, 7, 7, 7, 7, 7, 7, 7, 7, 7, 7, 7, 7, 7, 7, 7, 7, 7, 7, 7, 7, 7, 7, 7, 7, 7, 7, 7, 7, 7, 7, 7, 7, 7]).append ([8, 8, 8, 8, 8, 8, 8, 8, 8, 8, 8, 8, 8, 8, 8, 8, 8, 8, 8, 8, 8, 8, 8, 8, 8, 8, 8, 8, 8, 8, 8, 8, 8, 8, 8, 8, 8, 8, 8, 8, 8, 8, 8, 8, 8, 8, 8, 8, 8, 8, 8, 8, 8, 8, 8, 8, 8, 8, 8, 8, 8, 8, 8, 8].append [8, 8, 8, 8, 8, 8, 8, 8, 8, 8, 8, 8, 8, 8, 8, 8, 8, 8, 8, 8, 8, 8, 8, 8, 8, 8, 8, 8, 8, 8, 8, 8, 8, 8, 8, 8, 8, 8, 8, 8, 8, 8, 8, 8, 8, 8, 8, 8, 8, 8, 8, 8, 8, 8, 8, 8, 8, 8, 8, 8, 8, 8, 8, 8])).toArray)).data.toList.length : Int))) (none) (none)) (cond (decide (0 ≤ IntKind.u8.wrap (((IntKind.u64.wrap a0).fdiv (2 ^ min (Int.toNat 32) IntKind.u64.bits)).fdiv (2 ^ min (Int.toNat 16) IntKind.u64.bits))) && decide (IntKind.u8.wrap (((IntKind.u64.wrap a0).fdiv (2 ^ min (Int.toNat 32) IntKind.u64.bits)).fdiv (2 ^ min (Int.toNat 16) IntKind.u64.bits)) < (↑(ByteArray.mk ((([0, 1, 2, 2, 3, 3, 3, 3, 4, 4, 4, 4, 4, 4, 4, 4, 5, 5, 5, 5, 5, 5, 5, 5, 5, 5, 5, 5, 5, 5, 5, 5, 6, 6, 6, 6, 6, 6, 6, 6, 6, 6, 6, 6, 6, 6, 6, 6, 6, 6, 6, 6, 6, 6, 6, 6, 6, 6, 6, 6, 6, 6, 6, 6].append [7, 7, 7, 7, 7, 7, 7, 7, 7, 7, 7, 7, 7, 7, 7, 7, 7, 7, 7, 7, 7, 7, 7, 7, 7, 7, 7, 7, 7, 7, 7, 7, 7, 7, 7, 7, 7, 7, 7, 7, 7, 7, 7, 7, 7, 7, 7, 7, 7, 7, 7, 7, 7, 7, 7, 7, 7, 7, 7, 7, 7, 7, 7, 7]).append ([8, 8, 8, 8, 8, 8, 8, 8, 8, 8, 8, 8, 8, 8, 8, 8, 8, 8, 8, 8, 8, 8, 8, 8, 8, 8, 8, 8, 8, 8, 8, 8, 8, 8, 8, 8, 8, 8, 8, 8, 8, 8, 8, 8, 8, 8, 8, 8, 8, 8, 8, 8, 8, 8, 8, 8, 8, 8, 8, 8, 8, 8, 8, 8].append [8, 8, 8, 8, 8, 8, 8, 8, 8, 8, 8, 8, 8, 8, 8, 8, 8, 8, 8, 8, 8, 8, 8, 8, 8, 8, 8, 8, 8, 8, 8, 8, 8, 8, 8, 8, 8, 8, 8, 8, 8, 8, 8, 8, 8, 8, 8, 8, 8, 8, 8, 8, 8, 8, 8, 8, 8, 8, 8, 8, 8, 8, 8, 8])).toArray)).data.toList.length : Int))) (none) (none))) (cond (decide (256 ≤ (IntKind.u64.wrap a0).fdiv (2 ^ min (Int.toNat 32) IntKind.u64.bits))) (cond (decide (0 ≤ IntKind.u8.wrap (((IntKind.u64.wrap a0).fdiv (2 ^ min (Int.toNat 32) IntKind.u64.bits)).fdiv (2 ^ min (Int.toNat 8) IntKind.u64.bits))) && decide (IntKind.u8.wrap (((IntKind.u64.wrap a0).fdiv (2 ^ min (Int.toNat 32) IntKind.u64.bits)).fdiv (2 ^ min (Int.toNat 8) IntKind.u64.bits)) < (↑(ByteArray.mk ((([0, 1, 2, 2, 3, 3, 3, 3, 4, 4, 4, 4, 4, 4, 4, 4, 5, 5, 5, 5, 5, 5, 5, 5, 5, 5, 5, 5, 5, 5, 5, 5, 6, 6, 6, 6, 6, 6, 6, 6, 6, 6, 6, 6, 6, 6, 6, 6, 6, 6, 6, 6, 6, 6, 6, 6, 6, 6, 6, 6, 6, 6, 6, 6].append [7, 7, 7, 7, 7, 7, 7, 7, 7, 7, 7, 7, 7, 7, 7, 7, 7, 7, 7, 7, 7, 7, 7, 7, 7, 7, 7, 7, 7, 7, 7, 7, 7, 7, 7, 7, 7, 7, 7, 7, 7, 7, 7, 7, 7, 7, 7, 7, 7, 7, 7, 7, 7, 7, 7, 7, 7, 7, 7, 7, 7, 7, 7, 7]).append ([8, 8, 8, 8, 8, 8, 8, 8, 8, 8, 8, 8, 8, 8, 8, 8, 8, 8, 8, 8, 8, 8, 8, 8, 8, 8, 8, 8, 8, 8, 8, 8, 8, 8, 8, 8, 8, 8, 8, 8, 8, 8, 8, 8, 8, 8, 8, 8, 8, 8, 8, 8, 8, 8, 8, 8, 8, 8, 8, 8, 8, 8, 8, 8].append [8, 8, 8, 8, 8, 8, 8, 8, 8, 8, 8, 8, 8, 8, 8, 8, 8, 8, 8, 8, 8, 8, 8, 8, 8, 8, 8, 8, 8, 8, 8, 8, 8, 8, 8, 8, 8, 8, 8, 8, 8, 8, 8, 8, 8, 8, 8, 8, 8, 8, 8, 8, 8, 8, 8, 8, 8, 8, 8, 8, 8, 8, 8, 8])).toArray)).data.toList.length : Int))) (none) (none)) (cond (decide (0 ≤ IntKind.u8.wrap ((IntKind.u64.wrap a0).fdiv (2 ^ min (Int.toNat 32) IntKind.u64.bits))) && decide (IntKind.u8.wrap ((IntKind.u64.wrap a0).fdiv (2 ^ min (Int.toNat 32) IntKind.u64.bits)) < (↑(ByteArray.mk ((([0, 1, 2, 2, 3, 3, 3, 3, 4, 4, 4, 4, 4, 4, 4, 4, 5, 5, 5, 5, 5, 5, 5, 5, 5, 5, 5, 5, 5, 5, 5, 5, 6, 6, 6, 6, 6, 6, 6, 6, 6, 6, 6, 6, 6, 6, 6, 6, 6, 6, 6, 6, 6, 6, 6, 6, 6, 6, 6, 6, 6, 6, 6, 6].append [7, 7, 7, 7, 7, 7, 7, 7, 7, 7, 7, 7, 7, 7, 7, 7, 7, 7, 7, 7, 7, 7, 7, 7, 7, 7, 7, 7, 7, 7, 7, 7, 7, 7, 7, 7, 7, 7, 7, 7, 7, 7, 7, 7, 7, 7, 7, 7, 7, 7, 7, 7, 7, 7, 7, 7, 7, 7, 7, 7, 7, 7, 7, 7]).append ([8, 8, 8, 8, 8, 8, 8, 8, 8, 8, 8, 8, 8, 8, 8, 8, 8, 8, 8, 8, 8, 8, 8, 8, 8, 8, 8, 8, 8, 8, 8, 8, 8, 8, 8, 8, 8, 8, 8, 8, 8, 8, 8, 8, 8, 8, 8, 8, 8, 8, 8, 8, 8, 8, 8, 8, 8, 8, 8, 8, 8, 8, 8, 8].append [8, 8, 8, 8, 8, 8, 8, 8, 8, 8, 8, 8, 8, 8, 8, 8, 8, 8, 8, 8, 8, 8, 8, 8, 8, 8, 8, 8, 8, 8, 8, 8, 8, 8, 8, 8, 8, 8, 8, 8, 8, 8, 8, 8, 8, 8, 8, 8, 8, 8, 8, 8, 8, 8, 8, 8, 8, 8, 8, 8, 8, 8, 8, 8])).toArray)).data.toList.length : Int))) (none) (none)))) (cond (decide (65536 ≤ IntKind.u64.wrap a0)) (cond (decide (256 ≤ (IntKind.u64.wrap a0).fdiv (2 ^ min (Int.toNat 16) IntKind.u64.bits))) (cond (decide (0 ≤ IntKind.u8.wrap (((IntKind.u64.wrap a0).fdiv (2 ^ min (Int.toNat 16) IntKind.u64.bits)).fdiv (2 ^ min (Int.toNat 8) IntKind.u64.bits))) && decide (IntKind.u8.wrap (((IntKind.u64.wrap a0).fdiv (2 ^ min (Int.toNat 16) IntKind.u64.bits)).fdiv (2 ^ min (Int.toNat 8) IntKind.u64.bits)) < (↑(ByteArray.mk ((([0, 1, 2, 2, 3, 3, 3, 3, 4, 4, 4, 4, 4, 4, 4, 4, 5, 5, 5, 5, 5, 5, 5, 5, 5, 5, 5, 5, 5, 5, 5, 5, 6, 6, 6, 6, 6, 6, 6, 6, 6, 6, 6, 6, 6, 6, 6, 6, 6, 6, 6, 6, 6, 6, 6, 6, 6, 6, 6, 6, 6, 6, 6, 6].append [7, 7, 7, 7, 7, 7, 7, 7, 7, 7, 7, 7, 7, 7, 7, 7, 7, 7, 7, 7, 7, 7, 7, 7, 7, 7, 7, 7, 7, 7, 7, 7, 7, 7, 7, 7, 7, 7, 7, 7, 7, 7, 7, 7, 7, 7, 7, 7, 7, 7, 7, 7, 7, 7, 7, 7, 7, 7, 7, 7, 7, 7, 7, 7]).append ([8, 8, 8, 8, 8, 8, 8, 8, 8, 8, 8, 8, 8, 8, 8, 8, 8, 8, 8, 8, 8, 8, 8, 8, 8, 8, 8, 8, 8, 8, 8, 8, 8, 8, 8, 8, 8, 8, 8, 8, 8, 8, 8, 8, 8, 8, 8, 8, 8, 8, 8, 8, 8, 8, 8, 8, 8, 8, 8, 8, 8, 8, 8, 8].append [8, 8, 8, 8, 8, 8, 8, 8, 8, 8, 8, 8, 8, 8, 8, 8, 8, 8, 8, 8, 8, 8, 8, 8, 8, 8, 8, 8, 8, 8, 8, 8, 8, 8, 8, 8, 8, 8, 8, 8, 8, 8, 8, 8, 8, 8, 8, 8, 8, 8, 8, 8, 8, 8, 8, 8, 8, 8, 8, 8, 8, 8, 8, 8])).toArray)).data.toList.length : Int))) (none) (none)) (cond (decide (0 ≤ IntKind.u8.wrap ((IntKind.u64.wrap a0).fdiv (2 ^ min (Int.toNat 16) IntKind.u64.bits))) && decide (IntKind.u8.wrap ((IntKind.u64.wrap a0).fdiv (2 ^ min (Int.toNat 16) IntKind.u64.bits)) < (↑(ByteArray.mk ((([0, 1, 2, 2, 3, 3, 3, 3, 4, 4, 4, 4, 4, 4, 4, 4, 5, 5, 5, 5, 5, 5, 5, 5, 5, 5, 5, 5, 5, 5, 5, 5, 6, 6, 6, 6, 6, 6, 6, 6, 6, 6, 6, 6, 6, 6, 6, 6, 6, 6, 6, 6, 6, 6, 6, 6, 6, 6, 6, 6, 6, 6, 6, 6].append [7, 7, 7, 7, 7, 7, 7, 7, 7, 7, 7, 7, 7, 7, 7, 7, 7, 7, 7, 7, 7, 7, 7, 7, 7, 7, 7, 7, 7, 7, 7, 7, 7, 7, 7, 7, 7, 7, 7, 7, 7, 7, 7, 7, 7, 7, 7, 7, 7, 7, 7, 7, 7, 7, 7, 7, 7, 7, 7, 7, 7, 7, 7, 7]).append ([8, 8, 8, 8, 8, 8, 8, 8, 8, 8, 8, 8, 8, 8, 8, 8, 8, 8, 8, 8, 8, 8, 8, 8, 8, 8, 8, 8, 8, 8, 8, 8, 8, 8, 8, 8, 8, 8, 8, 8, 8, 8, 8, 8, 8, 8, 8, 8, 8, 8, 8, 8, 8, 8, 8, 8, 8, 8, 8, 8, 8, 8, 8, 8].append [8, 8, 8, 8, 8, 8, 8, 8, 8, 8, 8, 8, 8, 8, 8, 8, 8, 8, 8, 8, 8, 8, 8, 8, 8, 8, 8, 8, 8, 8, 8, 8, 8, 8, 8, 8, 8, 8, 8, 8, 8, 8, 8, 8, 8, 8, 8, 8, 8, 8, 8, 8, 8, 8, 8, 8, 8, 8, 8, 8, 8, 8, 8, 8])).toArray)).data.toList.length : Int))) (none) (none))) (cond (decide (256 ≤ IntKind.u64.wrap a0)) (cond (decide (0 ≤ IntKind.u8.wrap ((IntKind.u64.wrap a0).fdiv (2 ^ min (Int.toNat 8) IntKind.u64.bits))) && decide (IntKind.u8.wrap ((IntKind.u64.wrap a0).fdiv (2 ^ min (Int.toNat 8) IntKind.u64.bits)) < (↑(ByteArray.mk ((([0, 1, 2, 2, 3, 3, 3, 3, 4, 4, 4, 4, 4, 4, 4, 4, 5, 5, 5, 5, 5, 5, 5, 5, 5, 5, 5, 5, 5, 5, 5, 5, 6, 6, 6, 6, 6, 6, 6, 6, 6, 6, 6, 6, 6, 6, 6, 6, 6, 6, 6, 6, 6, 6, 6, 6, 6, 6, 6, 6, 6, 6, 6, 6].append [7, 7, 7, 7, 7, 7, 7, 7, 7, 7, 7, 7, 7, 7, 7, 7, 7, 7, 7, 7, 7, 7, 7, 7, 7, 7, 7, 7, 7, 7, 7, 7, 7, 7, 7, 7, 7, 7, 7, 7, 7, 7, 7, 7, 7, 7, 7, 7, 7, 7, 7, 7, 7, 7, 7, 7, 7, 7, 7, 7, 7, 7, 7, 7]).append ([8, 8, 8, 8, 8, 8, 8, 8, 8, 8, 8, 8, 8, 8, 8, 8, 8, 8, 8, 8, 8, 8, 8, 8, 8, 8, 8, 8, 8, 8, 8, 8, 8, 8, 8, 8, 8, 8, 8, 8, 8, 8, 8, 8, 8, 8, 8, 8, 8, 8, 8, 8, 8, 8, 8, 8, 8, 8, 8, 8, 8, 8, 8, 8].append [8, 8, 8, 8, 8, 8, 8, 8, 8, 8, 8, 8, 8, 8, 8, 8, 8, 8, 8, 8, 8, 8, 8, 8, 8, 8, 8, 8, 8, 8, 8, 8, 8, 8, 8, 8, 8, 8, 8, 8, 8, 8, 8, 8, 8, 8, 8, 8, 8, 8, 8, 8, 8, 8, 8, 8, 8, 8, 8, 8, 8, 8, 8, 8])).toArray)).data.toList.length : Int))) (none) (none)) (cond (decide (0 ≤ IntKind.u8.wrap (IntKind.u64.wrap a0)) && decide (IntKind.u8.wrap (IntKind.u64.wrap a0) < (↑(ByteArray.mk ((([0, 1, 2, 2, 3, 3, 3, 3, 4, 4, 4, 4, 4, 4, 4, 4, 5, 5, 5, 5, 5, 5, 5, 5, 5, 5, 5, 5, 5, 5, 5, 5, 6, 6, 6, 6, 6, 6, 6, 6, 6, 6, 6, 6, 6, 6, 6, 6, 6, 6, 6, 6, 6, 6, 6, 6, 6, 6, 6, 6, 6, 6, 6, 6].append [7, 7, 7, 7, 7, 7, 7, 7, 7, 7, 7, 7, 7, 7, 7, 7, 7, 7, 7, 7, 7, 7, 7, 7, 7, 7, 7, 7, 7, 7, 7, 7, 7, 7, 7, 7, 7, 7, 7, 7, 7, 7, 7, 7, 7, 7, 7, 7, 7, 7, 7, 7, 7, 7, 7, 7, 7, 7, 7, 7, 7, 7, 7, 7]).append ([8, 8, 8, 8, 8, 8, 8, 8, 8, 8, 8, 8, 8, 8, 8, 8, 8, 8, 8, 8, 8, 8, 8, 8, 8, 8, 8, 8, 8, 8, 8, 8, 8, 8, 8, 8, 8, 8, 8, 8, 8, 8, 8, 8, 8, 8, 8, 8, 8, 8, 8, 8, 8, 8, 8, 8, 8, 8, 8, 8, 8, 8, 8, 8].append [8, 8, 8, 8, 8, 8, 8, 8, 8, 8, 8, 8, 8, 8, 8, 8, 8, 8, 8, 8, 8, 8, 8, 8, 8, 8, 8, 8, 8, 8, 8, 8, 8, 8, 8, 8, 8, 8, 8, 8, 8, 8, 8, 8, 8, 8, 8, 8, 8, 8, 8, 8, 8, 8, 8, 8, 8, 8, 8, 8, 8, 8, 8, 8])).toArray)).data.toList.length : Int))) (none) (none))))))
theorem eq (N : Nat) (a0 : Int) : evF (C N) 50 Tryd.f39 an39 (smL (ents39 N) 0 50) [((.str : K), false)] [⟨.int .i64, a0⟩] = g N a0 (fun r0 => some [.dat (K.str) r0]) := by kernel_rfl
theorem ctxOk (N : Nat) : CtxOk P (C N) := ctxOk_of tysOk mixedOk trivial ⟨⟨⟨by rfl, by kernel_rfl⟩, fun α lo d c hc => smL_ok (ents73_ok N) lo d hc⟩, ⟨⟨by rfl, by kernel_rfl⟩, fun α lo d c hc => smL_ok (ents91_ok N) lo d hc⟩, ⟨⟨by rfl, by kernel_rfl⟩, fun α lo d c hc => smL_ok (ents96_ok N) lo d hc⟩, ⟨⟨by rfl, by kernel_rfl⟩, fun α lo d c hc => smL_ok (ents97_ok N) lo d hc⟩, ⟨⟨by rfl, by kernel_rfl⟩, fun α lo d c hc => smL_ok (ents98_ok N) lo d hc⟩, ⟨⟨by rfl, by kernel_rfl⟩, fun α lo d c hc => smL_ok (ents99_ok N) lo d hc⟩, ⟨⟨by rfl, by kernel_rfl⟩, fun α lo d c hc => smL_ok (ents100_ok N) lo d hc⟩, ⟨⟨by rfl, by kernel_rfl⟩, fun α lo d c hc => smL_ok (ents101_ok N) lo d hc⟩, ⟨⟨by rfl, by kernel_rfl⟩, fun α lo d c hc => smL_ok (ents102_ok N) lo d hc⟩, ⟨⟨by rfl, by kernel_rfl⟩, fun α lo d c hc => smL_ok (ents103_ok N) lo d hc⟩, ⟨⟨by rfl, by kernel_rfl⟩, fun α lo d c hc => smL_ok (ents104_ok N) lo d hc⟩, ⟨⟨by rfl, by kernel_rfl⟩, fun α lo d c hc => smL_ok (ents105_ok N) lo d hc⟩, ⟨⟨by rfl, by kernel_rfl⟩, fun α lo d c hc => smL_ok (ents106_ok N) lo d hc⟩, trivial⟩
theorem calls (N : Nat) (a0 : Int) {rs : List Rs} (h : g N a0 (fun r0 => some [.dat (K.str) r0]) = some rs) : CallsTo P 39 [⟨.int .i64, a0⟩] rs := evF_calls' (ctxOk N) (by rfl) (ents39_ok N) ((eq N a0).trans h)
end strconv_Itoa
theorem strconv_Itoa.at {α : Type} (N : Nat) (kr : BA → Option α) : ∀ n : Nat, n < 100 → strconv_Itoa.g N ((n : Nat) : Int) kr = kr (digB ((n : Nat) : Int))
 | 0, _ => by kernel_rfl
 | 1, _ => by kernel_rfl
 | 2, _ => by kernel_rfl
 | 3, _ => by kernel_rfl
 | 4, _ => by kernel_rfl
 | 5, _ => by kernel_rfl
 | 6, _ => by kernel_rfl
 | 7, _ => by kernel_rfl
 | 8, _ => by kernel_rfl
 | 9, _ => by kernel_rfl
 | 10, _ => by kernel_rfl
 | 11, _ => by kernel_rfl
 | 12, _ => by kernel_rfl
 | 13, _ => by kernel_rfl
 | 14, _ => by kernel_rfl
 | 15, _ => by kernel_rfl
 | 16, _ => by kernel_rfl
 | 17, _ => by kernel_rfl
 | 18, _ => by kernel_rfl
 | 19, _ => by kernel_rfl
 | 20, _ => by kernel_rfl
 | 21, _ => by kernel_rfl
 | 22, _ => by kernel_rfl
 | 23, _ => by kernel_rfl
 | 24, _ => by kernel_rfl
 | 25, _ => by kernel_rfl
 | 26, _ => by kernel_rfl
 | 27, _ => by kernel_rfl
 | 28, _ => by kernel_rfl
 | 29, _ => by kernel_rfl
 | 30, _ => by kernel_rfl
 | 31, _ => by kernel_rfl
 | 32, _ => by kernel_rfl
 | 33, _ => by kernel_rfl
 | 34, _ => by kernel_rfl
 | 35, _ => by kernel_rfl
 | 36, _ => by kernel_rfl
 | 37, _ => by kernel_rfl
 | 38, _ => by kernel_rfl
 | 39, _ => by kernel_rfl
 | 40, _ => by kernel_rfl
 | 41, _ => by kernel_rfl
 | 42, _ => by kernel_rfl
 | 43, _ => by kernel_rfl
 | 44, _ => by kernel_rfl
 | 45, _ => by kernel_rfl
 | 46, _ => by kernel_rfl
 | 47, _ => by kernel_rfl
 | 48, _ => by kernel_rfl
 | 49, _ => by kernel_rfl
 | 50, _ => by kernel_rfl
 | 51, _ => by kernel_rfl
 | 52, _ => by kernel_rfl
 | 53, _ => by kernel_rfl
 | 54, _ => by kernel_rfl
 | 55, _ => by kernel_rfl
 | 56, _ => by kernel_rfl
 | 57, _ => by kernel_rfl
 | 58, _ => by kernel_rfl
 | 59, _ => by kernel_rfl
 | 60, _ => by kernel_rfl
 | 61, _ => by kernel_rfl
 | 62, _ => by kernel_rfl
 | 63, _ => by kernel_rfl
 | 64, _ => by kernel_rfl
 | 65, _ => by kernel_rfl
 | 66, _ => by kernel_rfl
 | 67, _ => by kernel_rfl
 | 68, _ => by kernel_rfl
 | 69, _ => by kernel_rfl
 | 70, _ => by kernel_rfl
 | 71, _ => by kernel_rfl
 | 72, _ => by kernel_rfl
 | 73, _ => by kernel_rfl
 | 74, _ => by kernel_rfl
 | 75, _ => by kernel_rfl
 | 76, _ => by kernel_rfl
 | 77, _ => by kernel_rfl
 | 78, _ => by kernel_rfl
 | 79, _ => by kernel_rfl
 | 80, _ => by kernel_rfl
 | 81, _ => by kernel_rfl
 | 82, _ => by kernel_rfl
 | 83, _ => by kernel_rfl
 | 84, _ => by kernel_rfl
 | 85, _ => by kernel_rfl
 | 86, _ => by kernel_rfl
 | 87, _ => by kernel_rfl
 | 88, _ => by kernel_rfl
 | 89, _ => by kernel_rfl
 | 90, _ => by kernel_rfl
 | 91, _ => by kernel_rfl
 | 92, _ => by kernel_rfl
 | 93, _ => by kernel_rfl
 | 94, _ => by kernel_rfl
 | 95, _ => by kernel_rfl
 | 96, _ => by kernel_rfl
 | 97, _ => by kernel_rfl
 | 98, _ => by kernel_rfl
 | 99, _ => by kernel_rfl
 | n + 100, h => absurd h (by omega)
theorem strconv_Itoa.law {α : Type} {N : Nat} (hN : 18446744073709551616 ≤ N) (a0 : Int) (w0 : K.wf (.int .i64) a0) (hp : strconv_Itoa.pre a0 = true) (kr : (BA → Option α)) : strconv_Itoa.g N a0 kr = kr (strconv_Itoa.spec a0) := by
 unfold strconv_Itoa.pre at hp
 simp only [Bool.and_eq_true, decide_eq_true_eq] at hp
 obtain ⟨n, rfl⟩ : ∃ n : Nat, a0 = (n : Int) := ⟨a0.toNat, by omega⟩
 exact strconv_Itoa.at N kr n (by omega)
theorem strconv_Itoa.ok : FentOk P 39 strconv_Itoa.fent := fentOk_of (by kernel_rfl) fun ds hk => by
 obtain ⟨a0, l0, rfl, h0⟩ := ds_cons hk
 obtain rfl := ds0 h0
 exact ⟨strconv_Itoa.pre a0, [.dat (.str) (strconv_Itoa.spec a0)], fun h hw => strconv_Itoa.calls 18446744073709551616 a0 (strconv_Itoa.law (Nat.le_refl _) a0 hw.1 h _), fun α k => rfl⟩
end Go.VI
namespace Go.VI
open Go Go.Proofs
namespace pl12_lives
def an12 : Ann := []
def an13 : Ann := [(6, [2, 5, 24, 25, 26], [2, 5]), (12, [2, 5, 50, 51, 52], [2, 3, 5]), (15, [2, 5, 50, 51, 52, 60, 61, 62], [2, 3, 5, 50, 51, 52]), (18, [2, 5, 50, 51, 52, 60, 61, 62, 66, 67, 68], [2, 3, 5, 50, 51, 52, 60, 61, 62])]
def an15 : Ann := [(9, [1, 8, 32, 33, 34], [4, 5, 8])]
def an33 : Ann := []
def an34 : Ann := [(5, [1, 22, 23, 24], [1, 2]), (8, [1, 22, 23, 24, 29, 30, 31], [1, 2, 22, 23, 24]), (16, [1, 8, 49, 50, 51], [1, 8]), (24, [1, 64, 65, 66], [2])]
def an35 : Ann := [(3, [1, 2, 3, 6, 7, 16, 17, 18], [2, 3, 6, 7]), (8, [2, 6, 7, 34, 35, 36], [6, 7])]
def an36 : Ann := []
def an37 : Ann := [(3, [2, 3, 4, 14, 15, 16], [2, 3])]
def C : Ctx := ⟨tysD, [(19, tf_Reverse.fent), (21, tf_Dual.fent), (23, tf_Subnet.fent), (25, tf_Start.fent), (27, tf_Union.fent), (39, strconv_Itoa.fent), (44, marking_Valid.fent), (53, net_Check.fent), (62, net_Place.fent), (63, net_Trans.fent), (72, tf_clone.fent), (38, tf_weight.fent)], [(13, ⟨Tryd.f13, an13, noSm⟩), (15, ⟨Tryd.f15, an15, noSm⟩), (33, ⟨Tryd.f33, an33, noSm⟩), (34, ⟨Tryd.f34, an34, noSm⟩), (35, ⟨Tryd.f35, an35, noSm⟩), (36, ⟨Tryd.f36, an36, noSm⟩), (37, ⟨Tryd.f37, an37, noSm⟩)], 100000⟩
theorem ctxOk : CtxOk P C := ctxOk_of tysDOk mixedOk ⟨tf_Reverse.ok, tf_Dual.ok, tf_Subnet.ok, tf_Start.ok, tf_Union.ok, strconv_Itoa.ok, marking_Valid.ok, net_Check.ok, net_Place.ok, net_Trans.ok, tf_clone.ok, tf_weight.ok, trivial⟩ ⟨inlOk_no (by rfl) (by kernel_rfl), inlOk_no (by rfl) (by kernel_rfl), inlOk_no (by rfl) (by kernel_rfl), inlOk_no (by rfl) (by kernel_rfl), inlOk_no (by rfl) (by kernel_rfl), inlOk_no (by rfl) (by kernel_rfl), inlOk_no (by rfl) (by kernel_rfl), trivial⟩
theorem runs : evF C 60 Tryd.f12 an12 (fun _ => none) [(.bool, false)] [] = some [.dat .bool true] := by kernel_rfl
theorem calls : CallsTo P 12 [] [.dat .bool true] := evF_closed ctxOk (by rfl) runs
end pl12_lives
theorem pl12_lives.ok : FentOk P 12 pl12_lives.fent := fentOk_of (by kernel_rfl) fun ds hk => by
 obtain rfl := ds0 hk
 exact ⟨true, [.dat .bool true], fun _ _ => pl12_lives.calls, fun α k => rfl⟩
end Go.VI
namespace Go.VI
open Go Go.Proofs
namespace pf09_SameArcs
def an47 : Ann := [(4, [0, 1, 5], [4])]
def L0.sh : Sh := { sl := [(0, SV.a (SA.d ((K.int IntKind.i64).pr (K.int IntKind.i64)).st.sl)), (1, SV.a (SA.d ((K.int IntKind.i64).pr (K.int IntKind.i64)).st.sl)), (5, SV.a (SA.d (K.int IntKind.i64)))], os := [], nx := 0 }
def L0.x0 : Sh := { sl := [(4, SV.a (SA.d K.bool))], os := [], nx := 0 }
def L0.x1 : Sh := { sl := [(4, SV.j)], os := [], nx := 0 }
def L0.st {α : Type} (N : Nat) (x0 : (List (Int × Int))) (x1 : (List (Int × Int))) (φ : (Int → Option α)) (x2 : Int) (k0 : (Bool → Option α)) (k1 : Option α) : Option α :=
 cond (decide (x2 < (↑x0.length : Int))) (cond (decide (0 ≤ x2) && decide (x2 < (↑x0.length : Int))) (cond (decide (0 ≤ x2) && decide (x2 < (↑x1.length : Int))) (cond (!((x0.getD x2.toNat ((0 : Int), (0 : Int))).fst == (x1.getD x2.toNat ((0 : Int), (0 : Int))).fst && ((x0.getD x2.toNat ((0 : Int), (0 : Int))).snd == (x1.getD x2.toNat ((0 : Int), (0 : Int))).snd && true))) (k0 (false)) (φ (IntKind.i64.wrap (x2 + 1)))) (none)) (none)) (k1 )
def L0.f {α : Type} (N : Nat) (c0 : (List (Int × Int))) (c1 : (List (Int × Int))) : Nat → Int → (Bool → Option α) → Option α → Option α
 | 0, _, _, _ => none
 | n + 1, d0, k0, k1 => L0.st N c0 c1 (fun e0 => L0.f N c0 c1 n e0 k0 k1) d0 k0 k1
def L0.F {α : Type} (N : Nat) (d : L0.sh.T) (K : Cont α) : Option α := L0.f N d.1.1 d.1.2.1 N d.1.2.2.1 (fun y0 => K (Exit.ret) (L0.x0.enc ((y0, ()), ()))) (K (Exit.exit 0) (L0.x1.enc (((), ()), ())))
def ents47 {α : Type} (N : Nat) : List (SmE α) := [⟨0, 50, 4, [⟨L0.sh, L0.F N⟩]⟩]
def C (N : Nat) : Ctx := ⟨tys, [], [], N⟩
def L0.B {α : Type} (N : Nat) : Env → Cont α → Option α := evC tys 26 0 (evCall (C N) 50) (evCallQ (C N)) N an47 (smL (ents47 N) 0 50) (loopOf 4 Tryd.f47)
theorem L0.r {α : Type} (N : Nat) (c0 : (List (Int × Int))) (c1 : (List (Int × Int))) (φ : Env → Option α) (K : Cont α) (d0 : Int) : L0.B N (L0.sh.enc ((c0, (c1, (d0, ()))), ())) (contL φ K (Env.norm 0 [0, 1, 5]) (Env.norm 0 [4])) = L0.st N c0 c1 (fun e0 => φ (L0.sh.enc ((c0, (c1, (e0, ()))), ()))) d0 (fun y0 => K (Exit.ret) (L0.x0.enc ((y0, ()), ()))) (K (Exit.exit 0) (L0.x1.enc (((), ()), ()))) := by kernel_rfl
theorem L0.e {α : Type} (N : Nat) (c0 : (List (Int × Int))) (c1 : (List (Int × Int))) : ∀ (n : Nat) (d0 : Int) (K : Cont α), evL (L0.B N) (Env.norm 0 [0, 1, 5]) (Env.norm 0 [4]) n (L0.sh.enc ((c0, (c1, (d0, ()))), ())) K = L0.f N c0 c1 n d0 (fun y0 => K (Exit.ret) (L0.x0.enc ((y0, ()), ()))) (K (Exit.exit 0) (L0.x1.enc (((), ()), ())))
 | 0, d0, K => rfl
 | n + 1, d0, K => evL_contL.trans ((L0.r N c0 c1 (fun e => evL (L0.B N) (Env.norm 0 [0, 1, 5]) (Env.norm 0 [4]) n e K) K d0).trans (congrArg (fun φ => L0.st N c0 c1 φ d0 (fun y0 => K (Exit.ret) (L0.x0.enc ((y0, ()), ()))) (K (Exit.exit 0) (L0.x1.enc (((), ()), ())))) (funext fun e0 => L0.e N c0 c1 n e0 K)))
theorem ents47_ok {α : Type} (N : Nat) : AllP (EntOk (C N) Tryd.f47 an47 (ents47 (α := α) N)) (ents47 N) := ⟨entOk_of (b0 := loopOf 4 Tryd.f47) (li0 := [0, 1, 5]) (lx0 := [4]) (by kernel_rfl) (by kernel_rfl) ⟨fun d K => L0.e N d.1.1 d.1.2.1 N d.1.2.2.1 K, trivial⟩, trivial⟩
def g {α : Type} (N : Nat) (a0 : List (Int × Int)) (a1 : List (Int × Int)) (kr : (Bool → Option α)) : Option α :=
 cond ((↑a0.length : Int) != (↑a1.length : Int)) (kr (false)) (L0.f N (a0) (a1) N (0) (fun x3 => kr (x3)) (kr (true)))
theorem eq (N : Nat) (a0 : List (Int × Int)) (a1 : List (Int × Int)) : evF (C N) 50 Tryd.f47 an47 (smL (ents47 N) 0 50) [((.bool : K), false)] [⟨.sl (.st (.pr (.int .i64) (.int .i64))), a0⟩, ⟨.sl (.st (.pr (.int .i64) (.int .i64))), a1⟩] = g N a0 a1 (fun r0 => some [.dat (K.bool) r0]) := by kernel_rfl
theorem ctxOk (N : Nat) : CtxOk P (C N) := ctxOk_of tysOk mixedOk trivial trivial
theorem calls (N : Nat) (a0 : List (Int × Int)) (a1 : List (Int × Int)) {rs : List Rs} (h : g N a0 a1 (fun r0 => some [.dat (K.bool) r0]) = some rs) : CallsTo P 47 [⟨.sl (.st (.pr (.int .i64) (.int .i64))), a0⟩, ⟨.sl (.st (.pr (.int .i64) (.int .i64))), a1⟩] rs := evF_calls' (ctxOk N) (by rfl) (ents47_ok N) ((eq N a0 a1).trans h)
def L0.l {α : Type} (N : Nat) (x0 : (List (Int × Int))) (x1 : (List (Int × Int))) (k0 : (Bool → Option α)) (k1 : Option α) : List (Int × Int) → Int → Option α
 | [], x2 => k1 
 | x :: l, x2 => (cond (decide (0 ≤ x2) && decide (x2 < (↑x1.length : Int))) (cond (!(x.fst == (x1.getD x2.toNat ((0 : Int), (0 : Int))).fst && (x.snd == (x1.getD x2.toNat ((0 : Int), (0 : Int))).snd && true))) (k0 (false)) (L0.l N x0 x1 k0 k1 l (x2 + 1))) (none))
theorem L0.rng {α : Type} {N : Nat} (x0 : (List (Int × Int))) (x1 : (List (Int × Int))) (hl : x0.length ≤ maxLen) (k0 : (Bool → Option α)) (k1 : Option α) : ∀ (n j : Nat), x0.length < n + j → j ≤ x0.length → L0.f N x0 x1 n (j : Int) k0 k1 = L0.l N x0 x1 k0 k1 (x0.drop j) (j : Int)
 | 0, j, h, hj => absurd h (by omega)
 | n + 1, j, h, hj => by
  by_cases hlt : j < x0.length
  ·
   have e1 : decide ((j : Int) < (x0.length : Int)) = true := decide_eq_true (Int.ofNat_lt.2 hlt)
   have e2 : decide ((0 : Int) ≤ (j : Int)) = true := decide_eq_true (Int.natCast_nonneg j)
   have e3 : ∀ z, x0.getD (Int.toNat (j : Int)) z = x0[j] := fun z => by rw [Int.toNat_natCast]; exact (List.getElem_eq_getD z).symm
   have e3' : ∀ z, x0.getD (0 + Int.toNat (j : Int)) z = x0[j] := fun z => by rw [Nat.zero_add]; exact e3 z
   have e4 : IntKind.i64.wrap ((j : Int) + 1) = (j : Int) + 1 := wrap_next hlt hl
   have ih : ∀ (_ : Unit), L0.f N x0 x1 n ((j : Int) + 1) k0 k1 = L0.l N x0 x1 k0 k1 (x0.drop (j + 1)) ((j : Int) + 1) := fun _ => L0.rng x0 x1 hl k0 k1 n (j + 1) (by omega) (by omega)
   rw [List.drop_eq_getElem_cons hlt]
   replace ih := ih ()
   first
    | (simp only [L0.f, L0.st, L0.l, e1, e2, e3, e3', e4, Bool.true_and, Bool.and_true, Bool.and_self, cond_true, ih]; done)
    | (simp only [L0.f, L0.st, L0.l, e1, e2, e3, e3', e4, Bool.true_and, Bool.and_true, Bool.and_self, cond_true, ih]; rfl)
  ·
   have e1 : decide ((j : Int) < (x0.length : Int)) = false := decide_eq_false (fun hc => hlt (Int.ofNat_lt.1 hc))
   rw [List.drop_eq_nil_of_le (by omega)]
   simp only [L0.f, L0.st, L0.l, e1, cond_false]
end pf09_SameArcs
theorem pf09_SameArcs.L0.law {α : Type} {N : Nat} (x0 : (List (Int × Int))) (x1 : (List (Int × Int))) (k0 : (Bool → Option α)) (k1 : Option α) : ∀ (l : List (Int × Int)) (j : Nat), l.length = (x1.drop j).length → pf09_SameArcs.L0.l N x0 x1 k0 k1 l (j : Int) = cond (decide (l = x1.drop j)) k1 (k0 false)
 | [], j, h => by
  have : x1.drop j = [] := List.eq_nil_of_length_eq_zero (by simpa using h.symm)
  rw [this]
  rfl
 | x :: l, j, h => by
  have hj : j < x1.length := by simp at h; omega
  rw [pf09_SameArcs.L0.l, d_0, d_lt hj, getD_at hj]
  rw [← succ_cast, pf09_SameArcs.L0.law _ _ _ _ l (j + 1) (by simp at h ⊢; omega), List.drop_eq_getElem_cons hj]
  have e : decide (x :: l = x1[j] :: x1.drop (j + 1)) = ((x.1 == x1[j].1 && (x.2 == x1[j].2 && true)) && decide (l = x1.drop (j + 1))) := by
   rw [Bool.eq_iff_iff]
   simp only [decide_eq_true_eq, Bool.and_eq_true, beq_iff_eq, and_true, List.cons.injEq, Prod.ext_iff]
  rw [e]
  cases (x.1 == x1[j].1 && (x.2 == x1[j].2 && true)) <;> rfl
theorem pf09_SameArcs.law {α : Type} {N : Nat} (hN : 18446744073709551616 ≤ N) (a0 : List (Int × Int)) (a1 : List (Int × Int)) (w0 : K.wf (.sl (.st (.pr (.int .i64) (.int .i64)))) a0) (w1 : K.wf (.sl (.st (.pr (.int .i64) (.int .i64)))) a1) (kr : (Bool → Option α)) : pf09_SameArcs.g N a0 a1 kr = kr (pf09_SameArcs.spec a0 a1) := by
 unfold pf09_SameArcs.g pf09_SameArcs.spec
 rw [bne_len]
 by_cases h : a0.length = a1.length
 ·
  rw [beq_t h]
  simp only [Bool.not_true, cond_false]
  refine (pf09_SameArcs.L0.rng (N := N) _ _ (w0.1) _ _ N 0  (by have := le_fuel (w0.1) hN; omega) (Nat.zero_le _)).trans ?_
  rw [List.drop_zero, pf09_SameArcs.L0.law _ _ _ _ _ 0 (by simpa using h), List.drop_zero]
  cases decide (a0 = a1) <;> rfl
 ·
  rw [beq_f h, decide_eq_false (fun hc => h (by rw [hc]))]
  rfl
theorem pf09_SameArcs.ok : FentOk P 47 pf09_SameArcs.fent := fentOk_of (by kernel_rfl) fun ds hk => by
 obtain ⟨a0, l0, rfl, h0⟩ := ds_cons hk
 obtain ⟨a1, l1, rfl, h1⟩ := ds_cons h0
 obtain rfl := ds0 h1
 exact ⟨true, [.dat (.bool) (pf09_SameArcs.spec a0 a1)], fun h hw => pf09_SameArcs.calls 18446744073709551616 a0 a1 (pf09_SameArcs.law (Nat.le_refl _) a0 a1 hw.1 hw.2.1 _), fun α k => rfl⟩
end Go.VI
namespace Go.VI
open Go Go.Proofs
namespace pf09_Equal
def an17 : Ann := [(4, [2, 3, 5], [2, 3, 4]), (9, [2, 3, 6], [4])]
def L0.sh : Sh := { sl := [(2, SV.a (SA.fx (Atom.box 0 0))), (3, SV.a (SA.fx (Atom.box 1 0))), (5, SV.a (SA.d (K.int IntKind.i64)))], os := [(0, SO.box [SA.d K.str, SA.d (K.str.pr ((K.int IntKind.i64).pr (K.int IntKind.i64))).st.sl, SA.d (K.str.pr (((K.int IntKind.i64).pr (K.int IntKind.i64)).st.sl.pr (((K.int IntKind.i64).pr (K.int IntKind.i64)).st.sl.pr (((K.int IntKind.i64).pr (K.int IntKind.i64)).st.sl.pr (K.int IntKind.i64))))).st.sl]), (1, SO.box [SA.d K.str, SA.d (K.str.pr ((K.int IntKind.i64).pr (K.int IntKind.i64))).st.sl, SA.d (K.str.pr (((K.int IntKind.i64).pr (K.int IntKind.i64)).st.sl.pr (((K.int IntKind.i64).pr (K.int IntKind.i64)).st.sl.pr (((K.int IntKind.i64).pr (K.int IntKind.i64)).st.sl.pr (K.int IntKind.i64))))).st.sl])], nx := 2 }
def L0.x0 : Sh := { sl := [(2, SV.a (SA.fx (Atom.box 0 0))), (3, SV.a (SA.fx (Atom.box 1 0))), (4, SV.a (SA.d K.bool))], os := [(0, SO.box [SA.d K.str, SA.d (K.str.pr ((K.int IntKind.i64).pr (K.int IntKind.i64))).st.sl, SA.d (K.str.pr (((K.int IntKind.i64).pr (K.int IntKind.i64)).st.sl.pr (((K.int IntKind.i64).pr (K.int IntKind.i64)).st.sl.pr (((K.int IntKind.i64).pr (K.int IntKind.i64)).st.sl.pr (K.int IntKind.i64))))).st.sl]), (1, SO.box [SA.d K.str, SA.d (K.str.pr ((K.int IntKind.i64).pr (K.int IntKind.i64))).st.sl, SA.d (K.str.pr (((K.int IntKind.i64).pr (K.int IntKind.i64)).st.sl.pr (((K.int IntKind.i64).pr (K.int IntKind.i64)).st.sl.pr (((K.int IntKind.i64).pr (K.int IntKind.i64)).st.sl.pr (K.int IntKind.i64))))).st.sl])], nx := 2 }
def L0.x1 : Sh := { sl := [(2, SV.a (SA.fx (Atom.box 0 0))), (3, SV.a (SA.fx (Atom.box 1 0))), (4, SV.j)], os := [(0, SO.box [SA.d K.str, SA.d (K.str.pr ((K.int IntKind.i64).pr (K.int IntKind.i64))).st.sl, SA.d (K.str.pr (((K.int IntKind.i64).pr (K.int IntKind.i64)).st.sl.pr (((K.int IntKind.i64).pr (K.int IntKind.i64)).st.sl.pr (((K.int IntKind.i64).pr (K.int IntKind.i64)).st.sl.pr (K.int IntKind.i64))))).st.sl]), (1, SO.box [SA.d K.str, SA.d (K.str.pr ((K.int IntKind.i64).pr (K.int IntKind.i64))).st.sl, SA.d (K.str.pr (((K.int IntKind.i64).pr (K.int IntKind.i64)).st.sl.pr (((K.int IntKind.i64).pr (K.int IntKind.i64)).st.sl.pr (((K.int IntKind.i64).pr (K.int IntKind.i64)).st.sl.pr (K.int IntKind.i64))))).st.sl])], nx := 2 }
def L0.st {α : Type} (N : Nat) (x1 : BA) (x2 : (List (BA × Int × Int))) (x3 : (List (BA × List (Int × Int) × List (Int × Int) × List (Int × Int) × Int))) (x4 : BA) (x5 : (List (BA × Int × Int))) (x6 : (List (BA × List (Int × Int) × List (Int × Int) × List (Int × Int) × Int))) (φ : (Int → Option α)) (x0 : Int) (k0 : (Bool → Option α)) (k1 : Option α) : Option α :=
 cond (decide (x0 < (↑x2.length : Int))) (cond (decide (0 ≤ x0) && decide (x0 < (↑x2.length : Int))) (cond (decide (0 ≤ x0) && decide (x0 < (↑x5.length : Int))) (cond (!(sEq (x2.getD x0.toNat (eBA, 0, 0)).fst (x5.getD x0.toNat (eBA, 0, 0)).fst && ((x2.getD x0.toNat (eBA, 0, 0)).snd.fst == (x5.getD x0.toNat (eBA, 0, 0)).snd.fst && ((x2.getD x0.toNat (eBA, 0, 0)).snd.snd == (x5.getD x0.toNat (eBA, 0, 0)).snd.snd && true)))) (k0 (false)) (φ (IntKind.i64.wrap (x0 + 1)))) (none)) (none)) (k1 )
def L0.f {α : Type} (N : Nat) (c0 : BA) (c1 : (List (BA × Int × Int))) (c2 : (List (BA × List (Int × Int) × List (Int × Int) × List (Int × Int) × Int))) (c3 : BA) (c4 : (List (BA × Int × Int))) (c5 : (List (BA × List (Int × Int) × List (Int × Int) × List (Int × Int) × Int))) : Nat → Int → (Bool → Option α) → Option α → Option α
 | 0, _, _, _ => none
 | n + 1, d0, k0, k1 => L0.st N c0 c1 c2 c3 c4 c5 (fun e0 => L0.f N c0 c1 c2 c3 c4 c5 n e0 k0 k1) d0 k0 k1
def L0.F {α : Type} (N : Nat) (d : L0.sh.T) (K : Cont α) : Option α := L0.f N d.2.1.1 d.2.1.2.1 d.2.1.2.2.1 d.2.2.1.1 d.2.2.1.2.1 d.2.2.1.2.2.1 N d.1.2.2.1 (fun y0 => K (Exit.ret) (L0.x0.enc (((), ((), (y0, ()))), ((d.2.1.1, (d.2.1.2.1, (d.2.1.2.2.1, ()))), ((d.2.2.1.1, (d.2.2.1.2.1, (d.2.2.1.2.2.1, ()))), ()))))) (K (Exit.exit 0) (L0.x1.enc (((), ((), ((), ()))), ((d.2.1.1, (d.2.1.2.1, (d.2.1.2.2.1, ()))), ((d.2.2.1.1, (d.2.2.1.2.1, (d.2.2.1.2.2.1, ()))), ())))))
def L1.sh : Sh := { sl := [(2, SV.a (SA.fx (Atom.box 0 0))), (3, SV.a (SA.fx (Atom.box 1 0))), (6, SV.a (SA.d (K.int IntKind.i64)))], os := [(0, SO.box [SA.d K.str, SA.d (K.str.pr ((K.int IntKind.i64).pr (K.int IntKind.i64))).st.sl, SA.d (K.str.pr (((K.int IntKind.i64).pr (K.int IntKind.i64)).st.sl.pr (((K.int IntKind.i64).pr (K.int IntKind.i64)).st.sl.pr (((K.int IntKind.i64).pr (K.int IntKind.i64)).st.sl.pr (K.int IntKind.i64))))).st.sl]), (1, SO.box [SA.d K.str, SA.d (K.str.pr ((K.int IntKind.i64).pr (K.int IntKind.i64))).st.sl, SA.d (K.str.pr (((K.int IntKind.i64).pr (K.int IntKind.i64)).st.sl.pr (((K.int IntKind.i64).pr (K.int IntKind.i64)).st.sl.pr (((K.int IntKind.i64).pr (K.int IntKind.i64)).st.sl.pr (K.int IntKind.i64))))).st.sl])], nx := 2 }
def L1.x0 : Sh := { sl := [(4, SV.a (SA.d K.bool))], os := [], nx := 0 }
def L1.x1 : Sh := { sl := [(4, SV.j)], os := [], nx := 0 }
def L1.st {α : Type} (N : Nat) (x9 : BA) (x10 : (List (BA × Int × Int))) (x11 : (List (BA × List (Int × Int) × List (Int × Int) × List (Int × Int) × Int))) (x12 : BA) (x13 : (List (BA × Int × Int))) (x14 : (List (BA × List (Int × Int) × List (Int × Int) × List (Int × Int) × Int))) (φ : (Int → Option α)) (x8 : Int) (k0 : (Bool → Option α)) (k1 : Option α) : Option α :=
 cond (decide (x8 < (↑x11.length : Int))) (cond (decide (0 ≤ x8) && decide (x8 < (↑x11.length : Int))) (cond (decide (0 ≤ x8) && decide (x8 < (↑x14.length : Int))) (cond (decide (0 ≤ x8) && decide (x8 < (↑x11.length : Int))) (cond (decide (0 ≤ x8) && decide (x8 < (↑x14.length : Int))) (cond (!sEq (x11.getD x8.toNat (eBA, [], [], [], 0)).fst (x14.getD x8.toNat (eBA, [], [], [], 0)).fst) (k0 (false)) (cond ((x11.getD x8.toNat (eBA, [], [], [], 0)).snd.snd.snd.snd != (x14.getD x8.toNat (eBA, [], [], [], 0)).snd.snd.snd.snd) (k0 (false)) (cond (!pf09_SameArcs.spec (x11.getD x8.toNat (eBA, [], [], [], 0)).snd.fst (x14.getD x8.toNat (eBA, [], [], [], 0)).snd.fst) (k0 (false)) (cond (!pf09_SameArcs.spec (x11.getD x8.toNat (eBA, [], [], [], 0)).snd.snd.fst (x14.getD x8.toNat (eBA, [], [], [], 0)).snd.snd.fst) (k0 (false)) (cond (!pf09_SameArcs.spec (x11.getD x8.toNat (eBA, [], [], [], 0)).snd.snd.snd.fst (x14.getD x8.toNat (eBA, [], [], [], 0)).snd.snd.snd.fst) (k0 (false)) (φ (IntKind.i64.wrap (x8 + 1)))))))) (none)) (none)) (none)) (none)) (k1 )
def L1.f {α : Type} (N : Nat) (c0 : BA) (c1 : (List (BA × Int × Int))) (c2 : (List (BA × List (Int × Int) × List (Int × Int) × List (Int × Int) × Int))) (c3 : BA) (c4 : (List (BA × Int × Int))) (c5 : (List (BA × List (Int × Int) × List (Int × Int) × List (Int × Int) × Int))) : Nat → Int → (Bool → Option α) → Option α → Option α
 | 0, _, _, _ => none
 | n + 1, d0, k0, k1 => L1.st N c0 c1 c2 c3 c4 c5 (fun e0 => L1.f N c0 c1 c2 c3 c4 c5 n e0 k0 k1) d0 k0 k1
def L1.F {α : Type} (N : Nat) (d : L1.sh.T) (K : Cont α) : Option α := L1.f N d.2.1.1 d.2.1.2.1 d.2.1.2.2.1 d.2.2.1.1 d.2.2.1.2.1 d.2.2.1.2.2.1 N d.1.2.2.1 (fun y0 => K (Exit.ret) (L1.x0.enc ((y0, ()), ()))) (K (Exit.exit 2) (L1.x1.enc (((), ()), ())))
def ents17 {α : Type} (N : Nat) : List (SmE α) := [⟨0, 50, 4, [⟨L0.sh, L0.F N⟩]⟩, ⟨0, 50, 9, [⟨L1.sh, L1.F N⟩]⟩]
def C (N : Nat) : Ctx := ⟨tys, [(47, pf09_SameArcs.fent)], [], N⟩
def L0.B {α : Type} (N : Nat) : Env → Cont α → Option α := evC tys 103 0 (evCall (C N) 50) (evCallQ (C N)) N an17 (smL (ents17 N) 0 50) (loopOf 4 Tryd.f17)
theorem L0.r {α : Type} (N : Nat) (c0 : BA) (c1 : (List (BA × Int × Int))) (c2 : (List (BA × List (Int × Int) × List (Int × Int) × List (Int × Int) × Int))) (c3 : BA) (c4 : (List (BA × Int × Int))) (c5 : (List (BA × List (Int × Int) × List (Int × Int) × List (Int × Int) × Int))) (φ : Env → Option α) (K : Cont α) (d0 : Int) : L0.B N (L0.sh.enc (((), ((), (d0, ()))), ((c0, (c1, (c2, ()))), ((c3, (c4, (c5, ()))), ())))) (contL φ K (Env.norm 0 [2, 3, 5]) (Env.norm 0 [2, 3, 4])) = L0.st N c0 c1 c2 c3 c4 c5 (fun e0 => φ (L0.sh.enc (((), ((), (e0, ()))), ((c0, (c1, (c2, ()))), ((c3, (c4, (c5, ()))), ()))))) d0 (fun y0 => K (Exit.ret) (L0.x0.enc (((), ((), (y0, ()))), ((c0, (c1, (c2, ()))), ((c3, (c4, (c5, ()))), ()))))) (K (Exit.exit 0) (L0.x1.enc (((), ((), ((), ()))), ((c0, (c1, (c2, ()))), ((c3, (c4, (c5, ()))), ()))))) := by kernel_rfl
theorem L0.e {α : Type} (N : Nat) (c0 : BA) (c1 : (List (BA × Int × Int))) (c2 : (List (BA × List (Int × Int) × List (Int × Int) × List (Int × Int) × Int))) (c3 : BA) (c4 : (List (BA × Int × Int))) (c5 : (List (BA × List (Int × Int) × List (Int × Int) × List (Int × Int) × Int))) : ∀ (n : Nat) (d0 : Int) (K : Cont α), evL (L0.B N) (Env.norm 0 [2, 3, 5]) (Env.norm 0 [2, 3, 4]) n (L0.sh.enc (((), ((), (d0, ()))), ((c0, (c1, (c2, ()))), ((c3, (c4, (c5, ()))), ())))) K = L0.f N c0 c1 c2 c3 c4 c5 n d0 (fun y0 => K (Exit.ret) (L0.x0.enc (((), ((), (y0, ()))), ((c0, (c1, (c2, ()))), ((c3, (c4, (c5, ()))), ()))))) (K (Exit.exit 0) (L0.x1.enc (((), ((), ((), ()))), ((c0, (c1, (c2, ()))), ((c3, (c4, (c5, ()))), ())))))
 | 0, d0, K => rfl
 | n + 1, d0, K => evL_contL.trans ((L0.r N c0 c1 c2 c3 c4 c5 (fun e => evL (L0.B N) (Env.norm 0 [2, 3, 5]) (Env.norm 0 [2, 3, 4]) n e K) K d0).trans (congrArg (fun φ => L0.st N c0 c1 c2 c3 c4 c5 φ d0 (fun y0 => K (Exit.ret) (L0.x0.enc (((), ((), (y0, ()))), ((c0, (c1, (c2, ()))), ((c3, (c4, (c5, ()))), ()))))) (K (Exit.exit 0) (L0.x1.enc (((), ((), ((), ()))), ((c0, (c1, (c2, ()))), ((c3, (c4, (c5, ()))), ())))))) (funext fun e0 => L0.e N c0 c1 c2 c3 c4 c5 n e0 K)))
def L1.B {α : Type} (N : Nat) : Env → Cont α → Option α := evC tys 103 0 (evCall (C N) 50) (evCallQ (C N)) N an17 (smL (ents17 N) 0 50) (loopOf 9 Tryd.f17)
theorem L1.r {α : Type} (N : Nat) (c0 : BA) (c1 : (List (BA × Int × Int))) (c2 : (List (BA × List (Int × Int) × List (Int × Int) × List (Int × Int) × Int))) (c3 : BA) (c4 : (List (BA × Int × Int))) (c5 : (List (BA × List (Int × Int) × List (Int × Int) × List (Int × Int) × Int))) (φ : Env → Option α) (K : Cont α) (d0 : Int) : L1.B N (L1.sh.enc (((), ((), (d0, ()))), ((c0, (c1, (c2, ()))), ((c3, (c4, (c5, ()))), ())))) (contL φ K (Env.norm 0 [2, 3, 6]) (Env.norm 0 [4])) = L1.st N c0 c1 c2 c3 c4 c5 (fun e0 => φ (L1.sh.enc (((), ((), (e0, ()))), ((c0, (c1, (c2, ()))), ((c3, (c4, (c5, ()))), ()))))) d0 (fun y0 => K (Exit.ret) (L1.x0.enc ((y0, ()), ()))) (K (Exit.exit 2) (L1.x1.enc (((), ()), ()))) := by kernel_rfl
theorem L1.e {α : Type} (N : Nat) (c0 : BA) (c1 : (List (BA × Int × Int))) (c2 : (List (BA × List (Int × Int) × List (Int × Int) × List (Int × Int) × Int))) (c3 : BA) (c4 : (List (BA × Int × Int))) (c5 : (List (BA × List (Int × Int) × List (Int × Int) × List (Int × Int) × Int))) : ∀ (n : Nat) (d0 : Int) (K : Cont α), evL (L1.B N) (Env.norm 0 [2, 3, 6]) (Env.norm 0 [4]) n (L1.sh.enc (((), ((), (d0, ()))), ((c0, (c1, (c2, ()))), ((c3, (c4, (c5, ()))), ())))) K = L1.f N c0 c1 c2 c3 c4 c5 n d0 (fun y0 => K (Exit.ret) (L1.x0.enc ((y0, ()), ()))) (K (Exit.exit 2) (L1.x1.enc (((), ()), ())))
 | 0, d0, K => rfl
 | n + 1, d0, K => evL_contL.trans ((L1.r N c0 c1 c2 c3 c4 c5 (fun e => evL (L1.B N) (Env.norm 0 [2, 3, 6]) (Env.norm 0 [4]) n e K) K d0).trans (congrArg (fun φ => L1.st N c0 c1 c2 c3 c4 c5 φ d0 (fun y0 => K (Exit.ret) (L1.x0.enc ((y0, ()), ()))) (K (Exit.exit 2) (L1.x1.enc (((), ()), ())))) (funext fun e0 => L1.e N c0 c1 c2 c3 c4 c5 n e0 K)))
theorem ents17_ok {α : Type} (N : Nat) : AllP (EntOk (C N) Tryd.f17 an17 (ents17 (α := α) N)) (ents17 N) := ⟨entOk_of (b0 := loopOf 4 Tryd.f17) (li0 := [2, 3, 5]) (lx0 := [2, 3, 4]) (by kernel_rfl) (by kernel_rfl) ⟨fun d K => L0.e N d.2.1.1 d.2.1.2.1 d.2.1.2.2.1 d.2.2.1.1 d.2.2.1.2.1 d.2.2.1.2.2.1 N d.1.2.2.1 K, trivial⟩, entOk_of (b0 := loopOf 9 Tryd.f17) (li0 := [2, 3, 6]) (lx0 := [4]) (by kernel_rfl) (by kernel_rfl) ⟨fun d K => L1.e N d.2.1.1 d.2.1.2.1 d.2.1.2.2.1 d.2.2.1.1 d.2.2.1.2.1 d.2.2.1.2.2.1 N d.1.2.2.1 K, trivial⟩, trivial⟩
def g {α : Type} (N : Nat) (a0 : BA × List (BA × Int × Int) × List (BA × List (Int × Int) × List (Int × Int) × List (Int × Int) × Int)) (a1 : BA × List (BA × Int × Int) × List (BA × List (Int × Int) × List (Int × Int) × List (Int × Int) × Int)) (kr : (Bool → Option α)) : Option α :=
 cond (!sEq a0.fst a1.fst) (kr (false)) (cond ((↑(List.length a0.snd.fst) : Int) != (↑(List.length a1.snd.fst) : Int)) (kr (false)) (cond ((↑(List.length a0.snd.snd) : Int) != (↑(List.length a1.snd.snd) : Int)) (kr (false)) (L0.f N (a0.fst) (a0.snd.fst) (a0.snd.snd) (a1.fst) (a1.snd.fst) (a1.snd.snd) N (0) (fun x7 => kr (x7)) (L1.f N (a0.fst) (a0.snd.fst) (a0.snd.snd) (a1.fst) (a1.snd.fst) (a1.snd.snd) N (0) (fun x15 => kr (x15)) (kr (true))))))
theorem eq (N : Nat) (a0 : BA × List (BA × Int × Int) × List (BA × List (Int × Int) × List (Int × Int) × List (Int × Int) × Int)) (a1 : BA × List (BA × Int × Int) × List (BA × List (Int × Int) × List (Int × Int) × List (Int × Int) × Int)) : evF (C N) 50 Tryd.f17 an17 (smL (ents17 N) 0 50) [((.bool : K), false)] [⟨.st (.pr (.str) (.pr (.sl (.st (.pr (.str) (.pr (.int .i64) (.int .i64))))) (.sl (.st (.pr (.str) (.pr (.sl (.st (.pr (.int .i64) (.int .i64)))) (.pr (.sl (.st (.pr (.int .i64) (.int .i64)))) (.pr (.sl (.st (.pr (.int .i64) (.int .i64)))) (.int .i64))))))))), a0⟩, ⟨.st (.pr (.str) (.pr (.sl (.st (.pr (.str) (.pr (.int .i64) (.int .i64))))) (.sl (.st (.pr (.str) (.pr (.sl (.st (.pr (.int .i64) (.int .i64)))) (.pr (.sl (.st (.pr (.int .i64) (.int .i64)))) (.pr (.sl (.st (.pr (.int .i64) (.int .i64)))) (.int .i64))))))))), a1⟩] = g N a0 a1 (fun r0 => some [.dat (K.bool) r0]) := by kernel_rfl
theorem ctxOk (N : Nat) : CtxOk P (C N) := ctxOk_of tysOk mixedOk ⟨pf09_SameArcs.ok, trivial⟩ trivial
theorem calls (N : Nat) (a0 : BA × List (BA × Int × Int) × List (BA × List (Int × Int) × List (Int × Int) × List (Int × Int) × Int)) (a1 : BA × List (BA × Int × Int) × List (BA × List (Int × Int) × List (Int × Int) × List (Int × Int) × Int)) {rs : List Rs} (h : g N a0 a1 (fun r0 => some [.dat (K.bool) r0]) = some rs) : CallsTo P 17 [⟨.st (.pr (.str) (.pr (.sl (.st (.pr (.str) (.pr (.int .i64) (.int .i64))))) (.sl (.st (.pr (.str) (.pr (.sl (.st (.pr (.int .i64) (.int .i64)))) (.pr (.sl (.st (.pr (.int .i64) (.int .i64)))) (.pr (.sl (.st (.pr (.int .i64) (.int .i64)))) (.int .i64))))))))), a0⟩, ⟨.st (.pr (.str) (.pr (.sl (.st (.pr (.str) (.pr (.int .i64) (.int .i64))))) (.sl (.st (.pr (.str) (.pr (.sl (.st (.pr (.int .i64) (.int .i64)))) (.pr (.sl (.st (.pr (.int .i64) (.int .i64)))) (.pr (.sl (.st (.pr (.int .i64) (.int .i64)))) (.int .i64))))))))), a1⟩] rs := evF_calls' (ctxOk N) (by rfl) (ents17_ok N) ((eq N a0 a1).trans h)
def L0.l {α : Type} (N : Nat) (x1 : BA) (x2 : (List (BA × Int × Int))) (x3 : (List (BA × List (Int × Int) × List (Int × Int) × List (Int × Int) × Int))) (x4 : BA) (x5 : (List (BA × Int × Int))) (x6 : (List (BA × List (Int × Int) × List (Int × Int) × List (Int × Int) × Int))) (k0 : (Bool → Option α)) (k1 : Option α) : List (BA × Int × Int) → Int → Option α
 | [], x0 => k1 
 | x :: l, x0 => (cond (decide (0 ≤ x0) && decide (x0 < (↑x5.length : Int))) (cond (!(sEq x.fst (x5.getD x0.toNat (eBA, 0, 0)).fst && (x.snd.fst == (x5.getD x0.toNat (eBA, 0, 0)).snd.fst && (x.snd.snd == (x5.getD x0.toNat (eBA, 0, 0)).snd.snd && true)))) (k0 (false)) (L0.l N x1 x2 x3 x4 x5 x6 k0 k1 l (x0 + 1))) (none))
theorem L0.rng {α : Type} {N : Nat} (x1 : BA) (x2 : (List (BA × Int × Int))) (x3 : (List (BA × List (Int × Int) × List (Int × Int) × List (Int × Int) × Int))) (x4 : BA) (x5 : (List (BA × Int × Int))) (x6 : (List (BA × List (Int × Int) × List (Int × Int) × List (Int × Int) × Int))) (hl : x2.length ≤ maxLen) (k0 : (Bool → Option α)) (k1 : Option α) : ∀ (n j : Nat), x2.length < n + j → j ≤ x2.length → L0.f N x1 x2 x3 x4 x5 x6 n (j : Int) k0 k1 = L0.l N x1 x2 x3 x4 x5 x6 k0 k1 (x2.drop j) (j : Int)
 | 0, j, h, hj => absurd h (by omega)
 | n + 1, j, h, hj => by
  by_cases hlt : j < x2.length
  ·
   have e1 : decide ((j : Int) < (x2.length : Int)) = true := decide_eq_true (Int.ofNat_lt.2 hlt)
   have e2 : decide ((0 : Int) ≤ (j : Int)) = true := decide_eq_true (Int.natCast_nonneg j)
   have e3 : ∀ z, x2.getD (Int.toNat (j : Int)) z = x2[j] := fun z => by rw [Int.toNat_natCast]; exact (List.getElem_eq_getD z).symm
   have e3' : ∀ z, x2.getD (0 + Int.toNat (j : Int)) z = x2[j] := fun z => by rw [Nat.zero_add]; exact e3 z
   have e4 : IntKind.i64.wrap ((j : Int) + 1) = (j : Int) + 1 := wrap_next hlt hl
   have ih : ∀ (_ : Unit), L0.f N x1 x2 x3 x4 x5 x6 n ((j : Int) + 1) k0 k1 = L0.l N x1 x2 x3 x4 x5 x6 k0 k1 (x2.drop (j + 1)) ((j : Int) + 1) := fun _ => L0.rng x1 x2 x3 x4 x5 x6 hl k0 k1 n (j + 1) (by omega) (by omega)
   rw [List.drop_eq_getElem_cons hlt]
   replace ih := ih ()
   first
    | (simp only [L0.f, L0.st, L0.l, e1, e2, e3, e3', e4, Bool.true_and, Bool.and_true, Bool.and_self, cond_true, ih]; done)
    | (simp only [L0.f, L0.st, L0.l, e1, e2, e3, e3', e4, Bool.true_and, Bool.and_true, Bool.and_self, cond_true, ih]; rfl)
  ·
   have e1 : decide ((j : Int) < (x2.length : Int)) = false := decide_eq_false (fun hc => hlt (Int.ofNat_lt.1 hc))
   rw [List.drop_eq_nil_of_le (by omega)]
   simp only [L0.f, L0.st, L0.l, e1, cond_false]
def L1.l {α : Type} (N : Nat) (x9 : BA) (x10 : (List (BA × Int × Int))) (x11 : (List (BA × List (Int × Int) × List (Int × Int) × List (Int × Int) × Int))) (x12 : BA) (x13 : (List (BA × Int × Int))) (x14 : (List (BA × List (Int × Int) × List (Int × Int) × List (Int × Int) × Int))) (k0 : (Bool → Option α)) (k1 : Option α) : List (BA × List (Int × Int) × List (Int × Int) × List (Int × Int) × Int) → Int → Option α
 | [], x8 => k1 
 | x :: l, x8 => (cond (decide (0 ≤ x8) && decide (x8 < (↑x14.length : Int))) ((cond (decide (0 ≤ x8) && decide (x8 < (↑x14.length : Int))) (cond (!sEq x.fst (x14.getD x8.toNat (eBA, [], [], [], 0)).fst) (k0 (false)) (cond (x.snd.snd.snd.snd != (x14.getD x8.toNat (eBA, [], [], [], 0)).snd.snd.snd.snd) (k0 (false)) (cond (!pf09_SameArcs.spec x.snd.fst (x14.getD x8.toNat (eBA, [], [], [], 0)).snd.fst) (k0 (false)) (cond (!pf09_SameArcs.spec x.snd.snd.fst (x14.getD x8.toNat (eBA, [], [], [], 0)).snd.snd.fst) (k0 (false)) (cond (!pf09_SameArcs.spec x.snd.snd.snd.fst (x14.getD x8.toNat (eBA, [], [], [], 0)).snd.snd.snd.fst) (k0 (false)) (L1.l N x9 x10 x11 x12 x13 x14 k0 k1 l (x8 + 1))))))) (none))) (none))
theorem L1.rng {α : Type} {N : Nat} (x9 : BA) (x10 : (List (BA × Int × Int))) (x11 : (List (BA × List (Int × Int) × List (Int × Int) × List (Int × Int) × Int))) (x12 : BA) (x13 : (List (BA × Int × Int))) (x14 : (List (BA × List (Int × Int) × List (Int × Int) × List (Int × Int) × Int))) (hl : x11.length ≤ maxLen) (k0 : (Bool → Option α)) (k1 : Option α) : ∀ (n j : Nat), x11.length < n + j → j ≤ x11.length → L1.f N x9 x10 x11 x12 x13 x14 n (j : Int) k0 k1 = L1.l N x9 x10 x11 x12 x13 x14 k0 k1 (x11.drop j) (j : Int)
 | 0, j, h, hj => absurd h (by omega)
 | n + 1, j, h, hj => by
  by_cases hlt : j < x11.length
  ·
   have e1 : decide ((j : Int) < (x11.length : Int)) = true := decide_eq_true (Int.ofNat_lt.2 hlt)
   have e2 : decide ((0 : Int) ≤ (j : Int)) = true := decide_eq_true (Int.natCast_nonneg j)
   have e3 : ∀ z, x11.getD (Int.toNat (j : Int)) z = x11[j] := fun z => by rw [Int.toNat_natCast]; exact (List.getElem_eq_getD z).symm
   have e3' : ∀ z, x11.getD (0 + Int.toNat (j : Int)) z = x11[j] := fun z => by rw [Nat.zero_add]; exact e3 z
   have e4 : IntKind.i64.wrap ((j : Int) + 1) = (j : Int) + 1 := wrap_next hlt hl
   have ih : ∀ (_ : Unit), L1.f N x9 x10 x11 x12 x13 x14 n ((j : Int) + 1) k0 k1 = L1.l N x9 x10 x11 x12 x13 x14 k0 k1 (x11.drop (j + 1)) ((j : Int) + 1) := fun _ => L1.rng x9 x10 x11 x12 x13 x14 hl k0 k1 n (j + 1) (by omega) (by omega)
   rw [List.drop_eq_getElem_cons hlt]
   replace ih := ih ()
   first
    | (simp only [L1.f, L1.st, L1.l, e1, e2, e3, e3', e4, Bool.true_and, Bool.and_true, Bool.and_self, cond_true, ih]; done)
    | (simp only [L1.f, L1.st, L1.l, e1, e2, e3, e3', e4, Bool.true_and, Bool.and_true, Bool.and_self, cond_true, ih]; rfl)
  ·
   have e1 : decide ((j : Int) < (x11.length : Int)) = false := decide_eq_false (fun hc => hlt (Int.ofNat_lt.1 hc))
   rw [List.drop_eq_nil_of_le (by omega)]
   simp only [L1.f, L1.st, L1.l, e1, cond_false]
end pf09_Equal
theorem pf09_Equal.L0.law {α : Type} {N : Nat} (x1 : BA) (x2 : (List (BA × Int × Int))) (x3 : (List (BA × List (Int × Int) × List (Int × Int) × List (Int × Int) × Int))) (x4 : BA) (x5 : (List (BA × Int × Int))) (x6 : (List (BA × List (Int × Int) × List (Int × Int) × List (Int × Int) × Int))) (k0 : (Bool → Option α)) (k1 : Option α) : ∀ (l : List PlaceT) (j : Nat), l.length = (x5.drop j).length → pf09_Equal.L0.l N x1 x2 x3 x4 x5 x6 k0 k1 l (j : Int) = cond (allQ placeQ l (x5.drop j)) k1 (k0 false)
 | [], j, h => by
  have : x5.drop j = [] := List.eq_nil_of_length_eq_zero (by simpa using h.symm)
  rw [this]
  rfl
 | x :: l, j, h => by
  have hj : j < x5.length := by simp at h; omega
  rw [pf09_Equal.L0.l, d_0, d_lt hj, getD_at hj, ← succ_cast, pf09_Equal.L0.law _ _ _ _ _ _ _ _ l (j + 1) (by simp at h ⊢; omega), List.drop_eq_getElem_cons hj, allQ]
  have e : (sEq x.1 x5[j].1 && (x.2.1 == x5[j].2.1 && (x.2.2 == x5[j].2.2 && true))) = placeQ x x5[j] := by unfold placeQ; rw [Bool.and_true]
  rw [e]
  cases placeQ x x5[j] <;> rfl
theorem pf09_Equal.L1.law {α : Type} {N : Nat} (x9 : BA) (x10 : (List (BA × Int × Int))) (x11 : (List (BA × List (Int × Int) × List (Int × Int) × List (Int × Int) × Int))) (x12 : BA) (x13 : (List (BA × Int × Int))) (x14 : (List (BA × List (Int × Int) × List (Int × Int) × List (Int × Int) × Int))) (k0 : (Bool → Option α)) (k1 : Option α) : ∀ (l : List TransT) (j : Nat), l.length = (x14.drop j).length → pf09_Equal.L1.l N x9 x10 x11 x12 x13 x14 k0 k1 l (j : Int) = cond (allQ transQ l (x14.drop j)) k1 (k0 false)
 | [], j, h => by
  have : x14.drop j = [] := List.eq_nil_of_length_eq_zero (by simpa using h.symm)
  rw [this]
  rfl
 | x :: l, j, h => by
  have hj : j < x14.length := by simp at h; omega
  rw [pf09_Equal.L1.l, d_0, d_lt hj, getD_at hj, ← succ_cast, pf09_Equal.L1.law _ _ _ _ _ _ _ _ l (j + 1) (by simp at h ⊢; omega), List.drop_eq_getElem_cons hj, allQ]
  unfold transQ pf09_SameArcs.spec
  simp only [Bool.and_self, cond_true, bne]
  cases sEq x.1 x14[j].1
  ·
   rfl
  cases (x.2.2.2.2 == x14[j].2.2.2.2)
  ·
   rfl
  cases decide (x.2.1 = x14[j].2.1)
  ·
   rfl
  cases decide (x.2.2.1 = x14[j].2.2.1)
  ·
   rfl
  cases decide (x.2.2.2.1 = x14[j].2.2.2.1) <;> rfl
theorem allQ_len {β : Type} {f : β → β → Bool} : ∀ {l m : List β}, allQ f l m = true → l.length = m.length
 | [], [], _ => rfl
 | _ :: _, _ :: _, h => by
  simp only [allQ, Bool.and_eq_true] at h
  simp [allQ_len h.2]
 | [], _ :: _, h => by cases h
 | _ :: _, [], h => by cases h
theorem allQ_ne {β : Type} {f : β → β → Bool} {l m : List β} (h : l.length ≠ m.length) : allQ f l m = false := by
 cases hb : allQ f l m
 ·
  rfl
 ·
  exact absurd (allQ_len hb) h
theorem pf09_Equal.law {α : Type} {N : Nat} (hN : 18446744073709551616 ≤ N) (a0 : BA × (List (BA × Int × Int)) × List (BA × (List (Int × Int)) × (List (Int × Int)) × (List (Int × Int)) × Int)) (a1 : BA × (List (BA × Int × Int)) × List (BA × (List (Int × Int)) × (List (Int × Int)) × (List (Int × Int)) × Int)) (w0 : K.wf (.st (.pr (.str) (.pr (.sl (.st (.pr (.str) (.pr (.int .i64) (.int .i64))))) (.sl (.st (.pr (.str) (.pr (.sl (.st (.pr (.int .i64) (.int .i64)))) (.pr (.sl (.st (.pr (.int .i64) (.int .i64)))) (.pr (.sl (.st (.pr (.int .i64) (.int .i64)))) (.int .i64)))))))))) a0) (w1 : K.wf (.st (.pr (.str) (.pr (.sl (.st (.pr (.str) (.pr (.int .i64) (.int .i64))))) (.sl (.st (.pr (.str) (.pr (.sl (.st (.pr (.int .i64) (.int .i64)))) (.pr (.sl (.st (.pr (.int .i64) (.int .i64)))) (.pr (.sl (.st (.pr (.int .i64) (.int .i64)))) (.int .i64)))))))))) a1) (kr : (Bool → Option α)) : pf09_Equal.g N a0 a1 kr = kr (pf09_Equal.spec a0 a1) := by
 unfold pf09_Equal.g pf09_Equal.spec equalN
 rw [bne_len, bne_len]
 cases sEq a0.1 a1.1
 ·
  rfl
 simp only [Bool.not_true, cond_false, Bool.true_and]
 by_cases h1 : List.length a0.2.1 = List.length a1.2.1
 ·
  rw [beq_t h1]
  by_cases h2 : List.length a0.2.2 = List.length a1.2.2
  ·
   rw [beq_t h2]
   simp only [Bool.not_true, cond_false]
   refine (pf09_Equal.L0.rng (N := N) _ _ _ _ _ _ (w0.2.1.1) _ _ N 0  (by have := le_fuel (w0.2.1.1) hN; omega) (Nat.zero_le _)).trans ?_
   rw [List.drop_zero, pf09_Equal.L0.law _ _ _ _ _ _ _ _ _ 0 (by simpa using h1), List.drop_zero]
   cases allQ placeQ a0.2.1 a1.2.1
   ·
    rfl
   simp only [cond_true, Bool.true_and]
   refine (pf09_Equal.L1.rng (N := N) _ _ _ _ _ _ (w0.2.2.1) _ _ N 0  (by have := le_fuel (w0.2.2.1) hN; omega) (Nat.zero_le _)).trans ?_
   rw [List.drop_zero, pf09_Equal.L1.law _ _ _ _ _ _ _ _ _ 0 (by simpa using h2), List.drop_zero]
   cases allQ transQ a0.2.2 a1.2.2 <;> rfl
  ·
   rw [beq_f h2, allQ_ne h2]
   simp
 ·
  rw [beq_f h1, allQ_ne h1]
  rfl
theorem pf09_Equal.ok : FentOk P 17 pf09_Equal.fent := fentOk_of (by kernel_rfl) fun ds hk => by
 obtain ⟨a0, l0, rfl, h0⟩ := ds_cons hk
 obtain ⟨a1, l1, rfl, h1⟩ := ds_cons h0
 obtain rfl := ds0 h1
 exact ⟨true, [.dat (.bool) (pf09_Equal.spec a0 a1)], fun h hw => pf09_Equal.calls 18446744073709551616 a0 a1 (pf09_Equal.law (Nat.le_refl _) a0 a1 hw.1 hw.2.1 _), fun α k => rfl⟩
end Go.VI
namespace Go.VI
open Go Go.Proofs
namespace pf09_Name
def an80 : Ann := [(4, [0, 3], [2])]
def L0.sh : Sh := { sl := [(0, SV.a (SA.d K.str)), (3, SV.a (SA.d (K.int IntKind.i64)))], os := [], nx := 0 }
def L0.x0 : Sh := { sl := [(2, SV.a (SA.d K.bool))], os := [], nx := 0 }
def L0.x1 : Sh := { sl := [(2, SV.j)], os := [], nx := 0 }
def L0.st {α : Type} (N : Nat) (x0 : BA) (φ : (Int → Option α)) (x1 : Int) (k0 : (Bool → Option α)) (k1 : Option α) : Option α :=
 cond (decide (x1 < (↑x0.data.toList.length : Int))) (cond (decide (0 ≤ x1) && decide (x1 < (↑x0.data.toList.length : Int))) (cond (decide (97 ≤ bAt x0 x1.toNat)) (cond (decide (bAt x0 x1.toNat ≤ 122)) (cond (decide (48 ≤ bAt x0 x1.toNat)) (cond (decide (bAt x0 x1.toNat ≤ 57)) (φ (IntKind.i64.wrap (x1 + 1))) (φ (IntKind.i64.wrap (x1 + 1)))) (φ (IntKind.i64.wrap (x1 + 1)))) (cond (decide (48 ≤ bAt x0 x1.toNat)) (cond (decide (bAt x0 x1.toNat ≤ 57)) (cond (!bAt x0 x1.toNat == 95) (cond (x1 == 0) (k0 (false)) (φ (IntKind.i64.wrap (x1 + 1)))) (φ (IntKind.i64.wrap (x1 + 1)))) (cond (!bAt x0 x1.toNat == 95) (cond (!bAt x0 x1.toNat == 46) (k0 (false)) (cond (x1 == 0) (k0 (false)) (φ (IntKind.i64.wrap (x1 + 1))))) (φ (IntKind.i64.wrap (x1 + 1))))) (cond (!bAt x0 x1.toNat == 95) (cond (!bAt x0 x1.toNat == 46) (k0 (false)) (cond (x1 == 0) (k0 (false)) (φ (IntKind.i64.wrap (x1 + 1))))) (φ (IntKind.i64.wrap (x1 + 1)))))) (cond (decide (48 ≤ bAt x0 x1.toNat)) (cond (decide (bAt x0 x1.toNat ≤ 57)) (cond (!bAt x0 x1.toNat == 95) (cond (x1 == 0) (k0 (false)) (φ (IntKind.i64.wrap (x1 + 1)))) (φ (IntKind.i64.wrap (x1 + 1)))) (cond (!bAt x0 x1.toNat == 95) (cond (!bAt x0 x1.toNat == 46) (k0 (false)) (cond (x1 == 0) (k0 (false)) (φ (IntKind.i64.wrap (x1 + 1))))) (φ (IntKind.i64.wrap (x1 + 1))))) (cond (!bAt x0 x1.toNat == 95) (cond (!bAt x0 x1.toNat == 46) (k0 (false)) (cond (x1 == 0) (k0 (false)) (φ (IntKind.i64.wrap (x1 + 1))))) (φ (IntKind.i64.wrap (x1 + 1)))))) (none)) (k1 )
def L0.f {α : Type} (N : Nat) (c0 : BA) : Nat → Int → (Bool → Option α) → Option α → Option α
 | 0, _, _, _ => none
 | n + 1, d0, k0, k1 => L0.st N c0 (fun e0 => L0.f N c0 n e0 k0 k1) d0 k0 k1
def L0.F {α : Type} (N : Nat) (d : L0.sh.T) (K : Cont α) : Option α := L0.f N d.1.1 N d.1.2.1 (fun y0 => K (Exit.ret) (L0.x0.enc ((y0, ()), ()))) (K (Exit.exit 0) (L0.x1.enc (((), ()), ())))
def ents80 {α : Type} (N : Nat) : List (SmE α) := [⟨0, 50, 4, [⟨L0.sh, L0.F N⟩]⟩]
def C (N : Nat) : Ctx := ⟨tys, [], [], N⟩
def L0.B {α : Type} (N : Nat) : Env → Cont α → Option α := evC tys 54 0 (evCall (C N) 50) (evCallQ (C N)) N an80 (smL (ents80 N) 0 50) (loopOf 4 Tryd.f80)
theorem L0.r {α : Type} (N : Nat) (c0 : BA) (φ : Env → Option α) (K : Cont α) (d0 : Int) : L0.B N (L0.sh.enc ((c0, (d0, ())), ())) (contL φ K (Env.norm 0 [0, 3]) (Env.norm 0 [2])) = L0.st N c0 (fun e0 => φ (L0.sh.enc ((c0, (e0, ())), ()))) d0 (fun y0 => K (Exit.ret) (L0.x0.enc ((y0, ()), ()))) (K (Exit.exit 0) (L0.x1.enc (((), ()), ()))) := by kernel_rfl
theorem L0.e {α : Type} (N : Nat) (c0 : BA) : ∀ (n : Nat) (d0 : Int) (K : Cont α), evL (L0.B N) (Env.norm 0 [0, 3]) (Env.norm 0 [2]) n (L0.sh.enc ((c0, (d0, ())), ())) K = L0.f N c0 n d0 (fun y0 => K (Exit.ret) (L0.x0.enc ((y0, ()), ()))) (K (Exit.exit 0) (L0.x1.enc (((), ()), ())))
 | 0, d0, K => rfl
 | n + 1, d0, K => evL_contL.trans ((L0.r N c0 (fun e => evL (L0.B N) (Env.norm 0 [0, 3]) (Env.norm 0 [2]) n e K) K d0).trans (congrArg (fun φ => L0.st N c0 φ d0 (fun y0 => K (Exit.ret) (L0.x0.enc ((y0, ()), ()))) (K (Exit.exit 0) (L0.x1.enc (((), ()), ())))) (funext fun e0 => L0.e N c0 n e0 K)))
theorem ents80_ok {α : Type} (N : Nat) : AllP (EntOk (C N) Tryd.f80 an80 (ents80 (α := α) N)) (ents80 N) := ⟨entOk_of (b0 := loopOf 4 Tryd.f80) (li0 := [0, 3]) (lx0 := [2]) (by kernel_rfl) (by kernel_rfl) ⟨fun d K => L0.e N d.1.1 N d.1.2.1 K, trivial⟩, trivial⟩
def g {α : Type} (N : Nat) (a0 : BA) (kr : (Bool → Option α)) : Option α :=
 cond (decide ((↑a0.data.toList.length : Int) < 1)) (kr (false)) (cond (decide (16 < (↑a0.data.toList.length : Int))) (kr (false)) (L0.f N (a0) N (0) (fun x2 => kr (x2)) (kr (true))))
theorem eq (N : Nat) (a0 : BA) : evF (C N) 50 Tryd.f80 an80 (smL (ents80 N) 0 50) [((.bool : K), false)] [⟨.str, a0⟩] = g N a0 (fun r0 => some [.dat (K.bool) r0]) := by kernel_rfl
theorem ctxOk (N : Nat) : CtxOk P (C N) := ctxOk_of tysOk mixedOk trivial trivial
theorem calls (N : Nat) (a0 : BA) {rs : List Rs} (h : g N a0 (fun r0 => some [.dat (K.bool) r0]) = some rs) : CallsTo P 80 [⟨.str, a0⟩] rs := evF_calls' (ctxOk N) (by rfl) (ents80_ok N) ((eq N a0).trans h)
end pf09_Name
theorem rname_tree {α : Type} (b1 b2 b3 b4 b5 b6 b7 : Bool) (p k : Option α) :
  cond b1 (cond b2 (cond b3 (cond b4 p p) p) (cond b3 (cond b4 (cond (!b5) (cond b7 k p) p) (cond (!b5) (cond (!b6) k (cond b7 k p)) p)) (cond (!b5) (cond (!b6) k (cond b7 k p)) p))) (cond b3 (cond b4 (cond (!b5) (cond b7 k p) p) (cond (!b5) (cond (!b6) k (cond b7 k p)) p)) (cond (!b5) (cond (!b6) k (cond b7 k p)) p))
   = cond (((b1 && b2) || b5) || (!b7 && ((b3 && b4) || b6))) p k := by
 cases b1 <;> cases b2 <;> cases b3 <;> cases b4 <;> cases b5 <;> cases b6 <;> cases b7 <;> rfl
theorem pf09_Name.L0.law {α : Type} {N : Nat} (s : BA) (hs : s.data.toList.length ≤ 16) (k0 : Bool → Option α) (k1 : Option α) : ∀ (n pos : Nat), s.data.toList.length < n + pos → pos ≤ s.data.toList.length →
  pf09_Name.L0.f N s n (pos : Int) k0 k1 = cond (chkFrom pos (s.data.toList.drop pos)) k1 (k0 false)
 | 0, pos, h, hp => absurd h (by omega)
 | n + 1, pos, h, hp => by
  rw [pf09_Name.L0.f, pf09_Name.L0.st]
  by_cases hlt : pos < s.data.toList.length
  ·
   have hb : bAt s (Int.toNat (pos : Int)) = ((s.data.toList[pos]).toNat : Int) := by
    unfold bAt
    rw [Int.toNat_natCast, getD_n hlt]
   have hw : IntKind.i64.wrap ((pos : Int) + 1) = ((pos + 1 : Nat) : Int) := by rw [wrap_i64 (inI_i64.2 (by omega))]; rfl
   rw [d_lt hlt, d_0, Bool.and_self, cond_true, cond_true, List.drop_eq_getElem_cons hlt, chkFrom, hb, hw, rname_tree, pf09_Name.L0.law s hs k0 k1 n (pos + 1) (by omega) (by omega)]
   have e1 : decide ((97 : Int) ≤ (((s.data.toList[pos]).toNat : Nat) : Int)) = Nat.ble 97 (s.data.toList[pos]).toNat := ble_le 97 _
   have e2 : decide ((((s.data.toList[pos]).toNat : Nat) : Int) ≤ 122) = Nat.ble (s.data.toList[pos]).toNat 122 := ble_le _ 122
   have e3 : ((((s.data.toList[pos]).toNat : Nat) : Int) == 95) = Nat.beq (s.data.toList[pos]).toNat 95 := beq_nat _ 95
   have e4 : decide ((48 : Int) ≤ (((s.data.toList[pos]).toNat : Nat) : Int)) = Nat.ble 48 (s.data.toList[pos]).toNat := ble_le 48 _
   have e5 : decide ((((s.data.toList[pos]).toNat : Nat) : Int) ≤ 57) = Nat.ble (s.data.toList[pos]).toNat 57 := ble_le _ 57
   have e6 : ((((s.data.toList[pos]).toNat : Nat) : Int) == 46) = Nat.beq (s.data.toList[pos]).toNat 46 := beq_nat _ 46
   have e7 : (!((pos : Int) == 0)) = decide (0 < pos) := by
    cases pos with
    | zero => rfl
    | succ q =>
     have : (((q + 1 : Nat) : Int) == 0) = false := by
      cases hq : (((q + 1 : Nat) : Int) == 0)
      ·
       rfl
      ·
       have := eq_of_beq hq; omega
     rw [this, decide_eq_true (Nat.succ_pos q)]
     rfl
   rw [e1, e2, e3, e4, e5, e6, e7]
   unfold letterB otherB
   cases (Nat.ble 97 (s.data.toList[pos]).toNat && Nat.ble (s.data.toList[pos]).toNat 122 || Nat.beq (s.data.toList[pos]).toNat 95) || (decide (0 < pos) && (Nat.ble 48 (s.data.toList[pos]).toNat && Nat.ble (s.data.toList[pos]).toNat 57 || Nat.beq (s.data.toList[pos]).toNat 46)) <;> rfl
  ·
   have e1 : decide ((pos : Int) < (s.data.toList.length : Int)) = false := decide_eq_false (by omega)
   rw [e1, cond_false, List.drop_eq_nil_of_le (by omega)]
   rfl
theorem pf09_Name.law {α : Type} {N : Nat} (hN : 18446744073709551616 ≤ N) (a0 : BA) (w0 : K.wf (.str) a0) (kr : (Bool → Option α)) : pf09_Name.g N a0 kr = kr (pf09_Name.spec a0) := by
 unfold pf09_Name.g pf09_Name.spec nameOk
 by_cases h1 : a0.data.toList.length < 1
 ·
  have e1 : decide ((a0.data.toList.length : Int) < 1) = true := decide_eq_true (by omega)
  have hn : a0.data.toList = [] := List.eq_nil_of_length_eq_zero (by omega)
  rw [e1, cond_true, hn]
  rfl
 ·
  have e1 : decide ((a0.data.toList.length : Int) < 1) = false := decide_eq_false (by omega)
  rw [e1, cond_false]
  by_cases h2 : 16 < a0.data.toList.length
  ·
   have e2 : decide (16 < (a0.data.toList.length : Int)) = true := decide_eq_true (by omega)
   have e3 : Nat.ble a0.data.toList.length 16 = false := by
    cases hb : Nat.ble a0.data.toList.length 16
    ·
     rfl
    ·
     have := Nat.le_of_ble_eq_true hb; omega
   rw [e2, cond_true, e3]
   rfl
  ·
   have e2 : decide (16 < (a0.data.toList.length : Int)) = false := decide_eq_false (by omega)
   rw [e2, cond_false, Nat.ble_eq_true_of_le (show a0.data.toList.length ≤ 16 by omega), Bool.true_and, nameL_chk _ (fun hc => h1 (by rw [hc]; exact Nat.one_pos))]
   refine (pf09_Name.L0.law (N := N) a0 (by omega) (fun x => kr x) (kr true) N 0 (by omega) (Nat.zero_le _)).trans ?_
   rw [List.drop_zero]
   cases chkFrom 0 a0.data.toList <;> rfl
theorem pf09_Name.ok : FentOk P 80 pf09_Name.fent := fentOk_of (by kernel_rfl) fun ds hk => by
 obtain ⟨a0, l0, rfl, h0⟩ := ds_cons hk
 obtain rfl := ds0 h0
 exact ⟨true, [.dat (.bool) (pf09_Name.spec a0)], fun h hw => pf09_Name.calls 18446744073709551616 a0 (pf09_Name.law (Nat.le_refl _) a0 hw.1 _), fun α k => rfl⟩
end Go.VI
namespace Go.VI
open Go Go.Proofs
namespace pf09_place
def an81 : Ann := [(5, [1, 2, 5, 6], [4, 5])]
def L0.sh : Sh := { sl := [(1, SV.a (SA.d (K.int IntKind.i64))), (2, SV.a (SA.fx (Atom.box 0 0))), (5, SV.a (SA.fx (Atom.box 1 0))), (6, SV.a (SA.d (K.int IntKind.i64)))], os := [(0, SO.box [SA.d K.str, SA.d (K.str.pr ((K.int IntKind.i64).pr (K.int IntKind.i64))).st.sl, SA.d (K.str.pr (((K.int IntKind.i64).pr (K.int IntKind.i64)).st.sl.pr (((K.int IntKind.i64).pr (K.int IntKind.i64)).st.sl.pr (((K.int IntKind.i64).pr (K.int IntKind.i64)).st.sl.pr (K.int IntKind.i64))))).st.sl]), (1, SO.box [SA.d K.str, SA.d (K.int IntKind.i64), SA.d (K.int IntKind.i64)])], nx := 2 }
def L0.x0 : Sh := { sl := [(4, SV.a (SA.d (K.int IntKind.i64))), (5, SV.a (SA.fx (Atom.box 0 0)))], os := [(0, SO.box [SA.d K.str, SA.d (K.int IntKind.i64), SA.d (K.int IntKind.i64)])], nx := 1 }
def L0.x1 : Sh := { sl := [(4, SV.j), (5, SV.a (SA.fx (Atom.box 0 0)))], os := [(0, SO.box [SA.d K.str, SA.d (K.int IntKind.i64), SA.d (K.int IntKind.i64)])], nx := 1 }
def L0.st {α : Type} (N : Nat) (x0 : Int) (x2 : BA) (x3 : (List (BA × Int × Int))) (x4 : (List (BA × List (Int × Int) × List (Int × Int) × List (Int × Int) × Int))) (x5 : BA) (x6 : Int) (x7 : Int) (φ : (Int → Option α)) (x1 : Int) (k0 : (Int → Option α)) (k1 : Option α) : Option α :=
 cond (decide (x1 < x0)) (cond (decide (0 ≤ x1) && decide (x1 < (↑x3.length : Int))) (cond (sEq (x3.getD x1.toNat (eBA, 0, 0)).fst x5) (k0 (6)) (φ (IntKind.i64.wrap (x1 + 1)))) (none)) (k1 )
def L0.f {α : Type} (N : Nat) (c0 : Int) (c1 : BA) (c2 : (List (BA × Int × Int))) (c3 : (List (BA × List (Int × Int) × List (Int × Int) × List (Int × Int) × Int))) (c4 : BA) (c5 : Int) (c6 : Int) : Nat → Int → (Int → Option α) → Option α → Option α
 | 0, _, _, _ => none
 | n + 1, d0, k0, k1 => L0.st N c0 c1 c2 c3 c4 c5 c6 (fun e0 => L0.f N c0 c1 c2 c3 c4 c5 c6 n e0 k0 k1) d0 k0 k1
def L0.F {α : Type} (N : Nat) (d : L0.sh.T) (K : Cont α) : Option α := L0.f N d.1.1 d.2.1.1 d.2.1.2.1 d.2.1.2.2.1 d.2.2.1.1 d.2.2.1.2.1 d.2.2.1.2.2.1 N d.1.2.2.2.1 (fun y0 => K (Exit.ret) (L0.x0.enc ((y0, ((), ())), ((d.2.2.1.1, (d.2.2.1.2.1, (d.2.2.1.2.2.1, ()))), ())))) (K (Exit.exit 0) (L0.x1.enc (((), ((), ())), ((d.2.2.1.1, (d.2.2.1.2.1, (d.2.2.1.2.2.1, ()))), ()))))
def ents81 {α : Type} (N : Nat) : List (SmE α) := [⟨0, 50, 5, [⟨L0.sh, L0.F N⟩]⟩]
def C (N : Nat) : Ctx := ⟨tys, [(80, pf09_Name.fent)], [], N⟩
def L0.B {α : Type} (N : Nat) : Env → Cont α → Option α := evC tys 58 0 (evCall (C N) 50) (evCallQ (C N)) N an81 (smL (ents81 N) 0 50) (loopOf 5 Tryd.f81)
theorem L0.r {α : Type} (N : Nat) (c0 : Int) (c1 : BA) (c2 : (List (BA × Int × Int))) (c3 : (List (BA × List (Int × Int) × List (Int × Int) × List (Int × Int) × Int))) (c4 : BA) (c5 : Int) (c6 : Int) (φ : Env → Option α) (K : Cont α) (d0 : Int) : L0.B N (L0.sh.enc ((c0, ((), ((), (d0, ())))), ((c1, (c2, (c3, ()))), ((c4, (c5, (c6, ()))), ())))) (contL φ K (Env.norm 0 [1, 2, 5, 6]) (Env.norm 0 [4, 5])) = L0.st N c0 c1 c2 c3 c4 c5 c6 (fun e0 => φ (L0.sh.enc ((c0, ((), ((), (e0, ())))), ((c1, (c2, (c3, ()))), ((c4, (c5, (c6, ()))), ()))))) d0 (fun y0 => K (Exit.ret) (L0.x0.enc ((y0, ((), ())), ((c4, (c5, (c6, ()))), ())))) (K (Exit.exit 0) (L0.x1.enc (((), ((), ())), ((c4, (c5, (c6, ()))), ())))) := by kernel_rfl
theorem L0.e {α : Type} (N : Nat) (c0 : Int) (c1 : BA) (c2 : (List (BA × Int × Int))) (c3 : (List (BA × List (Int × Int) × List (Int × Int) × List (Int × Int) × Int))) (c4 : BA) (c5 : Int) (c6 : Int) : ∀ (n : Nat) (d0 : Int) (K : Cont α), evL (L0.B N) (Env.norm 0 [1, 2, 5, 6]) (Env.norm 0 [4, 5]) n (L0.sh.enc ((c0, ((), ((), (d0, ())))), ((c1, (c2, (c3, ()))), ((c4, (c5, (c6, ()))), ())))) K = L0.f N c0 c1 c2 c3 c4 c5 c6 n d0 (fun y0 => K (Exit.ret) (L0.x0.enc ((y0, ((), ())), ((c4, (c5, (c6, ()))), ())))) (K (Exit.exit 0) (L0.x1.enc (((), ((), ())), ((c4, (c5, (c6, ()))), ()))))
 | 0, d0, K => rfl
 | n + 1, d0, K => evL_contL.trans ((L0.r N c0 c1 c2 c3 c4 c5 c6 (fun e => evL (L0.B N) (Env.norm 0 [1, 2, 5, 6]) (Env.norm 0 [4, 5]) n e K) K d0).trans (congrArg (fun φ => L0.st N c0 c1 c2 c3 c4 c5 c6 φ d0 (fun y0 => K (Exit.ret) (L0.x0.enc ((y0, ((), ())), ((c4, (c5, (c6, ()))), ())))) (K (Exit.exit 0) (L0.x1.enc (((), ((), ())), ((c4, (c5, (c6, ()))), ()))))) (funext fun e0 => L0.e N c0 c1 c2 c3 c4 c5 c6 n e0 K)))
theorem ents81_ok {α : Type} (N : Nat) : AllP (EntOk (C N) Tryd.f81 an81 (ents81 (α := α) N)) (ents81 N) := ⟨entOk_of (b0 := loopOf 5 Tryd.f81) (li0 := [1, 2, 5, 6]) (lx0 := [4, 5]) (by kernel_rfl) (by kernel_rfl) ⟨fun d K => L0.e N d.1.1 d.2.1.1 d.2.1.2.1 d.2.1.2.2.1 d.2.2.1.1 d.2.2.1.2.1 d.2.2.1.2.2.1 N d.1.2.2.2.1 K, trivial⟩, trivial⟩
def g {α : Type} (N : Nat) (a0 : BA × List (BA × Int × Int) × List (BA × List (Int × Int) × List (Int × Int) × List (Int × Int) × Int)) (a1 : Int) (kr : (Int → Option α)) : Option α :=
 cond (decide (0 ≤ a1) && decide (a1 < (↑(List.length a0.snd.fst) : Int))) (cond (!pf09_Name.spec (List.getD a0.snd.fst a1.toNat (eBA, 0, 0)).fst) (kr (5)) (L0.f N (a1) (a0.fst) (a0.snd.fst) (a0.snd.snd) ((List.getD a0.snd.fst a1.toNat (eBA, 0, 0)).fst) ((List.getD a0.snd.fst a1.toNat (eBA, 0, 0)).snd.fst) ((List.getD a0.snd.fst a1.toNat (eBA, 0, 0)).snd.snd) N (0) (fun x8 => kr (x8)) (cond (decide ((List.getD a0.snd.fst a1.toNat (eBA, 0, 0)).snd.snd < 0)) (kr (1)) (cond (decide (1048576 < (List.getD a0.snd.fst a1.toNat (eBA, 0, 0)).snd.snd)) (kr (1)) (cond (decide ((List.getD a0.snd.fst a1.toNat (eBA, 0, 0)).snd.fst < 0)) (kr (10)) (cond (decide (1048576 < (List.getD a0.snd.fst a1.toNat (eBA, 0, 0)).snd.fst)) (kr (10)) (cond ((List.getD a0.snd.fst a1.toNat (eBA, 0, 0)).snd.snd != 0) (cond (decide ((List.getD a0.snd.fst a1.toNat (eBA, 0, 0)).snd.snd < (List.getD a0.snd.fst a1.toNat (eBA, 0, 0)).snd.fst)) (kr (10)) (kr (0))) (kr (0))))))))) (none)
theorem eq (N : Nat) (a0 : BA × List (BA × Int × Int) × List (BA × List (Int × Int) × List (Int × Int) × List (Int × Int) × Int)) (a1 : Int) : evF (C N) 50 Tryd.f81 an81 (smL (ents81 N) 0 50) [((.int .i64 : K), false)] [⟨.st (.pr (.str) (.pr (.sl (.st (.pr (.str) (.pr (.int .i64) (.int .i64))))) (.sl (.st (.pr (.str) (.pr (.sl (.st (.pr (.int .i64) (.int .i64)))) (.pr (.sl (.st (.pr (.int .i64) (.int .i64)))) (.pr (.sl (.st (.pr (.int .i64) (.int .i64)))) (.int .i64))))))))), a0⟩, ⟨.int .i64, a1⟩] = g N a0 a1 (fun r0 => some [.dat (K.int IntKind.i64) r0]) := by kernel_rfl
theorem ctxOk (N : Nat) : CtxOk P (C N) := ctxOk_of tysOk mixedOk ⟨pf09_Name.ok, trivial⟩ trivial
theorem calls (N : Nat) (a0 : BA × List (BA × Int × Int) × List (BA × List (Int × Int) × List (Int × Int) × List (Int × Int) × Int)) (a1 : Int) {rs : List Rs} (h : g N a0 a1 (fun r0 => some [.dat (K.int IntKind.i64) r0]) = some rs) : CallsTo P 81 [⟨.st (.pr (.str) (.pr (.sl (.st (.pr (.str) (.pr (.int .i64) (.int .i64))))) (.sl (.st (.pr (.str) (.pr (.sl (.st (.pr (.int .i64) (.int .i64)))) (.pr (.sl (.st (.pr (.int .i64) (.int .i64)))) (.pr (.sl (.st (.pr (.int .i64) (.int .i64)))) (.int .i64))))))))), a0⟩, ⟨.int .i64, a1⟩] rs := evF_calls' (ctxOk N) (by rfl) (ents81_ok N) ((eq N a0 a1).trans h)
def L0.l {α : Type} (N : Nat) (x2 : BA) (x3 : (List (BA × Int × Int))) (x4 : (List (BA × List (Int × Int) × List (Int × Int) × List (Int × Int) × Int))) (x5 : BA) (x6 : Int) (x7 : Int) (k0 : (Int → Option α)) (k1 : Option α) : List (BA × Int × Int) → Int → Option α
 | [], x1 => k1 
 | x :: l, x1 => (cond (sEq x.fst x5) (k0 (6)) (L0.l N x2 x3 x4 x5 x6 x7 k0 k1 l (x1 + 1)))
theorem L0.rng {α : Type} {N : Nat} (x2 : BA) (x3 : (List (BA × Int × Int))) (x4 : (List (BA × List (Int × Int) × List (Int × Int) × List (Int × Int) × Int))) (x5 : BA) (x6 : Int) (x7 : Int) (hl : x3.length ≤ maxLen) (k0 : (Int → Option α)) (k1 : Option α) : ∀ (n j : Nat), x3.length < n + j → j ≤ x3.length → L0.f N (x3.length : Int) x2 x3 x4 x5 x6 x7 n (j : Int) k0 k1 = L0.l N x2 x3 x4 x5 x6 x7 k0 k1 (x3.drop j) (j : Int)
 | 0, j, h, hj => absurd h (by omega)
 | n + 1, j, h, hj => by
  by_cases hlt : j < x3.length
  ·
   have e1 : decide ((j : Int) < (x3.length : Int)) = true := decide_eq_true (Int.ofNat_lt.2 hlt)
   have e2 : decide ((0 : Int) ≤ (j : Int)) = true := decide_eq_true (Int.natCast_nonneg j)
   have e3 : ∀ z, x3.getD (Int.toNat (j : Int)) z = x3[j] := fun z => by rw [Int.toNat_natCast]; exact (List.getElem_eq_getD z).symm
   have e3' : ∀ z, x3.getD (0 + Int.toNat (j : Int)) z = x3[j] := fun z => by rw [Nat.zero_add]; exact e3 z
   have e4 : IntKind.i64.wrap ((j : Int) + 1) = (j : Int) + 1 := wrap_next hlt hl
   have ih : ∀ (_ : Unit), L0.f N (x3.length : Int) x2 x3 x4 x5 x6 x7 n ((j : Int) + 1) k0 k1 = L0.l N x2 x3 x4 x5 x6 x7 k0 k1 (x3.drop (j + 1)) ((j : Int) + 1) := fun _ => L0.rng x2 x3 x4 x5 x6 x7 hl k0 k1 n (j + 1) (by omega) (by omega)
   rw [List.drop_eq_getElem_cons hlt]
   replace ih := ih ()
   first
    | (simp only [L0.f, L0.st, L0.l, e1, e2, e3, e3', e4, Bool.true_and, Bool.and_true, Bool.and_self, cond_true, ih]; done)
    | (simp only [L0.f, L0.st, L0.l, e1, e2, e3, e3', e4, Bool.true_and, Bool.and_true, Bool.and_self, cond_true, ih]; rfl)
  ·
   have e1 : decide ((j : Int) < (x3.length : Int)) = false := decide_eq_false (fun hc => hlt (Int.ofNat_lt.1 hc))
   rw [List.drop_eq_nil_of_le (by omega)]
   simp only [L0.f, L0.st, L0.l, e1, cond_false]
end pf09_place
theorem pf09_place.L0.law {α : Type} {N : Nat} (b : Nat) (ps : List (BA × Int × Int)) (hb : b ≤ ps.length) (hm : ps.length ≤ maxLen) (nm : BA) (x2 x4 x6 x7) (k0 : Int → Option α) (k1 : Option α) : ∀ (n j : Nat), b < n + j → j ≤ b →
  pf09_place.L0.f N (b : Int) x2 ps x4 nm x6 x7 n (j : Int) k0 k1 = cond (((ps.take b).drop j).any fun p => sEq p.1 nm) (k0 6) k1
 | 0, j, h, hj => absurd h (by omega)
 | n + 1, j, h, hj => by
  rw [pf09_place.L0.f, pf09_place.L0.st]
  by_cases hlt : j < b
  ·
   have hjl : j < ps.length := by omega
   have ht : j < (ps.take b).length := by simp; omega
   rw [d_lt hlt, cond_true, d_0, d_lt hjl, Bool.and_self, cond_true, List.drop_eq_getElem_cons ht, List.any_cons, List.getElem_take, getD_at hjl, wrap_next hjl hm, ← succ_cast,
    pf09_place.L0.law b ps hb hm nm x2 x4 x6 x7 k0 k1 n (j + 1) (by omega) (by omega)]
   cases sEq (ps[j]).1 nm <;> rfl
  ·
   have e1 : decide ((j : Int) < (b : Int)) = false := decide_eq_false (by omega)
   rw [e1, cond_false, List.drop_eq_nil_of_le (by simp; omega)]
   rfl
theorem pf09_place.law {α : Type} {N : Nat} (hN : 18446744073709551616 ≤ N) (a0 : BA × (List (BA × Int × Int)) × List (BA × (List (Int × Int)) × (List (Int × Int)) × (List (Int × Int)) × Int)) (a1 : Int) (w0 : K.wf (.st (.pr (.str) (.pr (.sl (.st (.pr (.str) (.pr (.int .i64) (.int .i64))))) (.sl (.st (.pr (.str) (.pr (.sl (.st (.pr (.int .i64) (.int .i64)))) (.pr (.sl (.st (.pr (.int .i64) (.int .i64)))) (.pr (.sl (.st (.pr (.int .i64) (.int .i64)))) (.int .i64)))))))))) a0) (w1 : K.wf (.int .i64) a1) (hp : pf09_place.pre a0 a1 = true) (kr : (Int → Option α)) : pf09_place.g N a0 a1 kr = kr (pf09_place.spec a0 a1) := by
 unfold pf09_place.g pf09_place.spec
 simp only [pf09_place.pre] at hp
 rw [hp, cond_true]
 simp only [Bool.and_eq_true, decide_eq_true_eq] at hp
 obtain ⟨i, rfl⟩ := Int.eq_ofNat_of_zero_le hp.1
 have hi : i < a0.2.1.length := by omega
 have hm : a0.2.1.length ≤ maxLen := w0.2.1.1
 have hpl : a0.2.1.getD (Int.toNat (i : Int)) (eBA, 0, 0) = plAt a0 (i : Int) := rfl
 rw [hpl]
 generalize plAt a0 (i : Int) = p
 have en : pf09_Name.spec p.1 = nameOk p.1 := rfl
 rw [en]
 have hL := pf09_place.L0.law (N := N) i a0.2.1 (by omega) hm p.1 a0.1 a0.2.2 p.2.1 p.2.2 (fun x => kr x) (cond (decide (p.2.2 < 0)) (kr 1) (cond (decide (1048576 < p.2.2)) (kr 1) (cond (decide (p.2.1 < 0)) (kr 10) (cond (decide (1048576 < p.2.1)) (kr 10) (cond (p.2.2 != 0) (cond (decide (p.2.2 < p.2.1)) (kr 10) (kr 0)) (kr 0)))))) N 0 (by unfold maxLen at hm; omega) (Nat.zero_le _)
 have hL' : pf09_place.L0.f N (i : Int) a0.1 a0.2.1 a0.2.2 p.1 p.2.1 p.2.2 N 0 (fun x => kr x) _ = _ := hL
 rw [hL', List.drop_zero, Int.toNat_natCast]
 have ea : ((a0.2.1.take i).any fun q => sEq q.1 p.1) = (((a0.2.1.take i).map (·.1)).any fun o => sEq o p.1) := by rw [List.any_map]; rfl
 rw [ea]
 unfold addE placeE
 have e2 : (p.2.2 != 0) = !(p.2.2 == 0) := rfl
 rw [e2]
 cases nameOk p.1 <;> cases ((a0.2.1.take i).map (·.1)).any fun o => sEq o p.1 <;> cases decide (p.2.2 < 0) <;> cases decide (1048576 < p.2.2) <;> cases decide (p.2.1 < 0) <;> cases decide (1048576 < p.2.1) <;> cases (p.2.2 == 0) <;> cases decide (p.2.2 < p.2.1) <;> rfl
theorem pf09_place.ok : FentOk P 81 pf09_place.fent := fentOk_of (by kernel_rfl) fun ds hk => by
 obtain ⟨a0, l0, rfl, h0⟩ := ds_cons hk
 obtain ⟨a1, l1, rfl, h1⟩ := ds_cons h0
 obtain rfl := ds0 h1
 exact ⟨pf09_place.pre a0 a1, [.dat (.int .i64) (pf09_place.spec a0 a1)], fun h hw => pf09_place.calls 18446744073709551616 a0 a1 (pf09_place.law (Nat.le_refl _) a0 a1 hw.1 hw.2.1 h _), fun α k => rfl⟩
end Go.VI
namespace Go.VI
open Go Go.Proofs
namespace pf09_arcs
def an94 : Ann := [(2, [1, 2, 5], [4])]
def L0.sh : Sh := { sl := [(1, SV.a (SA.d ((K.int IntKind.i64).pr (K.int IntKind.i64)).st.sl)), (2, SV.a (SA.fx (Atom.box 0 0))), (5, SV.a (SA.d (K.int IntKind.i64)))], os := [(0, SO.box [SA.d K.str, SA.d (K.str.pr ((K.int IntKind.i64).pr (K.int IntKind.i64))).st.sl, SA.d (K.str.pr (((K.int IntKind.i64).pr (K.int IntKind.i64)).st.sl.pr (((K.int IntKind.i64).pr (K.int IntKind.i64)).st.sl.pr (((K.int IntKind.i64).pr (K.int IntKind.i64)).st.sl.pr (K.int IntKind.i64))))).st.sl])], nx := 1 }
def L0.x0 : Sh := { sl := [(4, SV.a (SA.d (K.int IntKind.i64)))], os := [], nx := 0 }
def L0.x1 : Sh := { sl := [(4, SV.j)], os := [], nx := 0 }
def L0.st {α : Type} (N : Nat) (x0 : (List (Int × Int))) (x2 : BA) (x3 : (List (BA × Int × Int))) (x4 : (List (BA × List (Int × Int) × List (Int × Int) × List (Int × Int) × Int))) (φ : (Int → Option α)) (x1 : Int) (k0 : (Int → Option α)) (k1 : Option α) : Option α :=
 cond (decide (x1 < (↑x0.length : Int))) (cond (decide (0 ≤ x1) && decide (x1 < (↑x0.length : Int))) (cond (decide ((x0.getD x1.toNat ((0 : Int), (0 : Int))).fst < 0)) (k0 (7)) (cond (decide (0 ≤ x1) && decide (x1 < (↑x0.length : Int))) (cond (decide ((↑x3.length : Int) ≤ (x0.getD x1.toNat ((0 : Int), (0 : Int))).fst)) (k0 (7)) (cond (decide (0 < x1)) (cond (decide (0 ≤ x1) && decide (x1 < (↑x0.length : Int))) (cond (decide (0 ≤ IntKind.i64.wrap (x1 - 1)) && decide (IntKind.i64.wrap (x1 - 1) < (↑x0.length : Int))) (cond (decide ((x0.getD x1.toNat ((0 : Int), (0 : Int))).fst ≤ (x0.getD (IntKind.i64.wrap (x1 - 1)).toNat ((0 : Int), (0 : Int))).fst)) (k0 (8)) (cond (decide (0 ≤ x1) && decide (x1 < (↑x0.length : Int))) (cond (decide ((x0.getD x1.toNat ((0 : Int), (0 : Int))).snd < 1)) (k0 (9)) (cond (decide (0 ≤ x1) && decide (x1 < (↑x0.length : Int))) (cond (decide (99 < (x0.getD x1.toNat ((0 : Int), (0 : Int))).snd)) (k0 (9)) (φ (IntKind.i64.wrap (x1 + 1)))) (none))) (none))) (none)) (none)) (cond (decide (0 ≤ x1) && decide (x1 < (↑x0.length : Int))) (cond (decide ((x0.getD x1.toNat ((0 : Int), (0 : Int))).snd < 1)) (k0 (9)) (cond (decide (0 ≤ x1) && decide (x1 < (↑x0.length : Int))) (cond (decide (99 < (x0.getD x1.toNat ((0 : Int), (0 : Int))).snd)) (k0 (9)) (φ (IntKind.i64.wrap (x1 + 1)))) (none))) (none)))) (none))) (none)) (k1 )
def L0.f {α : Type} (N : Nat) (c0 : (List (Int × Int))) (c1 : BA) (c2 : (List (BA × Int × Int))) (c3 : (List (BA × List (Int × Int) × List (Int × Int) × List (Int × Int) × Int))) : Nat → Int → (Int → Option α) → Option α → Option α
 | 0, _, _, _ => none
 | n + 1, d0, k0, k1 => L0.st N c0 c1 c2 c3 (fun e0 => L0.f N c0 c1 c2 c3 n e0 k0 k1) d0 k0 k1
def L0.F {α : Type} (N : Nat) (d : L0.sh.T) (K : Cont α) : Option α := L0.f N d.1.1 d.2.1.1 d.2.1.2.1 d.2.1.2.2.1 N d.1.2.2.1 (fun y0 => K (Exit.ret) (L0.x0.enc ((y0, ()), ()))) (K (Exit.exit 0) (L0.x1.enc (((), ()), ())))
def ents94 {α : Type} (N : Nat) : List (SmE α) := [⟨0, 50, 2, [⟨L0.sh, L0.F N⟩]⟩]
def C (N : Nat) : Ctx := ⟨tys, [], [], N⟩
def L0.B {α : Type} (N : Nat) : Env → Cont α → Option α := evC tys 59 0 (evCall (C N) 50) (evCallQ (C N)) N an94 (smL (ents94 N) 0 50) (loopOf 2 Tryd.f94)
theorem L0.r {α : Type} (N : Nat) (c0 : (List (Int × Int))) (c1 : BA) (c2 : (List (BA × Int × Int))) (c3 : (List (BA × List (Int × Int) × List (Int × Int) × List (Int × Int) × Int))) (φ : Env → Option α) (K : Cont α) (d0 : Int) : L0.B N (L0.sh.enc ((c0, ((), (d0, ()))), ((c1, (c2, (c3, ()))), ()))) (contL φ K (Env.norm 0 [1, 2, 5]) (Env.norm 0 [4])) = L0.st N c0 c1 c2 c3 (fun e0 => φ (L0.sh.enc ((c0, ((), (e0, ()))), ((c1, (c2, (c3, ()))), ())))) d0 (fun y0 => K (Exit.ret) (L0.x0.enc ((y0, ()), ()))) (K (Exit.exit 0) (L0.x1.enc (((), ()), ()))) := by kernel_rfl
theorem L0.e {α : Type} (N : Nat) (c0 : (List (Int × Int))) (c1 : BA) (c2 : (List (BA × Int × Int))) (c3 : (List (BA × List (Int × Int) × List (Int × Int) × List (Int × Int) × Int))) : ∀ (n : Nat) (d0 : Int) (K : Cont α), evL (L0.B N) (Env.norm 0 [1, 2, 5]) (Env.norm 0 [4]) n (L0.sh.enc ((c0, ((), (d0, ()))), ((c1, (c2, (c3, ()))), ()))) K = L0.f N c0 c1 c2 c3 n d0 (fun y0 => K (Exit.ret) (L0.x0.enc ((y0, ()), ()))) (K (Exit.exit 0) (L0.x1.enc (((), ()), ())))
 | 0, d0, K => rfl
 | n + 1, d0, K => evL_contL.trans ((L0.r N c0 c1 c2 c3 (fun e => evL (L0.B N) (Env.norm 0 [1, 2, 5]) (Env.norm 0 [4]) n e K) K d0).trans (congrArg (fun φ => L0.st N c0 c1 c2 c3 φ d0 (fun y0 => K (Exit.ret) (L0.x0.enc ((y0, ()), ()))) (K (Exit.exit 0) (L0.x1.enc (((), ()), ())))) (funext fun e0 => L0.e N c0 c1 c2 c3 n e0 K)))
theorem ents94_ok {α : Type} (N : Nat) : AllP (EntOk (C N) Tryd.f94 an94 (ents94 (α := α) N)) (ents94 N) := ⟨entOk_of (b0 := loopOf 2 Tryd.f94) (li0 := [1, 2, 5]) (lx0 := [4]) (by kernel_rfl) (by kernel_rfl) ⟨fun d K => L0.e N d.1.1 d.2.1.1 d.2.1.2.1 d.2.1.2.2.1 N d.1.2.2.1 K, trivial⟩, trivial⟩
def g {α : Type} (N : Nat) (a0 : BA × List (BA × Int × Int) × List (BA × List (Int × Int) × List (Int × Int) × List (Int × Int) × Int)) (a1 : List (Int × Int)) (kr : (Int → Option α)) : Option α :=
 L0.f N (a1) (a0.fst) (a0.snd.fst) (a0.snd.snd) N (0) (fun x5 => kr (x5)) (kr (0))
theorem eq (N : Nat) (a0 : BA × List (BA × Int × Int) × List (BA × List (Int × Int) × List (Int × Int) × List (Int × Int) × Int)) (a1 : List (Int × Int)) : evF (C N) 50 Tryd.f94 an94 (smL (ents94 N) 0 50) [((.int .i64 : K), false)] [⟨.st (.pr (.str) (.pr (.sl (.st (.pr (.str) (.pr (.int .i64) (.int .i64))))) (.sl (.st (.pr (.str) (.pr (.sl (.st (.pr (.int .i64) (.int .i64)))) (.pr (.sl (.st (.pr (.int .i64) (.int .i64)))) (.pr (.sl (.st (.pr (.int .i64) (.int .i64)))) (.int .i64))))))))), a0⟩, ⟨.sl (.st (.pr (.int .i64) (.int .i64))), a1⟩] = g N a0 a1 (fun r0 => some [.dat (K.int IntKind.i64) r0]) := by kernel_rfl
theorem ctxOk (N : Nat) : CtxOk P (C N) := ctxOk_of tysOk mixedOk trivial trivial
theorem calls (N : Nat) (a0 : BA × List (BA × Int × Int) × List (BA × List (Int × Int) × List (Int × Int) × List (Int × Int) × Int)) (a1 : List (Int × Int)) {rs : List Rs} (h : g N a0 a1 (fun r0 => some [.dat (K.int IntKind.i64) r0]) = some rs) : CallsTo P 94 [⟨.st (.pr (.str) (.pr (.sl (.st (.pr (.str) (.pr (.int .i64) (.int .i64))))) (.sl (.st (.pr (.str) (.pr (.sl (.st (.pr (.int .i64) (.int .i64)))) (.pr (.sl (.st (.pr (.int .i64) (.int .i64)))) (.pr (.sl (.st (.pr (.int .i64) (.int .i64)))) (.int .i64))))))))), a0⟩, ⟨.sl (.st (.pr (.int .i64) (.int .i64))), a1⟩] rs := evF_calls' (ctxOk N) (by rfl) (ents94_ok N) ((eq N a0 a1).trans h)
def L0.l {α : Type} (N : Nat) (x0 : (List (Int × Int))) (x2 : BA) (x3 : (List (BA × Int × Int))) (x4 : (List (BA × List (Int × Int) × List (Int × Int) × List (Int × Int) × Int))) (k0 : (Int → Option α)) (k1 : Option α) : List (Int × Int) → Int → Option α
 | [], x1 => k1 
 | x :: l, x1 => (cond (decide (x.fst < 0)) (k0 (7)) ((cond (decide ((↑x3.length : Int) ≤ x.fst)) (k0 (7)) (cond (decide (0 < x1)) ((cond (decide (0 ≤ IntKind.i64.wrap (x1 - 1)) && decide (IntKind.i64.wrap (x1 - 1) < (↑x0.length : Int))) (cond (decide (x.fst ≤ (x0.getD (IntKind.i64.wrap (x1 - 1)).toNat ((0 : Int), (0 : Int))).fst)) (k0 (8)) ((cond (decide (x.snd < 1)) (k0 (9)) ((cond (decide (99 < x.snd)) (k0 (9)) (L0.l N x0 x2 x3 x4 k0 k1 l (x1 + 1))))))) (none))) ((cond (decide (x.snd < 1)) (k0 (9)) ((cond (decide (99 < x.snd)) (k0 (9)) (L0.l N x0 x2 x3 x4 k0 k1 l (x1 + 1))))))))))
theorem L0.rng {α : Type} {N : Nat} (x0 : (List (Int × Int))) (x2 : BA) (x3 : (List (BA × Int × Int))) (x4 : (List (BA × List (Int × Int) × List (Int × Int) × List (Int × Int) × Int))) (hl : x0.length ≤ maxLen) (k0 : (Int → Option α)) (k1 : Option α) : ∀ (n j : Nat), x0.length < n + j → j ≤ x0.length → L0.f N x0 x2 x3 x4 n (j : Int) k0 k1 = L0.l N x0 x2 x3 x4 k0 k1 (x0.drop j) (j : Int)
 | 0, j, h, hj => absurd h (by omega)
 | n + 1, j, h, hj => by
  by_cases hlt : j < x0.length
  ·
   have e1 : decide ((j : Int) < (x0.length : Int)) = true := decide_eq_true (Int.ofNat_lt.2 hlt)
   have e2 : decide ((0 : Int) ≤ (j : Int)) = true := decide_eq_true (Int.natCast_nonneg j)
   have e3 : ∀ z, x0.getD (Int.toNat (j : Int)) z = x0[j] := fun z => by rw [Int.toNat_natCast]; exact (List.getElem_eq_getD z).symm
   have e3' : ∀ z, x0.getD (0 + Int.toNat (j : Int)) z = x0[j] := fun z => by rw [Nat.zero_add]; exact e3 z
   have e4 : IntKind.i64.wrap ((j : Int) + 1) = (j : Int) + 1 := wrap_next hlt hl
   have ih : ∀ (_ : Unit), L0.f N x0 x2 x3 x4 n ((j : Int) + 1) k0 k1 = L0.l N x0 x2 x3 x4 k0 k1 (x0.drop (j + 1)) ((j : Int) + 1) := fun _ => L0.rng x0 x2 x3 x4 hl k0 k1 n (j + 1) (by omega) (by omega)
   rw [List.drop_eq_getElem_cons hlt]
   replace ih := ih ()
   first
    | (simp only [L0.f, L0.st, L0.l, e1, e2, e3, e3', e4, Bool.true_and, Bool.and_true, Bool.and_self, cond_true, ih]; done)
    | (simp only [L0.f, L0.st, L0.l, e1, e2, e3, e3', e4, Bool.true_and, Bool.and_true, Bool.and_self, cond_true, ih]; rfl)
  ·
   have e1 : decide ((j : Int) < (x0.length : Int)) = false := decide_eq_false (fun hc => hlt (Int.ofNat_lt.1 hc))
   rw [List.drop_eq_nil_of_le (by omega)]
   simp only [L0.f, L0.st, L0.l, e1, cond_false]
end pf09_arcs
theorem pf09_arcs.L0.law {α : Type} {N : Nat} (a : List (Int × Int)) (ha : a.length ≤ maxLen) (x2) (ps : List (BA × Int × Int)) (x4) (k0 : Int → Option α) : ∀ (l : List (Int × Int)) (j : Nat), l = a.drop j →
  pf09_arcs.L0.l N a x2 ps x4 k0 (k0 0) l (j : Int) = k0 (arcsE (ps.length : Int) (prevA a j) l)
 | [], j, _ => rfl
 | x :: l, j, hl => by
  obtain ⟨hj, hx, hl'⟩ := drop_step hl
  have ih := pf09_arcs.L0.law (N := N) a ha x2 ps x4 k0 l (j + 1) hl'
  have hp : prevA a (j + 1) = some x.1 := by rw [prevA, getD_n hj, hx]
  rw [hp, succ_cast] at ih
  rw [pf09_arcs.L0.l, ih, arcsE_cons]
  cases j with
  | zero =>
   have e3 : decide ((0 : Int) < ((0 : Nat) : Int)) = false := rfl
   rw [e3, cond_false]
   exact arcs_tree _ _ false _ _ _ k0
  | succ i =>
   have e3 : decide ((0 : Int) < ((i + 1 : Nat) : Int)) = true := decide_eq_true (by omega)
   have e4 : IntKind.i64.wrap (((i + 1 : Nat) : Int) - 1) = (i : Int) := by
    unfold maxLen at ha
    rw [wrap_i64 (inI_i64.2 (by omega))]
    omega
   rw [e3, cond_true, e4, d_0, d_lt (show i < a.length by omega), Bool.and_self, cond_true, Int.toNat_natCast]
   exact arcs_tree _ _ _ _ _ _ k0
theorem pf09_arcs.law {α : Type} {N : Nat} (hN : 18446744073709551616 ≤ N) (a0 : BA × (List (BA × Int × Int)) × List (BA × (List (Int × Int)) × (List (Int × Int)) × (List (Int × Int)) × Int)) (a1 : List (Int × Int)) (w0 : K.wf (.st (.pr (.str) (.pr (.sl (.st (.pr (.str) (.pr (.int .i64) (.int .i64))))) (.sl (.st (.pr (.str) (.pr (.sl (.st (.pr (.int .i64) (.int .i64)))) (.pr (.sl (.st (.pr (.int .i64) (.int .i64)))) (.pr (.sl (.st (.pr (.int .i64) (.int .i64)))) (.int .i64)))))))))) a0) (w1 : K.wf (.sl (.st (.pr (.int .i64) (.int .i64)))) a1) (kr : (Int → Option α)) : pf09_arcs.g N a0 a1 kr = kr (pf09_arcs.spec a0 a1) := by
 unfold pf09_arcs.g pf09_arcs.spec
 refine (pf09_arcs.L0.rng (N := N) a1 a0.1 a0.2.1 a0.2.2 w1.1 (fun x => kr x) (kr 0) N 0 (by have := le_fuel w1.1 hN; omega) (Nat.zero_le _)).trans ?_
 rw [List.drop_zero]
 exact pf09_arcs.L0.law (N := N) a1 w1.1 a0.1 a0.2.1 a0.2.2 (fun x => kr x) a1 0 rfl
theorem pf09_arcs.ok : FentOk P 94 pf09_arcs.fent := fentOk_of (by kernel_rfl) fun ds hk => by
 obtain ⟨a0, l0, rfl, h0⟩ := ds_cons hk
 obtain ⟨a1, l1, rfl, h1⟩ := ds_cons h0
 obtain rfl := ds0 h1
 exact ⟨true, [.dat (.int .i64) (pf09_arcs.spec a0 a1)], fun h hw => pf09_arcs.calls 18446744073709551616 a0 a1 (pf09_arcs.law (Nat.le_refl _) a0 a1 hw.1 hw.2.1 _), fun α k => rfl⟩
end Go.VI
namespace Go.VI
open Go Go.Proofs
namespace pf09_trans
def an82 : Ann := [(5, [1, 2, 5, 6], [1, 2, 4, 5]), (10, [1, 2, 5, 7], [2, 4, 5])]
def L0.sh : Sh := { sl := [(1, SV.a (SA.d (K.int IntKind.i64))), (2, SV.a (SA.fx (Atom.box 0 0))), (5, SV.a (SA.fx (Atom.box 1 0))), (6, SV.a (SA.d (K.int IntKind.i64)))], os := [(0, SO.box [SA.d K.str, SA.d (K.str.pr ((K.int IntKind.i64).pr (K.int IntKind.i64))).st.sl, SA.d (K.str.pr (((K.int IntKind.i64).pr (K.int IntKind.i64)).st.sl.pr (((K.int IntKind.i64).pr (K.int IntKind.i64)).st.sl.pr (((K.int IntKind.i64).pr (K.int IntKind.i64)).st.sl.pr (K.int IntKind.i64))))).st.sl]), (1, SO.box [SA.d K.str, SA.d ((K.int IntKind.i64).pr (K.int IntKind.i64)).st.sl, SA.d ((K.int IntKind.i64).pr (K.int IntKind.i64)).st.sl, SA.d ((K.int IntKind.i64).pr (K.int IntKind.i64)).st.sl, SA.d (K.int IntKind.i64)])], nx := 2 }
def L0.x0 : Sh := { sl := [(1, SV.a (SA.d (K.int IntKind.i64))), (2, SV.a (SA.fx (Atom.box 0 0))), (4, SV.a (SA.d (K.int IntKind.i64))), (5, SV.a (SA.fx (Atom.box 1 0)))], os := [(0, SO.box [SA.d K.str, SA.d (K.str.pr ((K.int IntKind.i64).pr (K.int IntKind.i64))).st.sl, SA.d (K.str.pr (((K.int IntKind.i64).pr (K.int IntKind.i64)).st.sl.pr (((K.int IntKind.i64).pr (K.int IntKind.i64)).st.sl.pr (((K.int IntKind.i64).pr (K.int IntKind.i64)).st.sl.pr (K.int IntKind.i64))))).st.sl]), (1, SO.box [SA.d K.str, SA.d ((K.int IntKind.i64).pr (K.int IntKind.i64)).st.sl, SA.d ((K.int IntKind.i64).pr (K.int IntKind.i64)).st.sl, SA.d ((K.int IntKind.i64).pr (K.int IntKind.i64)).st.sl, SA.d (K.int IntKind.i64)])], nx := 2 }
def L0.x1 : Sh := { sl := [(1, SV.a (SA.d (K.int IntKind.i64))), (2, SV.a (SA.fx (Atom.box 0 0))), (4, SV.j), (5, SV.a (SA.fx (Atom.box 1 0)))], os := [(0, SO.box [SA.d K.str, SA.d (K.str.pr ((K.int IntKind.i64).pr (K.int IntKind.i64))).st.sl, SA.d (K.str.pr (((K.int IntKind.i64).pr (K.int IntKind.i64)).st.sl.pr (((K.int IntKind.i64).pr (K.int IntKind.i64)).st.sl.pr (((K.int IntKind.i64).pr (K.int IntKind.i64)).st.sl.pr (K.int IntKind.i64))))).st.sl]), (1, SO.box [SA.d K.str, SA.d ((K.int IntKind.i64).pr (K.int IntKind.i64)).st.sl, SA.d ((K.int IntKind.i64).pr (K.int IntKind.i64)).st.sl, SA.d ((K.int IntKind.i64).pr (K.int IntKind.i64)).st.sl, SA.d (K.int IntKind.i64)])], nx := 2 }
def L0.st {α : Type} (N : Nat) (x0 : Int) (x2 : BA) (x3 : (List (BA × Int × Int))) (x4 : (List (BA × List (Int × Int) × List (Int × Int) × List (Int × Int) × Int))) (x5 : BA) (x6 : (List (Int × Int))) (x7 : (List (Int × Int))) (x8 : (List (Int × Int))) (x9 : Int) (φ : (Int → Option α)) (x1 : Int) (k0 : (Int → Option α)) (k1 : Option α) : Option α :=
 cond (decide (x1 < (↑x3.length : Int))) (cond (decide (0 ≤ x1) && decide (x1 < (↑x3.length : Int))) (cond (sEq (x3.getD x1.toNat (eBA, 0, 0)).fst x5) (k0 (6)) (φ (IntKind.i64.wrap (x1 + 1)))) (none)) (k1 )
def L0.f {α : Type} (N : Nat) (c0 : Int) (c1 : BA) (c2 : (List (BA × Int × Int))) (c3 : (List (BA × List (Int × Int) × List (Int × Int) × List (Int × Int) × Int))) (c4 : BA) (c5 : (List (Int × Int))) (c6 : (List (Int × Int))) (c7 : (List (Int × Int))) (c8 : Int) : Nat → Int → (Int → Option α) → Option α → Option α
 | 0, _, _, _ => none
 | n + 1, d0, k0, k1 => L0.st N c0 c1 c2 c3 c4 c5 c6 c7 c8 (fun e0 => L0.f N c0 c1 c2 c3 c4 c5 c6 c7 c8 n e0 k0 k1) d0 k0 k1
def L0.F {α : Type} (N : Nat) (d : L0.sh.T) (K : Cont α) : Option α := L0.f N d.1.1 d.2.1.1 d.2.1.2.1 d.2.1.2.2.1 d.2.2.1.1 d.2.2.1.2.1 d.2.2.1.2.2.1 d.2.2.1.2.2.2.1 d.2.2.1.2.2.2.2.1 N d.1.2.2.2.1 (fun y0 => K (Exit.ret) (L0.x0.enc ((d.1.1, ((), (y0, ((), ())))), ((d.2.1.1, (d.2.1.2.1, (d.2.1.2.2.1, ()))), ((d.2.2.1.1, (d.2.2.1.2.1, (d.2.2.1.2.2.1, (d.2.2.1.2.2.2.1, (d.2.2.1.2.2.2.2.1, ()))))), ()))))) (K (Exit.exit 0) (L0.x1.enc ((d.1.1, ((), ((), ((), ())))), ((d.2.1.1, (d.2.1.2.1, (d.2.1.2.2.1, ()))), ((d.2.2.1.1, (d.2.2.1.2.1, (d.2.2.1.2.2.1, (d.2.2.1.2.2.2.1, (d.2.2.1.2.2.2.2.1, ()))))), ())))))
def L1.sh : Sh := { sl := [(1, SV.a (SA.d (K.int IntKind.i64))), (2, SV.a (SA.fx (Atom.box 0 0))), (5, SV.a (SA.fx (Atom.box 1 0))), (7, SV.a (SA.d (K.int IntKind.i64)))], os := [(0, SO.box [SA.d K.str, SA.d (K.str.pr ((K.int IntKind.i64).pr (K.int IntKind.i64))).st.sl, SA.d (K.str.pr (((K.int IntKind.i64).pr (K.int IntKind.i64)).st.sl.pr (((K.int IntKind.i64).pr (K.int IntKind.i64)).st.sl.pr (((K.int IntKind.i64).pr (K.int IntKind.i64)).st.sl.pr (K.int IntKind.i64))))).st.sl]), (1, SO.box [SA.d K.str, SA.d ((K.int IntKind.i64).pr (K.int IntKind.i64)).st.sl, SA.d ((K.int IntKind.i64).pr (K.int IntKind.i64)).st.sl, SA.d ((K.int IntKind.i64).pr (K.int IntKind.i64)).st.sl, SA.d (K.int IntKind.i64)])], nx := 2 }
def L1.x0 : Sh := { sl := [(2, SV.a (SA.fx (Atom.box 0 0))), (4, SV.a (SA.d (K.int IntKind.i64))), (5, SV.a (SA.fx (Atom.box 1 0)))], os := [(0, SO.box [SA.d K.str, SA.d (K.str.pr ((K.int IntKind.i64).pr (K.int IntKind.i64))).st.sl, SA.d (K.str.pr (((K.int IntKind.i64).pr (K.int IntKind.i64)).st.sl.pr (((K.int IntKind.i64).pr (K.int IntKind.i64)).st.sl.pr (((K.int IntKind.i64).pr (K.int IntKind.i64)).st.sl.pr (K.int IntKind.i64))))).st.sl]), (1, SO.box [SA.d K.str, SA.d ((K.int IntKind.i64).pr (K.int IntKind.i64)).st.sl, SA.d ((K.int IntKind.i64).pr (K.int IntKind.i64)).st.sl, SA.d ((K.int IntKind.i64).pr (K.int IntKind.i64)).st.sl, SA.d (K.int IntKind.i64)])], nx := 2 }
def L1.x1 : Sh := { sl := [(2, SV.a (SA.fx (Atom.box 0 0))), (4, SV.j), (5, SV.a (SA.fx (Atom.box 1 0)))], os := [(0, SO.box [SA.d K.str, SA.d (K.str.pr ((K.int IntKind.i64).pr (K.int IntKind.i64))).st.sl, SA.d (K.str.pr (((K.int IntKind.i64).pr (K.int IntKind.i64)).st.sl.pr (((K.int IntKind.i64).pr (K.int IntKind.i64)).st.sl.pr (((K.int IntKind.i64).pr (K.int IntKind.i64)).st.sl.pr (K.int IntKind.i64))))).st.sl]), (1, SO.box [SA.d K.str, SA.d ((K.int IntKind.i64).pr (K.int IntKind.i64)).st.sl, SA.d ((K.int IntKind.i64).pr (K.int IntKind.i64)).st.sl, SA.d ((K.int IntKind.i64).pr (K.int IntKind.i64)).st.sl, SA.d (K.int IntKind.i64)])], nx := 2 }
def L1.st {α : Type} (N : Nat) (x11 : Int) (x13 : BA) (x14 : (List (BA × Int × Int))) (x15 : (List (BA × List (Int × Int) × List (Int × Int) × List (Int × Int) × Int))) (x16 : BA) (x17 : (List (Int × Int))) (x18 : (List (Int × Int))) (x19 : (List (Int × Int))) (x20 : Int) (φ : (Int → Option α)) (x12 : Int) (k0 : (Int → Option α)) (k1 : Option α) : Option α :=
 cond (decide (x12 < x11)) (cond (decide (0 ≤ x12) && decide (x12 < (↑x15.length : Int))) (cond (sEq (x15.getD x12.toNat (eBA, [], [], [], 0)).fst x16) (k0 (6)) (φ (IntKind.i64.wrap (x12 + 1)))) (none)) (k1 )
def L1.f {α : Type} (N : Nat) (c0 : Int) (c1 : BA) (c2 : (List (BA × Int × Int))) (c3 : (List (BA × List (Int × Int) × List (Int × Int) × List (Int × Int) × Int))) (c4 : BA) (c5 : (List (Int × Int))) (c6 : (List (Int × Int))) (c7 : (List (Int × Int))) (c8 : Int) : Nat → Int → (Int → Option α) → Option α → Option α
 | 0, _, _, _ => none
 | n + 1, d0, k0, k1 => L1.st N c0 c1 c2 c3 c4 c5 c6 c7 c8 (fun e0 => L1.f N c0 c1 c2 c3 c4 c5 c6 c7 c8 n e0 k0 k1) d0 k0 k1
def L1.F {α : Type} (N : Nat) (d : L1.sh.T) (K : Cont α) : Option α := L1.f N d.1.1 d.2.1.1 d.2.1.2.1 d.2.1.2.2.1 d.2.2.1.1 d.2.2.1.2.1 d.2.2.1.2.2.1 d.2.2.1.2.2.2.1 d.2.2.1.2.2.2.2.1 N d.1.2.2.2.1 (fun y0 => K (Exit.ret) (L1.x0.enc (((), (y0, ((), ()))), ((d.2.1.1, (d.2.1.2.1, (d.2.1.2.2.1, ()))), ((d.2.2.1.1, (d.2.2.1.2.1, (d.2.2.1.2.2.1, (d.2.2.1.2.2.2.1, (d.2.2.1.2.2.2.2.1, ()))))), ()))))) (K (Exit.exit 2) (L1.x1.enc (((), ((), ((), ()))), ((d.2.1.1, (d.2.1.2.1, (d.2.1.2.2.1, ()))), ((d.2.2.1.1, (d.2.2.1.2.1, (d.2.2.1.2.2.1, (d.2.2.1.2.2.2.1, (d.2.2.1.2.2.2.2.1, ()))))), ())))))
def ents82 {α : Type} (N : Nat) : List (SmE α) := [⟨0, 50, 5, [⟨L0.sh, L0.F N⟩]⟩, ⟨0, 50, 10, [⟨L1.sh, L1.F N⟩]⟩]
def C (N : Nat) : Ctx := ⟨tys, [(80, pf09_Name.fent), (94, pf09_arcs.fent)], [], N⟩
def L0.B {α : Type} (N : Nat) : Env → Cont α → Option α := evC tys 75 0 (evCall (C N) 50) (evCallQ (C N)) N an82 (smL (ents82 N) 0 50) (loopOf 5 Tryd.f82)
theorem L0.r {α : Type} (N : Nat) (c0 : Int) (c1 : BA) (c2 : (List (BA × Int × Int))) (c3 : (List (BA × List (Int × Int) × List (Int × Int) × List (Int × Int) × Int))) (c4 : BA) (c5 : (List (Int × Int))) (c6 : (List (Int × Int))) (c7 : (List (Int × Int))) (c8 : Int) (φ : Env → Option α) (K : Cont α) (d0 : Int) : L0.B N (L0.sh.enc ((c0, ((), ((), (d0, ())))), ((c1, (c2, (c3, ()))), ((c4, (c5, (c6, (c7, (c8, ()))))), ())))) (contL φ K (Env.norm 0 [1, 2, 5, 6]) (Env.norm 0 [1, 2, 4, 5])) = L0.st N c0 c1 c2 c3 c4 c5 c6 c7 c8 (fun e0 => φ (L0.sh.enc ((c0, ((), ((), (e0, ())))), ((c1, (c2, (c3, ()))), ((c4, (c5, (c6, (c7, (c8, ()))))), ()))))) d0 (fun y0 => K (Exit.ret) (L0.x0.enc ((c0, ((), (y0, ((), ())))), ((c1, (c2, (c3, ()))), ((c4, (c5, (c6, (c7, (c8, ()))))), ()))))) (K (Exit.exit 0) (L0.x1.enc ((c0, ((), ((), ((), ())))), ((c1, (c2, (c3, ()))), ((c4, (c5, (c6, (c7, (c8, ()))))), ()))))) := by kernel_rfl
theorem L0.e {α : Type} (N : Nat) (c0 : Int) (c1 : BA) (c2 : (List (BA × Int × Int))) (c3 : (List (BA × List (Int × Int) × List (Int × Int) × List (Int × Int) × Int))) (c4 : BA) (c5 : (List (Int × Int))) (c6 : (List (Int × Int))) (c7 : (List (Int × Int))) (c8 : Int) : ∀ (n : Nat) (d0 : Int) (K : Cont α), evL (L0.B N) (Env.norm 0 [1, 2, 5, 6]) (Env.norm 0 [1, 2, 4, 5]) n (L0.sh.enc ((c0, ((), ((), (d0, ())))), ((c1, (c2, (c3, ()))), ((c4, (c5, (c6, (c7, (c8, ()))))), ())))) K = L0.f N c0 c1 c2 c3 c4 c5 c6 c7 c8 n d0 (fun y0 => K (Exit.ret) (L0.x0.enc ((c0, ((), (y0, ((), ())))), ((c1, (c2, (c3, ()))), ((c4, (c5, (c6, (c7, (c8, ()))))), ()))))) (K (Exit.exit 0) (L0.x1.enc ((c0, ((), ((), ((), ())))), ((c1, (c2, (c3, ()))), ((c4, (c5, (c6, (c7, (c8, ()))))), ())))))
 | 0, d0, K => rfl
 | n + 1, d0, K => evL_contL.trans ((L0.r N c0 c1 c2 c3 c4 c5 c6 c7 c8 (fun e => evL (L0.B N) (Env.norm 0 [1, 2, 5, 6]) (Env.norm 0 [1, 2, 4, 5]) n e K) K d0).trans (congrArg (fun φ => L0.st N c0 c1 c2 c3 c4 c5 c6 c7 c8 φ d0 (fun y0 => K (Exit.ret) (L0.x0.enc ((c0, ((), (y0, ((), ())))), ((c1, (c2, (c3, ()))), ((c4, (c5, (c6, (c7, (c8, ()))))), ()))))) (K (Exit.exit 0) (L0.x1.enc ((c0, ((), ((), ((), ())))), ((c1, (c2, (c3, ()))), ((c4, (c5, (c6, (c7, (c8, ()))))), ())))))) (funext fun e0 => L0.e N c0 c1 c2 c3 c4 c5 c6 c7 c8 n e0 K)))
def L1.B {α : Type} (N : Nat) : Env → Cont α → Option α := evC tys 75 0 (evCall (C N) 50) (evCallQ (C N)) N an82 (smL (ents82 N) 0 50) (loopOf 10 Tryd.f82)
theorem L1.r {α : Type} (N : Nat) (c0 : Int) (c1 : BA) (c2 : (List (BA × Int × Int))) (c3 : (List (BA × List (Int × Int) × List (Int × Int) × List (Int × Int) × Int))) (c4 : BA) (c5 : (List (Int × Int))) (c6 : (List (Int × Int))) (c7 : (List (Int × Int))) (c8 : Int) (φ : Env → Option α) (K : Cont α) (d0 : Int) : L1.B N (L1.sh.enc ((c0, ((), ((), (d0, ())))), ((c1, (c2, (c3, ()))), ((c4, (c5, (c6, (c7, (c8, ()))))), ())))) (contL φ K (Env.norm 0 [1, 2, 5, 7]) (Env.norm 0 [2, 4, 5])) = L1.st N c0 c1 c2 c3 c4 c5 c6 c7 c8 (fun e0 => φ (L1.sh.enc ((c0, ((), ((), (e0, ())))), ((c1, (c2, (c3, ()))), ((c4, (c5, (c6, (c7, (c8, ()))))), ()))))) d0 (fun y0 => K (Exit.ret) (L1.x0.enc (((), (y0, ((), ()))), ((c1, (c2, (c3, ()))), ((c4, (c5, (c6, (c7, (c8, ()))))), ()))))) (K (Exit.exit 2) (L1.x1.enc (((), ((), ((), ()))), ((c1, (c2, (c3, ()))), ((c4, (c5, (c6, (c7, (c8, ()))))), ()))))) := by kernel_rfl
theorem L1.e {α : Type} (N : Nat) (c0 : Int) (c1 : BA) (c2 : (List (BA × Int × Int))) (c3 : (List (BA × List (Int × Int) × List (Int × Int) × List (Int × Int) × Int))) (c4 : BA) (c5 : (List (Int × Int))) (c6 : (List (Int × Int))) (c7 : (List (Int × Int))) (c8 : Int) : ∀ (n : Nat) (d0 : Int) (K : Cont α), evL (L1.B N) (Env.norm 0 [1, 2, 5, 7]) (Env.norm 0 [2, 4, 5]) n (L1.sh.enc ((c0, ((), ((), (d0, ())))), ((c1, (c2, (c3, ()))), ((c4, (c5, (c6, (c7, (c8, ()))))), ())))) K = L1.f N c0 c1 c2 c3 c4 c5 c6 c7 c8 n d0 (fun y0 => K (Exit.ret) (L1.x0.enc (((), (y0, ((), ()))), ((c1, (c2, (c3, ()))), ((c4, (c5, (c6, (c7, (c8, ()))))), ()))))) (K (Exit.exit 2) (L1.x1.enc (((), ((), ((), ()))), ((c1, (c2, (c3, ()))), ((c4, (c5, (c6, (c7, (c8, ()))))), ())))))
 | 0, d0, K => rfl
 | n + 1, d0, K => evL_contL.trans ((L1.r N c0 c1 c2 c3 c4 c5 c6 c7 c8 (fun e => evL (L1.B N) (Env.norm 0 [1, 2, 5, 7]) (Env.norm 0 [2, 4, 5]) n e K) K d0).trans (congrArg (fun φ => L1.st N c0 c1 c2 c3 c4 c5 c6 c7 c8 φ d0 (fun y0 => K (Exit.ret) (L1.x0.enc (((), (y0, ((), ()))), ((c1, (c2, (c3, ()))), ((c4, (c5, (c6, (c7, (c8, ()))))), ()))))) (K (Exit.exit 2) (L1.x1.enc (((), ((), ((), ()))), ((c1, (c2, (c3, ()))), ((c4, (c5, (c6, (c7, (c8, ()))))), ())))))) (funext fun e0 => L1.e N c0 c1 c2 c3 c4 c5 c6 c7 c8 n e0 K)))
theorem ents82_ok {α : Type} (N : Nat) : AllP (EntOk (C N) Tryd.f82 an82 (ents82 (α := α) N)) (ents82 N) := ⟨entOk_of (b0 := loopOf 5 Tryd.f82) (li0 := [1, 2, 5, 6]) (lx0 := [1, 2, 4, 5]) (by kernel_rfl) (by kernel_rfl) ⟨fun d K => L0.e N d.1.1 d.2.1.1 d.2.1.2.1 d.2.1.2.2.1 d.2.2.1.1 d.2.2.1.2.1 d.2.2.1.2.2.1 d.2.2.1.2.2.2.1 d.2.2.1.2.2.2.2.1 N d.1.2.2.2.1 K, trivial⟩, entOk_of (b0 := loopOf 10 Tryd.f82) (li0 := [1, 2, 5, 7]) (lx0 := [2, 4, 5]) (by kernel_rfl) (by kernel_rfl) ⟨fun d K => L1.e N d.1.1 d.2.1.1 d.2.1.2.1 d.2.1.2.2.1 d.2.2.1.1 d.2.2.1.2.1 d.2.2.1.2.2.1 d.2.2.1.2.2.2.1 d.2.2.1.2.2.2.2.1 N d.1.2.2.2.1 K, trivial⟩, trivial⟩
def g {α : Type} (N : Nat) (a0 : BA × List (BA × Int × Int) × List (BA × List (Int × Int) × List (Int × Int) × List (Int × Int) × Int)) (a1 : Int) (kr : (Int → Option α)) : Option α :=
 cond (decide (0 ≤ a1) && decide (a1 < (↑(List.length a0.snd.snd) : Int))) (cond (!pf09_Name.spec (List.getD a0.snd.snd a1.toNat (eBA, [], [], [], 0)).fst) (kr (5)) (L0.f N (a1) (a0.fst) (a0.snd.fst) (a0.snd.snd) ((List.getD a0.snd.snd a1.toNat (eBA, [], [], [], 0)).fst) ((List.getD a0.snd.snd a1.toNat (eBA, [], [], [], 0)).snd.fst) ((List.getD a0.snd.snd a1.toNat (eBA, [], [], [], 0)).snd.snd.fst) ((List.getD a0.snd.snd a1.toNat (eBA, [], [], [], 0)).snd.snd.snd.fst) ((List.getD a0.snd.snd a1.toNat (eBA, [], [], [], 0)).snd.snd.snd.snd) N (0) (fun x10 => kr (x10)) (L1.f N (a1) (a0.fst) (a0.snd.fst) (a0.snd.snd) ((List.getD a0.snd.snd a1.toNat (eBA, [], [], [], 0)).fst) ((List.getD a0.snd.snd a1.toNat (eBA, [], [], [], 0)).snd.fst) ((List.getD a0.snd.snd a1.toNat (eBA, [], [], [], 0)).snd.snd.fst) ((List.getD a0.snd.snd a1.toNat (eBA, [], [], [], 0)).snd.snd.snd.fst) ((List.getD a0.snd.snd a1.toNat (eBA, [], [], [], 0)).snd.snd.snd.snd) N (0) (fun x21 => kr (x21)) (cond (decide ((List.getD a0.snd.snd a1.toNat (eBA, [], [], [], 0)).snd.snd.snd.snd < 0)) (kr (1)) (cond (decide (9 < (List.getD a0.snd.snd a1.toNat (eBA, [], [], [], 0)).snd.snd.snd.snd)) (kr (1)) (cond (pf09_arcs.spec (a0.fst, a0.snd.fst, a0.snd.snd) (List.getD a0.snd.snd a1.toNat (eBA, [], [], [], 0)).snd.fst != 0) (kr (pf09_arcs.spec (a0.fst, a0.snd.fst, a0.snd.snd) (List.getD a0.snd.snd a1.toNat (eBA, [], [], [], 0)).snd.fst)) (cond (pf09_arcs.spec (a0.fst, a0.snd.fst, a0.snd.snd) (List.getD a0.snd.snd a1.toNat (eBA, [], [], [], 0)).snd.snd.fst != 0) (kr (pf09_arcs.spec (a0.fst, a0.snd.fst, a0.snd.snd) (List.getD a0.snd.snd a1.toNat (eBA, [], [], [], 0)).snd.snd.fst)) (kr (pf09_arcs.spec (a0.fst, a0.snd.fst, a0.snd.snd) (List.getD a0.snd.snd a1.toNat (eBA, [], [], [], 0)).snd.snd.snd.fst))))))))) (none)
theorem eq (N : Nat) (a0 : BA × List (BA × Int × Int) × List (BA × List (Int × Int) × List (Int × Int) × List (Int × Int) × Int)) (a1 : Int) : evF (C N) 50 Tryd.f82 an82 (smL (ents82 N) 0 50) [((.int .i64 : K), false)] [⟨.st (.pr (.str) (.pr (.sl (.st (.pr (.str) (.pr (.int .i64) (.int .i64))))) (.sl (.st (.pr (.str) (.pr (.sl (.st (.pr (.int .i64) (.int .i64)))) (.pr (.sl (.st (.pr (.int .i64) (.int .i64)))) (.pr (.sl (.st (.pr (.int .i64) (.int .i64)))) (.int .i64))))))))), a0⟩, ⟨.int .i64, a1⟩] = g N a0 a1 (fun r0 => some [.dat (K.int IntKind.i64) r0]) := by kernel_rfl
theorem ctxOk (N : Nat) : CtxOk P (C N) := ctxOk_of tysOk mixedOk ⟨pf09_Name.ok, pf09_arcs.ok, trivial⟩ trivial
theorem calls (N : Nat) (a0 : BA × List (BA × Int × Int) × List (BA × List (Int × Int) × List (Int × Int) × List (Int × Int) × Int)) (a1 : Int) {rs : List Rs} (h : g N a0 a1 (fun r0 => some [.dat (K.int IntKind.i64) r0]) = some rs) : CallsTo P 82 [⟨.st (.pr (.str) (.pr (.sl (.st (.pr (.str) (.pr (.int .i64) (.int .i64))))) (.sl (.st (.pr (.str) (.pr (.sl (.st (.pr (.int .i64) (.int .i64)))) (.pr (.sl (.st (.pr (.int .i64) (.int .i64)))) (.pr (.sl (.st (.pr (.int .i64) (.int .i64)))) (.int .i64))))))))), a0⟩, ⟨.int .i64, a1⟩] rs := evF_calls' (ctxOk N) (by rfl) (ents82_ok N) ((eq N a0 a1).trans h)
def L0.l {α : Type} (N : Nat) (x0 : Int) (x2 : BA) (x3 : (List (BA × Int × Int))) (x4 : (List (BA × List (Int × Int) × List (Int × Int) × List (Int × Int) × Int))) (x5 : BA) (x6 : (List (Int × Int))) (x7 : (List (Int × Int))) (x8 : (List (Int × Int))) (x9 : Int) (k0 : (Int → Option α)) (k1 : Option α) : List (BA × Int × Int) → Int → Option α
 | [], x1 => k1 
 | x :: l, x1 => (cond (sEq x.fst x5) (k0 (6)) (L0.l N x0 x2 x3 x4 x5 x6 x7 x8 x9 k0 k1 l (x1 + 1)))
theorem L0.rng {α : Type} {N : Nat} (x0 : Int) (x2 : BA) (x3 : (List (BA × Int × Int))) (x4 : (List (BA × List (Int × Int) × List (Int × Int) × List (Int × Int) × Int))) (x5 : BA) (x6 : (List (Int × Int))) (x7 : (List (Int × Int))) (x8 : (List (Int × Int))) (x9 : Int) (hl : x3.length ≤ maxLen) (k0 : (Int → Option α)) (k1 : Option α) : ∀ (n j : Nat), x3.length < n + j → j ≤ x3.length → L0.f N x0 x2 x3 x4 x5 x6 x7 x8 x9 n (j : Int) k0 k1 = L0.l N x0 x2 x3 x4 x5 x6 x7 x8 x9 k0 k1 (x3.drop j) (j : Int)
 | 0, j, h, hj => absurd h (by omega)
 | n + 1, j, h, hj => by
  by_cases hlt : j < x3.length
  ·
   have e1 : decide ((j : Int) < (x3.length : Int)) = true := decide_eq_true (Int.ofNat_lt.2 hlt)
   have e2 : decide ((0 : Int) ≤ (j : Int)) = true := decide_eq_true (Int.natCast_nonneg j)
   have e3 : ∀ z, x3.getD (Int.toNat (j : Int)) z = x3[j] := fun z => by rw [Int.toNat_natCast]; exact (List.getElem_eq_getD z).symm
   have e3' : ∀ z, x3.getD (0 + Int.toNat (j : Int)) z = x3[j] := fun z => by rw [Nat.zero_add]; exact e3 z
   have e4 : IntKind.i64.wrap ((j : Int) + 1) = (j : Int) + 1 := wrap_next hlt hl
   have ih : ∀ (_ : Unit), L0.f N x0 x2 x3 x4 x5 x6 x7 x8 x9 n ((j : Int) + 1) k0 k1 = L0.l N x0 x2 x3 x4 x5 x6 x7 x8 x9 k0 k1 (x3.drop (j + 1)) ((j : Int) + 1) := fun _ => L0.rng x0 x2 x3 x4 x5 x6 x7 x8 x9 hl k0 k1 n (j + 1) (by omega) (by omega)
   rw [List.drop_eq_getElem_cons hlt]
   replace ih := ih ()
   first
    | (simp only [L0.f, L0.st, L0.l, e1, e2, e3, e3', e4, Bool.true_and, Bool.and_true, Bool.and_self, cond_true, ih]; done)
    | (simp only [L0.f, L0.st, L0.l, e1, e2, e3, e3', e4, Bool.true_and, Bool.and_true, Bool.and_self, cond_true, ih]; rfl)
  ·
   have e1 : decide ((j : Int) < (x3.length : Int)) = false := decide_eq_false (fun hc => hlt (Int.ofNat_lt.1 hc))
   rw [List.drop_eq_nil_of_le (by omega)]
   simp only [L0.f, L0.st, L0.l, e1, cond_false]
def L1.l {α : Type} (N : Nat) (x13 : BA) (x14 : (List (BA × Int × Int))) (x15 : (List (BA × List (Int × Int) × List (Int × Int) × List (Int × Int) × Int))) (x16 : BA) (x17 : (List (Int × Int))) (x18 : (List (Int × Int))) (x19 : (List (Int × Int))) (x20 : Int) (k0 : (Int → Option α)) (k1 : Option α) : List (BA × List (Int × Int) × List (Int × Int) × List (Int × Int) × Int) → Int → Option α
 | [], x12 => k1 
 | x :: l, x12 => (cond (sEq x.fst x16) (k0 (6)) (L1.l N x13 x14 x15 x16 x17 x18 x19 x20 k0 k1 l (x12 + 1)))
theorem L1.rng {α : Type} {N : Nat} (x13 : BA) (x14 : (List (BA × Int × Int))) (x15 : (List (BA × List (Int × Int) × List (Int × Int) × List (Int × Int) × Int))) (x16 : BA) (x17 : (List (Int × Int))) (x18 : (List (Int × Int))) (x19 : (List (Int × Int))) (x20 : Int) (hl : x15.length ≤ maxLen) (k0 : (Int → Option α)) (k1 : Option α) : ∀ (n j : Nat), x15.length < n + j → j ≤ x15.length → L1.f N (x15.length : Int) x13 x14 x15 x16 x17 x18 x19 x20 n (j : Int) k0 k1 = L1.l N x13 x14 x15 x16 x17 x18 x19 x20 k0 k1 (x15.drop j) (j : Int)
 | 0, j, h, hj => absurd h (by omega)
 | n + 1, j, h, hj => by
  by_cases hlt : j < x15.length
  ·
   have e1 : decide ((j : Int) < (x15.length : Int)) = true := decide_eq_true (Int.ofNat_lt.2 hlt)
   have e2 : decide ((0 : Int) ≤ (j : Int)) = true := decide_eq_true (Int.natCast_nonneg j)
   have e3 : ∀ z, x15.getD (Int.toNat (j : Int)) z = x15[j] := fun z => by rw [Int.toNat_natCast]; exact (List.getElem_eq_getD z).symm
   have e3' : ∀ z, x15.getD (0 + Int.toNat (j : Int)) z = x15[j] := fun z => by rw [Nat.zero_add]; exact e3 z
   have e4 : IntKind.i64.wrap ((j : Int) + 1) = (j : Int) + 1 := wrap_next hlt hl
   have ih : ∀ (_ : Unit), L1.f N (x15.length : Int) x13 x14 x15 x16 x17 x18 x19 x20 n ((j : Int) + 1) k0 k1 = L1.l N x13 x14 x15 x16 x17 x18 x19 x20 k0 k1 (x15.drop (j + 1)) ((j : Int) + 1) := fun _ => L1.rng x13 x14 x15 x16 x17 x18 x19 x20 hl k0 k1 n (j + 1) (by omega) (by omega)
   rw [List.drop_eq_getElem_cons hlt]
   replace ih := ih ()
   first
    | (simp only [L1.f, L1.st, L1.l, e1, e2, e3, e3', e4, Bool.true_and, Bool.and_true, Bool.and_self, cond_true, ih]; done)
    | (simp only [L1.f, L1.st, L1.l, e1, e2, e3, e3', e4, Bool.true_and, Bool.and_true, Bool.and_self, cond_true, ih]; rfl)
  ·
   have e1 : decide ((j : Int) < (x15.length : Int)) = false := decide_eq_false (fun hc => hlt (Int.ofNat_lt.1 hc))
   rw [List.drop_eq_nil_of_le (by omega)]
   simp only [L1.f, L1.st, L1.l, e1, cond_false]
end pf09_trans
theorem pf09_trans.L0.law {α : Type} {N : Nat} (hN : 18446744073709551616 ≤ N) (ps : List (BA × Int × Int)) (hm : ps.length ≤ maxLen) (nm : BA) (x0 x2 x4 x6 x7 x8 x9) (k0 : Int → Option α) (k1 : Option α) :
  pf09_trans.L0.f N x0 x2 ps x4 nm x6 x7 x8 x9 N 0 k0 k1 = cond ((ps.map (·.1)).any fun o => sEq o nm) (k0 6) k1 := by
 have go : ∀ (l : List (BA × Int × Int)) (j : Int), pf09_trans.L0.l N x0 x2 ps x4 nm x6 x7 x8 x9 k0 k1 l j = cond ((l.map (·.1)).any fun o => sEq o nm) (k0 6) k1 := by
  intro l
  induction l with
  | nil => intro j; rfl
  | cons x l ih =>
   intro j
   rw [pf09_trans.L0.l, ih, List.map_cons, List.any_cons]
   cases sEq x.1 nm <;> rfl
 refine (pf09_trans.L0.rng (N := N) x0 x2 ps x4 nm x6 x7 x8 x9 hm k0 k1 N 0 (by have := le_fuel hm hN; omega) (Nat.zero_le _)).trans ?_
 rw [List.drop_zero]
 exact go ps 0
theorem pf09_trans.L1.law {α : Type} {N : Nat} (b : Nat) (ts : List TransT) (hb : b ≤ ts.length) (hm : ts.length ≤ maxLen) (nm : BA) (x2 x3 x6 x7 x8 x9) (k0 : Int → Option α) (k1 : Option α) : ∀ (n j : Nat), b < n + j → j ≤ b →
  pf09_trans.L1.f N (b : Int) x2 x3 ts nm x6 x7 x8 x9 n (j : Int) k0 k1 = cond (((ts.take b).drop j).any fun p => sEq p.1 nm) (k0 6) k1
 | 0, j, h, hj => absurd h (by omega)
 | n + 1, j, h, hj => by
  rw [pf09_trans.L1.f, pf09_trans.L1.st]
  by_cases hlt : j < b
  ·
   have hjl : j < ts.length := by omega
   have ht : j < (ts.take b).length := by simp; omega
   rw [d_lt hlt, cond_true, d_0, d_lt hjl, Bool.and_self, cond_true, List.drop_eq_getElem_cons ht, List.any_cons, List.getElem_take, getD_at hjl, wrap_next hjl hm, ← succ_cast,
    pf09_trans.L1.law b ts hb hm nm x2 x3 x6 x7 x8 x9 k0 k1 n (j + 1) (by omega) (by omega)]
   cases sEq (ts[j]).1 nm <;> rfl
  ·
   have e1 : decide ((j : Int) < (b : Int)) = false := decide_eq_false (by omega)
   rw [e1, cond_false, List.drop_eq_nil_of_le (by simp; omega)]
   rfl
theorem pf09_trans.law {α : Type} {N : Nat} (hN : 18446744073709551616 ≤ N) (a0 : BA × (List (BA × Int × Int)) × List (BA × (List (Int × Int)) × (List (Int × Int)) × (List (Int × Int)) × Int)) (a1 : Int) (w0 : K.wf (.st (.pr (.str) (.pr (.sl (.st (.pr (.str) (.pr (.int .i64) (.int .i64))))) (.sl (.st (.pr (.str) (.pr (.sl (.st (.pr (.int .i64) (.int .i64)))) (.pr (.sl (.st (.pr (.int .i64) (.int .i64)))) (.pr (.sl (.st (.pr (.int .i64) (.int .i64)))) (.int .i64)))))))))) a0) (w1 : K.wf (.int .i64) a1) (hp : pf09_trans.pre a0 a1 = true) (kr : (Int → Option α)) : pf09_trans.g N a0 a1 kr = kr (pf09_trans.spec a0 a1) := by
 unfold pf09_trans.g pf09_trans.spec
 simp only [pf09_trans.pre] at hp
 rw [hp, cond_true]
 simp only [Bool.and_eq_true, decide_eq_true_eq] at hp
 obtain ⟨i, rfl⟩ := Int.eq_ofNat_of_zero_le hp.1
 have hi : i < a0.2.2.length := by omega
 have hm : a0.2.1.length ≤ maxLen := w0.2.1.1
 have hm2 : a0.2.2.length ≤ maxLen := w0.2.2.1
 have hpl : a0.2.2.getD (Int.toNat (i : Int)) (eBA, [], [], [], 0) = trAt a0 (i : Int) := rfl
 rw [hpl]
 generalize trAt a0 (i : Int) = t
 have en : pf09_Name.spec t.1 = nameOk t.1 := rfl
 rw [en, pf09_trans.L0.law hN a0.2.1 hm t.1]
 have hL := fun k1 => pf09_trans.L1.law (N := N) i a0.2.2 (by omega) hm2 t.1 a0.1 a0.2.1 t.2.1 t.2.2.1 t.2.2.2.1 t.2.2.2.2 (fun x => kr x) k1 N 0 (by unfold maxLen at hm2; omega) (Nat.zero_le _)
 have hL' : ∀ k1, pf09_trans.L1.f N (i : Int) a0.1 a0.2.1 a0.2.2 t.1 t.2.1 t.2.2.1 t.2.2.2.1 t.2.2.2.2 N 0 (fun x => kr x) k1 = _ := hL
 rw [hL', List.drop_zero, Int.toNat_natCast]
 have ea : ((a0.2.2.take i).any fun q => sEq q.1 t.1) = (((a0.2.2.take i).map (·.1)).any fun o => sEq o t.1) := by rw [List.any_map]; rfl
 have ear : ∀ l, pf09_arcs.spec (a0.1, a0.2.1, a0.2.2) l = arcsE (a0.2.1.length : Int) none l := fun l => rfl
 rw [ea, ear, ear, ear]
 unfold addE transE
 rw [List.any_append]
 have e : ∀ z : Int, (z != 0) = !(z == 0) := fun z => rfl
 rw [e, e]
 cases nameOk t.1 <;> cases (a0.2.1.map (·.1)).any fun o => sEq o t.1 <;> cases ((a0.2.2.take i).map (·.1)).any fun o => sEq o t.1 <;> cases decide (t.2.2.2.2 < 0) <;> cases decide (9 < t.2.2.2.2) <;> cases (arcsE (a0.2.1.length : Int) none t.2.1 == 0) <;> cases (arcsE (a0.2.1.length : Int) none t.2.2.1 == 0) <;> rfl
theorem pf09_trans.ok : FentOk P 82 pf09_trans.fent := fentOk_of (by kernel_rfl) fun ds hk => by
 obtain ⟨a0, l0, rfl, h0⟩ := ds_cons hk
 obtain ⟨a1, l1, rfl, h1⟩ := ds_cons h0
 obtain rfl := ds0 h1
 exact ⟨pf09_trans.pre a0 a1, [.dat (.int .i64) (pf09_trans.spec a0 a1)], fun h hw => pf09_trans.calls 18446744073709551616 a0 a1 (pf09_trans.law (Nat.le_refl _) a0 a1 hw.1 hw.2.1 h _), fun α k => rfl⟩
end Go.VI
namespace Go.VI
open Go Go.Proofs
namespace pf09_Check
def an56 : Ann := [(6, [1, 2, 3], [1, 2]), (12, [1, 2, 5], [2])]
def L0.sh : Sh := { sl := [(1, SV.a (SA.fx (Atom.box 0 0))), (2, SV.a (SA.fx (Atom.box 1 0))), (3, SV.a (SA.d (K.int IntKind.i64)))], os := [(0, SO.box [SA.d K.str, SA.d (K.str.pr ((K.int IntKind.i64).pr (K.int IntKind.i64))).st.sl, SA.d (K.str.pr (((K.int IntKind.i64).pr (K.int IntKind.i64)).st.sl.pr (((K.int IntKind.i64).pr (K.int IntKind.i64)).st.sl.pr (((K.int IntKind.i64).pr (K.int IntKind.i64)).st.sl.pr (K.int IntKind.i64))))).st.sl]), (1, SO.box [SA.d (K.int IntKind.i64), SA.d (K.int IntKind.i64)])], nx := 2 }
def L0.x0 : Sh := { sl := [(1, SV.a (SA.fx (Atom.box 0 0))), (2, SV.a (SA.fx (Atom.box 1 0)))], os := [(0, SO.box [SA.d K.str, SA.d (K.str.pr ((K.int IntKind.i64).pr (K.int IntKind.i64))).st.sl, SA.d (K.str.pr (((K.int IntKind.i64).pr (K.int IntKind.i64)).st.sl.pr (((K.int IntKind.i64).pr (K.int IntKind.i64)).st.sl.pr (((K.int IntKind.i64).pr (K.int IntKind.i64)).st.sl.pr (K.int IntKind.i64))))).st.sl]), (1, SO.box [SA.d (K.int IntKind.i64), SA.d (K.int IntKind.i64)])], nx := 2 }
def L0.x1 : Sh := { sl := [(1, SV.a (SA.fx (Atom.box 0 0))), (2, SV.a (SA.fx (Atom.box 1 0)))], os := [(0, SO.box [SA.d K.str, SA.d (K.str.pr ((K.int IntKind.i64).pr (K.int IntKind.i64))).st.sl, SA.d (K.str.pr (((K.int IntKind.i64).pr (K.int IntKind.i64)).st.sl.pr (((K.int IntKind.i64).pr (K.int IntKind.i64)).st.sl.pr (((K.int IntKind.i64).pr (K.int IntKind.i64)).st.sl.pr (K.int IntKind.i64))))).st.sl]), (1, SO.box [SA.d (K.int IntKind.i64), SA.d (K.int IntKind.i64)])], nx := 2 }
def L0.st {α : Type} (N : Nat) (x1 : BA) (x2 : (List (BA × Int × Int))) (x3 : (List (BA × List (Int × Int) × List (Int × Int) × List (Int × Int) × Int))) (x4 : Int) (x5 : Int) (φ : (Int → Option α)) (x0 : Int) (k0 : (Int → Int → Option α)) (k1 : Option α) : Option α :=
 cond (decide (x0 < (↑x2.length : Int))) (cond (pf09_place.pre (x1, x2, x3) x0) (cond (pf09_place.spec (x1, x2, x3) x0 != 0) (k0 (pf09_place.spec (x1, x2, x3) x0) (x0)) (φ (IntKind.i64.wrap (x0 + 1)))) (none)) (k1 )
def L0.f {α : Type} (N : Nat) (c0 : BA) (c1 : (List (BA × Int × Int))) (c2 : (List (BA × List (Int × Int) × List (Int × Int) × List (Int × Int) × Int))) (c3 : Int) (c4 : Int) : Nat → Int → (Int → Int → Option α) → Option α → Option α
 | 0, _, _, _ => none
 | n + 1, d0, k0, k1 => L0.st N c0 c1 c2 c3 c4 (fun e0 => L0.f N c0 c1 c2 c3 c4 n e0 k0 k1) d0 k0 k1
def L0.F {α : Type} (N : Nat) (d : L0.sh.T) (K : Cont α) : Option α := L0.f N d.2.1.1 d.2.1.2.1 d.2.1.2.2.1 d.2.2.1.1 d.2.2.1.2.1 N d.1.2.2.1 (fun y0 y1 => K (Exit.ret) (L0.x0.enc (((), ((), ())), ((d.2.1.1, (d.2.1.2.1, (d.2.1.2.2.1, ()))), ((y0, (y1, ())), ()))))) (K (Exit.exit 0) (L0.x1.enc (((), ((), ())), ((d.2.1.1, (d.2.1.2.1, (d.2.1.2.2.1, ()))), ((d.2.2.1.1, (d.2.2.1.2.1, ())), ())))))
def L1.sh : Sh := { sl := [(1, SV.a (SA.fx (Atom.box 0 0))), (2, SV.a (SA.fx (Atom.box 1 0))), (5, SV.a (SA.d (K.int IntKind.i64)))], os := [(0, SO.box [SA.d K.str, SA.d (K.str.pr ((K.int IntKind.i64).pr (K.int IntKind.i64))).st.sl, SA.d (K.str.pr (((K.int IntKind.i64).pr (K.int IntKind.i64)).st.sl.pr (((K.int IntKind.i64).pr (K.int IntKind.i64)).st.sl.pr (((K.int IntKind.i64).pr (K.int IntKind.i64)).st.sl.pr (K.int IntKind.i64))))).st.sl]), (1, SO.box [SA.d (K.int IntKind.i64), SA.d (K.int IntKind.i64)])], nx := 2 }
def L1.x0 : Sh := { sl := [(2, SV.a (SA.fx (Atom.box 0 0)))], os := [(0, SO.box [SA.d (K.int IntKind.i64), SA.d (K.int IntKind.i64)])], nx := 1 }
def L1.x1 : Sh := { sl := [(2, SV.a (SA.fx (Atom.box 0 0)))], os := [(0, SO.box [SA.d (K.int IntKind.i64), SA.d (K.int IntKind.i64)])], nx := 1 }
def L1.st {α : Type} (N : Nat) (x9 : BA) (x10 : (List (BA × Int × Int))) (x11 : (List (BA × List (Int × Int) × List (Int × Int) × List (Int × Int) × Int))) (x12 : Int) (x13 : Int) (φ : (Int → Option α)) (x8 : Int) (k0 : (Int → Int → Option α)) (k1 : Option α) : Option α :=
 cond (decide (x8 < (↑x11.length : Int))) (cond (pf09_trans.pre (x9, x10, x11) x8) (cond (pf09_trans.spec (x9, x10, x11) x8 != 0) (k0 (pf09_trans.spec (x9, x10, x11) x8) (IntKind.i64.wrap ((↑x10.length : Int) + x8))) (φ (IntKind.i64.wrap (x8 + 1)))) (none)) (k1 )
def L1.f {α : Type} (N : Nat) (c0 : BA) (c1 : (List (BA × Int × Int))) (c2 : (List (BA × List (Int × Int) × List (Int × Int) × List (Int × Int) × Int))) (c3 : Int) (c4 : Int) : Nat → Int → (Int → Int → Option α) → Option α → Option α
 | 0, _, _, _ => none
 | n + 1, d0, k0, k1 => L1.st N c0 c1 c2 c3 c4 (fun e0 => L1.f N c0 c1 c2 c3 c4 n e0 k0 k1) d0 k0 k1
def L1.F {α : Type} (N : Nat) (d : L1.sh.T) (K : Cont α) : Option α := L1.f N d.2.1.1 d.2.1.2.1 d.2.1.2.2.1 d.2.2.1.1 d.2.2.1.2.1 N d.1.2.2.1 (fun y0 y1 => K (Exit.ret) (L1.x0.enc (((), ()), ((y0, (y1, ())), ())))) (K (Exit.exit 2) (L1.x1.enc (((), ()), ((d.2.2.1.1, (d.2.2.1.2.1, ())), ()))))
def ents56 {α : Type} (N : Nat) : List (SmE α) := [⟨0, 50, 6, [⟨L0.sh, L0.F N⟩]⟩, ⟨0, 50, 12, [⟨L1.sh, L1.F N⟩]⟩]
def C (N : Nat) : Ctx := ⟨tys, [(80, pf09_Name.fent), (81, pf09_place.fent), (82, pf09_trans.fent)], [], N⟩
def L0.B {α : Type} (N : Nat) : Env → Cont α → Option α := evC tys 64 0 (evCall (C N) 50) (evCallQ (C N)) N an56 (smL (ents56 N) 0 50) (loopOf 6 Tryd.f56)
theorem L0.r {α : Type} (N : Nat) (c0 : BA) (c1 : (List (BA × Int × Int))) (c2 : (List (BA × List (Int × Int) × List (Int × Int) × List (Int × Int) × Int))) (c3 : Int) (c4 : Int) (φ : Env → Option α) (K : Cont α) (d0 : Int) : L0.B N (L0.sh.enc (((), ((), (d0, ()))), ((c0, (c1, (c2, ()))), ((c3, (c4, ())), ())))) (contL φ K (Env.norm 0 [1, 2, 3]) (Env.norm 0 [1, 2])) = L0.st N c0 c1 c2 c3 c4 (fun e0 => φ (L0.sh.enc (((), ((), (e0, ()))), ((c0, (c1, (c2, ()))), ((c3, (c4, ())), ()))))) d0 (fun y0 y1 => K (Exit.ret) (L0.x0.enc (((), ((), ())), ((c0, (c1, (c2, ()))), ((y0, (y1, ())), ()))))) (K (Exit.exit 0) (L0.x1.enc (((), ((), ())), ((c0, (c1, (c2, ()))), ((c3, (c4, ())), ()))))) := by kernel_rfl
theorem L0.e {α : Type} (N : Nat) (c0 : BA) (c1 : (List (BA × Int × Int))) (c2 : (List (BA × List (Int × Int) × List (Int × Int) × List (Int × Int) × Int))) (c3 : Int) (c4 : Int) : ∀ (n : Nat) (d0 : Int) (K : Cont α), evL (L0.B N) (Env.norm 0 [1, 2, 3]) (Env.norm 0 [1, 2]) n (L0.sh.enc (((), ((), (d0, ()))), ((c0, (c1, (c2, ()))), ((c3, (c4, ())), ())))) K = L0.f N c0 c1 c2 c3 c4 n d0 (fun y0 y1 => K (Exit.ret) (L0.x0.enc (((), ((), ())), ((c0, (c1, (c2, ()))), ((y0, (y1, ())), ()))))) (K (Exit.exit 0) (L0.x1.enc (((), ((), ())), ((c0, (c1, (c2, ()))), ((c3, (c4, ())), ())))))
 | 0, d0, K => rfl
 | n + 1, d0, K => evL_contL.trans ((L0.r N c0 c1 c2 c3 c4 (fun e => evL (L0.B N) (Env.norm 0 [1, 2, 3]) (Env.norm 0 [1, 2]) n e K) K d0).trans (congrArg (fun φ => L0.st N c0 c1 c2 c3 c4 φ d0 (fun y0 y1 => K (Exit.ret) (L0.x0.enc (((), ((), ())), ((c0, (c1, (c2, ()))), ((y0, (y1, ())), ()))))) (K (Exit.exit 0) (L0.x1.enc (((), ((), ())), ((c0, (c1, (c2, ()))), ((c3, (c4, ())), ())))))) (funext fun e0 => L0.e N c0 c1 c2 c3 c4 n e0 K)))
def L1.B {α : Type} (N : Nat) : Env → Cont α → Option α := evC tys 64 0 (evCall (C N) 50) (evCallQ (C N)) N an56 (smL (ents56 N) 0 50) (loopOf 12 Tryd.f56)
theorem L1.r {α : Type} (N : Nat) (c0 : BA) (c1 : (List (BA × Int × Int))) (c2 : (List (BA × List (Int × Int) × List (Int × Int) × List (Int × Int) × Int))) (c3 : Int) (c4 : Int) (φ : Env → Option α) (K : Cont α) (d0 : Int) : L1.B N (L1.sh.enc (((), ((), (d0, ()))), ((c0, (c1, (c2, ()))), ((c3, (c4, ())), ())))) (contL φ K (Env.norm 0 [1, 2, 5]) (Env.norm 0 [2])) = L1.st N c0 c1 c2 c3 c4 (fun e0 => φ (L1.sh.enc (((), ((), (e0, ()))), ((c0, (c1, (c2, ()))), ((c3, (c4, ())), ()))))) d0 (fun y0 y1 => K (Exit.ret) (L1.x0.enc (((), ()), ((y0, (y1, ())), ())))) (K (Exit.exit 2) (L1.x1.enc (((), ()), ((c3, (c4, ())), ())))) := by kernel_rfl
theorem L1.e {α : Type} (N : Nat) (c0 : BA) (c1 : (List (BA × Int × Int))) (c2 : (List (BA × List (Int × Int) × List (Int × Int) × List (Int × Int) × Int))) (c3 : Int) (c4 : Int) : ∀ (n : Nat) (d0 : Int) (K : Cont α), evL (L1.B N) (Env.norm 0 [1, 2, 5]) (Env.norm 0 [2]) n (L1.sh.enc (((), ((), (d0, ()))), ((c0, (c1, (c2, ()))), ((c3, (c4, ())), ())))) K = L1.f N c0 c1 c2 c3 c4 n d0 (fun y0 y1 => K (Exit.ret) (L1.x0.enc (((), ()), ((y0, (y1, ())), ())))) (K (Exit.exit 2) (L1.x1.enc (((), ()), ((c3, (c4, ())), ()))))
 | 0, d0, K => rfl
 | n + 1, d0, K => evL_contL.trans ((L1.r N c0 c1 c2 c3 c4 (fun e => evL (L1.B N) (Env.norm 0 [1, 2, 5]) (Env.norm 0 [2]) n e K) K d0).trans (congrArg (fun φ => L1.st N c0 c1 c2 c3 c4 φ d0 (fun y0 y1 => K (Exit.ret) (L1.x0.enc (((), ()), ((y0, (y1, ())), ())))) (K (Exit.exit 2) (L1.x1.enc (((), ()), ((c3, (c4, ())), ()))))) (funext fun e0 => L1.e N c0 c1 c2 c3 c4 n e0 K)))
theorem ents56_ok {α : Type} (N : Nat) : AllP (EntOk (C N) Tryd.f56 an56 (ents56 (α := α) N)) (ents56 N) := ⟨entOk_of (b0 := loopOf 6 Tryd.f56) (li0 := [1, 2, 3]) (lx0 := [1, 2]) (by kernel_rfl) (by kernel_rfl) ⟨fun d K => L0.e N d.2.1.1 d.2.1.2.1 d.2.1.2.2.1 d.2.2.1.1 d.2.2.1.2.1 N d.1.2.2.1 K, trivial⟩, entOk_of (b0 := loopOf 12 Tryd.f56) (li0 := [1, 2, 5]) (lx0 := [2]) (by kernel_rfl) (by kernel_rfl) ⟨fun d K => L1.e N d.2.1.1 d.2.1.2.1 d.2.1.2.2.1 d.2.2.1.1 d.2.2.1.2.1 N d.1.2.2.1 K, trivial⟩, trivial⟩
def g {α : Type} (N : Nat) (a0 : BA × List (BA × Int × Int) × List (BA × List (Int × Int) × List (Int × Int) × List (Int × Int) × Int)) (kr : ((Int × Int) → Option α)) : Option α :=
 cond (!pf09_Name.spec a0.fst) (kr ((5, 0))) (cond (decide ((↑(List.length a0.snd.fst) : Int) < 1)) (kr ((2, 0))) (cond (decide (24 < (↑(List.length a0.snd.fst) : Int))) (kr ((2, 0))) (cond (decide (24 < (↑(List.length a0.snd.snd) : Int))) (kr ((2, 0))) (L0.f N (a0.fst) (a0.snd.fst) (a0.snd.snd) (0) (0) N (0) (fun x6 x7 => kr ((x6, x7))) (L1.f N (a0.fst) (a0.snd.fst) (a0.snd.snd) (0) (0) N (0) (fun x14 x15 => kr ((x14, x15))) (kr (((0 : Int), (0 : Int)))))))))
theorem eq (N : Nat) (a0 : BA × List (BA × Int × Int) × List (BA × List (Int × Int) × List (Int × Int) × List (Int × Int) × Int)) : evF (C N) 50 Tryd.f56 an56 (smL (ents56 N) 0 50) [((.st (.pr (.int .i64) (.int .i64)) : K), false)] [⟨.st (.pr (.str) (.pr (.sl (.st (.pr (.str) (.pr (.int .i64) (.int .i64))))) (.sl (.st (.pr (.str) (.pr (.sl (.st (.pr (.int .i64) (.int .i64)))) (.pr (.sl (.st (.pr (.int .i64) (.int .i64)))) (.pr (.sl (.st (.pr (.int .i64) (.int .i64)))) (.int .i64))))))))), a0⟩] = g N a0 (fun r0 => some [.dat (((K.int IntKind.i64).pr (K.int IntKind.i64)).st) r0]) := by kernel_rfl
theorem ctxOk (N : Nat) : CtxOk P (C N) := ctxOk_of tysOk mixedOk ⟨pf09_Name.ok, pf09_place.ok, pf09_trans.ok, trivial⟩ trivial
theorem calls (N : Nat) (a0 : BA × List (BA × Int × Int) × List (BA × List (Int × Int) × List (Int × Int) × List (Int × Int) × Int)) {rs : List Rs} (h : g N a0 (fun r0 => some [.dat (((K.int IntKind.i64).pr (K.int IntKind.i64)).st) r0]) = some rs) : CallsTo P 56 [⟨.st (.pr (.str) (.pr (.sl (.st (.pr (.str) (.pr (.int .i64) (.int .i64))))) (.sl (.st (.pr (.str) (.pr (.sl (.st (.pr (.int .i64) (.int .i64)))) (.pr (.sl (.st (.pr (.int .i64) (.int .i64)))) (.pr (.sl (.st (.pr (.int .i64) (.int .i64)))) (.int .i64))))))))), a0⟩] rs := evF_calls' (ctxOk N) (by rfl) (ents56_ok N) ((eq N a0).trans h)
def L0.l {α : Type} (N : Nat) (x1 : BA) (x2 : (List (BA × Int × Int))) (x3 : (List (BA × List (Int × Int) × List (Int × Int) × List (Int × Int) × Int))) (x4 : Int) (x5 : Int) (k0 : (Int → Int → Option α)) (k1 : Option α) : List (BA × Int × Int) → Int → Option α
 | [], x0 => k1 
 | x :: l, x0 => cond (pf09_place.pre (x1, x2, x3) x0) (cond (pf09_place.spec (x1, x2, x3) x0 != 0) (k0 (pf09_place.spec (x1, x2, x3) x0) (x0)) (L0.l N x1 x2 x3 x4 x5 k0 k1 l (x0 + 1))) (none)
theorem L0.rng {α : Type} {N : Nat} (x1 : BA) (x2 : (List (BA × Int × Int))) (x3 : (List (BA × List (Int × Int) × List (Int × Int) × List (Int × Int) × Int))) (x4 : Int) (x5 : Int) (hl : x2.length ≤ maxLen) (k0 : (Int → Int → Option α)) (k1 : Option α) : ∀ (n j : Nat), x2.length < n + j → j ≤ x2.length → L0.f N x1 x2 x3 x4 x5 n (j : Int) k0 k1 = L0.l N x1 x2 x3 x4 x5 k0 k1 (x2.drop j) (j : Int)
 | 0, j, h, hj => absurd h (by omega)
 | n + 1, j, h, hj => by
  by_cases hlt : j < x2.length
  ·
   have e1 : decide ((j : Int) < (x2.length : Int)) = true := decide_eq_true (Int.ofNat_lt.2 hlt)
   have e2 : decide ((0 : Int) ≤ (j : Int)) = true := decide_eq_true (Int.natCast_nonneg j)
   have e3 : ∀ z, x2.getD (Int.toNat (j : Int)) z = x2[j] := fun z => by rw [Int.toNat_natCast]; exact (List.getElem_eq_getD z).symm
   have e3' : ∀ z, x2.getD (0 + Int.toNat (j : Int)) z = x2[j] := fun z => by rw [Nat.zero_add]; exact e3 z
   have e4 : IntKind.i64.wrap ((j : Int) + 1) = (j : Int) + 1 := wrap_next hlt hl
   have ih : ∀ (_ : Unit), L0.f N x1 x2 x3 x4 x5 n ((j : Int) + 1) k0 k1 = L0.l N x1 x2 x3 x4 x5 k0 k1 (x2.drop (j + 1)) ((j : Int) + 1) := fun _ => L0.rng x1 x2 x3 x4 x5 hl k0 k1 n (j + 1) (by omega) (by omega)
   rw [List.drop_eq_getElem_cons hlt]
   replace ih := ih ()
   first
    | (simp only [L0.f, L0.st, L0.l, e1, e2, e3, e3', e4, Bool.true_and, Bool.and_true, Bool.and_self, cond_true, ih]; done)
    | (simp only [L0.f, L0.st, L0.l, e1, e2, e3, e3', e4, Bool.true_and, Bool.and_true, Bool.and_self, cond_true, ih]; rfl)
  ·
   have e1 : decide ((j : Int) < (x2.length : Int)) = false := decide_eq_false (fun hc => hlt (Int.ofNat_lt.1 hc))
   rw [List.drop_eq_nil_of_le (by omega)]
   simp only [L0.f, L0.st, L0.l, e1, cond_false]
def L1.l {α : Type} (N : Nat) (x9 : BA) (x10 : (List (BA × Int × Int))) (x11 : (List (BA × List (Int × Int) × List (Int × Int) × List (Int × Int) × Int))) (x12 : Int) (x13 : Int) (k0 : (Int → Int → Option α)) (k1 : Option α) : List (BA × List (Int × Int) × List (Int × Int) × List (Int × Int) × Int) → Int → Option α
 | [], x8 => k1 
 | x :: l, x8 => cond (pf09_trans.pre (x9, x10, x11) x8) (cond (pf09_trans.spec (x9, x10, x11) x8 != 0) (k0 (pf09_trans.spec (x9, x10, x11) x8) (IntKind.i64.wrap ((↑x10.length : Int) + x8))) (L1.l N x9 x10 x11 x12 x13 k0 k1 l (x8 + 1))) (none)
theorem L1.rng {α : Type} {N : Nat} (x9 : BA) (x10 : (List (BA × Int × Int))) (x11 : (List (BA × List (Int × Int) × List (Int × Int) × List (Int × Int) × Int))) (x12 : Int) (x13 : Int) (hl : x11.length ≤ maxLen) (k0 : (Int → Int → Option α)) (k1 : Option α) : ∀ (n j : Nat), x11.length < n + j → j ≤ x11.length → L1.f N x9 x10 x11 x12 x13 n (j : Int) k0 k1 = L1.l N x9 x10 x11 x12 x13 k0 k1 (x11.drop j) (j : Int)
 | 0, j, h, hj => absurd h (by omega)
 | n + 1, j, h, hj => by
  by_cases hlt : j < x11.length
  ·
   have e1 : decide ((j : Int) < (x11.length : Int)) = true := decide_eq_true (Int.ofNat_lt.2 hlt)
   have e2 : decide ((0 : Int) ≤ (j : Int)) = true := decide_eq_true (Int.natCast_nonneg j)
   have e3 : ∀ z, x11.getD (Int.toNat (j : Int)) z = x11[j] := fun z => by rw [Int.toNat_natCast]; exact (List.getElem_eq_getD z).symm
   have e3' : ∀ z, x11.getD (0 + Int.toNat (j : Int)) z = x11[j] := fun z => by rw [Nat.zero_add]; exact e3 z
   have e4 : IntKind.i64.wrap ((j : Int) + 1) = (j : Int) + 1 := wrap_next hlt hl
   have ih : ∀ (_ : Unit), L1.f N x9 x10 x11 x12 x13 n ((j : Int) + 1) k0 k1 = L1.l N x9 x10 x11 x12 x13 k0 k1 (x11.drop (j + 1)) ((j : Int) + 1) := fun _ => L1.rng x9 x10 x11 x12 x13 hl k0 k1 n (j + 1) (by omega) (by omega)
   rw [List.drop_eq_getElem_cons hlt]
   replace ih := ih ()
   first
    | (simp only [L1.f, L1.st, L1.l, e1, e2, e3, e3', e4, Bool.true_and, Bool.and_true, Bool.and_self, cond_true, ih]; done)
    | (simp only [L1.f, L1.st, L1.l, e1, e2, e3, e3', e4, Bool.true_and, Bool.and_true, Bool.and_self, cond_true, ih]; rfl)
  ·
   have e1 : decide ((j : Int) < (x11.length : Int)) = false := decide_eq_false (fun hc => hlt (Int.ofNat_lt.1 hc))
   rw [List.drop_eq_nil_of_le (by omega)]
   simp only [L1.f, L1.st, L1.l, e1, cond_false]
end pf09_Check
theorem take_names {β : Type} (l : List (BA × β)) {j : Nat} (h : j < l.length) : (l.take (j + 1)).map (·.1) = (l.take j).map (·.1) ++ [(l[j]).1] := by
 rw [List.take_succ_eq_append_getElem h, List.map_append]
 rfl
theorem pf09_Check.L0.law {α : Type} {N : Nat} (nm : BA) (ps : List (BA × Int × Int)) (ts : List TransT) (x4 x5) (K : Int × Int → Option α) (k1 : Option α) : ∀ (l : List (BA × Int × Int)) (j : Nat), l = ps.drop j →
  pf09_Check.L0.l N nm ps ts x4 x5 (fun e i => K (e, i)) k1 l (j : Int) = match placesE ((ps.take j).map (·.1)) (j : Int) l with | some r => K r | none => k1
 | [], j, _ => rfl
 | x :: l, j, hl => by
  obtain ⟨hj, hx, hl'⟩ := drop_step hl
  have hpre : pf09_place.pre (nm, ps, ts) (j : Int) = true := by
   unfold pf09_place.pre
   rw [d_0, d_lt hj]
   rfl
  have hsp : pf09_place.spec (nm, ps, ts) (j : Int) = cond (addE ((ps.take j).map (·.1)) x.1 == 0) (placeE x) (addE ((ps.take j).map (·.1)) x.1) := by
   unfold pf09_place.spec plAt
   simp only
   rw [getD_at hj, hx, Int.toNat_natCast]
  have ih := pf09_Check.L0.law (N := N) nm ps ts x4 x5 K k1 l (j + 1) hl'
  rw [take_names ps hj, hx, succ_cast] at ih
  rw [pf09_Check.L0.l, hpre, cond_true, hsp, ih, placesE]
  have e : ∀ z : Int, (z != 0) = !(z == 0) := fun z => rfl
  rw [e]
  cases ha : addE ((ps.take j).map (·.1)) x.1 == 0
  ·
   simp only [cond_false, ha, Bool.not_false, cond_true]
  ·
   simp only [cond_true]
   cases hb : placeE x == 0 <;> rfl
theorem pf09_Check.L1.law {α : Type} {N : Nat} (nm : BA) (ps : List (BA × Int × Int)) (ts : List TransT) (x4 x5) (hps : ps.length ≤ 1000) (hts : ts.length ≤ 1000) (K : Int × Int → Option α) (k1 : Option α) : ∀ (l : List TransT) (j : Nat), l = ts.drop j →
  pf09_Check.L1.l N nm ps ts x4 x5 (fun e i => K (e, i)) k1 l (j : Int) = match transesE (ps.length : Int) (ps.map (·.1) ++ (ts.take j).map (·.1)) (j : Int) l with | some r => K r | none => k1
 | [], j, _ => rfl
 | x :: l, j, hl => by
  obtain ⟨hj, hx, hl'⟩ := drop_step hl
  have hpre : pf09_trans.pre (nm, ps, ts) (j : Int) = true := by
   unfold pf09_trans.pre
   rw [d_0, d_lt hj]
   rfl
  have hsp : pf09_trans.spec (nm, ps, ts) (j : Int) = cond (addE (ps.map (·.1) ++ (ts.take j).map (·.1)) x.1 == 0) (transE x (ps.length : Int)) (addE (ps.map (·.1) ++ (ts.take j).map (·.1)) x.1) := by
   unfold pf09_trans.spec trAt
   simp only
   rw [getD_at hj, hx, Int.toNat_natCast]
  have ih := pf09_Check.L1.law (N := N) nm ps ts x4 x5 hps hts K k1 l (j + 1) hl'
  rw [take_names ts hj, hx, succ_cast, ← List.append_assoc] at ih
  have ew : IntKind.i64.wrap ((ps.length : Int) + (j : Int)) = (ps.length : Int) + (j : Int) := wrap_i64 (inI_i64.2 (by omega))
  rw [pf09_Check.L1.l, hpre, cond_true, hsp, ih, transesE, ew]
  have e : ∀ z : Int, (z != 0) = !(z == 0) := fun z => rfl
  rw [e]
  cases ha : addE (ps.map (·.1) ++ (ts.take j).map (·.1)) x.1 == 0
  ·
   simp only [cond_false, ha, Bool.not_false, cond_true]
  ·
   simp only [cond_true]
   cases hb : transE x (ps.length : Int) == 0 <;> rfl
theorem pf09_Check.law {α : Type} {N : Nat} (hN : 18446744073709551616 ≤ N) (a0 : BA × (List (BA × Int × Int)) × List (BA × (List (Int × Int)) × (List (Int × Int)) × (List (Int × Int)) × Int)) (w0 : K.wf (.st (.pr (.str) (.pr (.sl (.st (.pr (.str) (.pr (.int .i64) (.int .i64))))) (.sl (.st (.pr (.str) (.pr (.sl (.st (.pr (.int .i64) (.int .i64)))) (.pr (.sl (.st (.pr (.int .i64) (.int .i64)))) (.pr (.sl (.st (.pr (.int .i64) (.int .i64)))) (.int .i64)))))))))) a0) (kr : ((Int × Int) → Option α)) : pf09_Check.g N a0 kr = kr (pf09_Check.spec a0) := by
 unfold pf09_Check.g pf09_Check.spec checkN
 have en : pf09_Name.spec a0.1 = nameOk a0.1 := rfl
 rw [en]
 cases nameOk a0.1
 ·
  rfl
 ·
  simp only [Bool.not_true, cond_false, cond_true]
  by_cases h1 : List.length a0.2.1 < 1
  ·
   have e1 : decide (((List.length a0.2.1 : Nat) : Int) < 1) = true := decide_eq_true (by omega)
   rw [e1, decide_eq_true h1]
   rfl
  ·
   have e1 : decide (((List.length a0.2.1 : Nat) : Int) < 1) = false := decide_eq_false (by omega)
   rw [e1, decide_eq_false h1, cond_false, Bool.false_or]
   by_cases h2 : 24 < List.length a0.2.1
   ·
    have e2 : decide (24 < ((List.length a0.2.1 : Nat) : Int)) = true := decide_eq_true (by omega)
    rw [e2, decide_eq_true h2]
    rfl
   ·
    have e2 : decide (24 < ((List.length a0.2.1 : Nat) : Int)) = false := decide_eq_false (by omega)
    rw [e2, decide_eq_false h2, cond_false, Bool.false_or]
    by_cases h3 : 24 < List.length a0.2.2
    ·
     have e3 : decide (24 < ((List.length a0.2.2 : Nat) : Int)) = true := decide_eq_true (by omega)
     rw [e3, decide_eq_true h3]
     rfl
    ·
     have e3 : decide (24 < ((List.length a0.2.2 : Nat) : Int)) = false := decide_eq_false (by omega)
     rw [e3, decide_eq_false h3, cond_false, cond_false]
     refine (pf09_Check.L0.rng (N := N) a0.1 a0.2.1 a0.2.2 _ _ (by unfold maxLen; omega) _ _ N 0 (by omega) (Nat.zero_le _)).trans ?_
     rw [List.drop_zero]
     refine (pf09_Check.L0.law a0.1 a0.2.1 a0.2.2 _ _ (fun r => kr r) _ a0.2.1 0 rfl).trans ?_
     have e0 : (((0 : Nat) : Int)) = 0 := rfl
     rw [e0, List.take_zero, List.map_nil]
     cases placesE [] 0 a0.2.1 with
     | some r => rfl
     | none =>
      simp only
      refine (pf09_Check.L1.rng (N := N) a0.1 a0.2.1 a0.2.2 _ _ (by unfold maxLen; omega) _ _ N 0 (by omega) (Nat.zero_le _)).trans ?_
      rw [List.drop_zero]
      refine (pf09_Check.L1.law a0.1 a0.2.1 a0.2.2 _ _ (by omega) (by omega) (fun r => kr r) _ a0.2.2 0 rfl).trans ?_
      rw [List.take_zero, List.map_nil, List.append_nil, e0]
      cases transesE ((List.length a0.2.1 : Nat) : Int) (a0.2.1.map (·.1)) 0 a0.2.2 <;> rfl
theorem pf09_Check.ok : FentOk P 56 pf09_Check.fent := fentOk_of (by kernel_rfl) fun ds hk => by
 obtain ⟨a0, l0, rfl, h0⟩ := ds_cons hk
 obtain rfl := ds0 h0
 exact ⟨true, [.dat (.st (.pr (.int .i64) (.int .i64))) (pf09_Check.spec a0)], fun h hw => pf09_Check.calls 18446744073709551616 a0 (pf09_Check.law (Nat.le_refl _) a0 hw.1 _), fun α k => rfl⟩
end Go.VI
namespace Go.VI
open Go Go.Proofs
namespace pf09_Valid
def an92 : Ann := []
def ents92 {α : Type} (N : Nat) : List (SmE α) := []
def C (N : Nat) : Ctx := ⟨tys, [(56, pf09_Check.fent)], [], N⟩
theorem ents92_ok {α : Type} (N : Nat) : AllP (EntOk (C N) Tryd.f92 an92 (ents92 (α := α) N)) (ents92 N) := trivial
def g {α : Type} (N : Nat) (a0 : BA × List (BA × Int × Int) × List (BA × List (Int × Int) × List (Int × Int) × List (Int × Int) × Int)) (kr : (Bool → Option α)) : Option α :=
 kr ((pf09_Check.spec (a0.fst, a0.snd.fst, a0.snd.snd)).fst == 0)
theorem eq (N : Nat) (a0 : BA × List (BA × Int × Int) × List (BA × List (Int × Int) × List (Int × Int) × List (Int × Int) × Int)) : evF (C N) 50 Tryd.f92 an92 (smL (ents92 N) 0 50) [((.bool : K), false)] [⟨.st (.pr (.str) (.pr (.sl (.st (.pr (.str) (.pr (.int .i64) (.int .i64))))) (.sl (.st (.pr (.str) (.pr (.sl (.st (.pr (.int .i64) (.int .i64)))) (.pr (.sl (.st (.pr (.int .i64) (.int .i64)))) (.pr (.sl (.st (.pr (.int .i64) (.int .i64)))) (.int .i64))))))))), a0⟩] = g N a0 (fun r0 => some [.dat (K.bool) r0]) := by kernel_rfl
theorem ctxOk (N : Nat) : CtxOk P (C N) := ctxOk_of tysOk mixedOk ⟨pf09_Check.ok, trivial⟩ trivial
theorem calls (N : Nat) (a0 : BA × List (BA × Int × Int) × List (BA × List (Int × Int) × List (Int × Int) × List (Int × Int) × Int)) {rs : List Rs} (h : g N a0 (fun r0 => some [.dat (K.bool) r0]) = some rs) : CallsTo P 92 [⟨.st (.pr (.str) (.pr (.sl (.st (.pr (.str) (.pr (.int .i64) (.int .i64))))) (.sl (.st (.pr (.str) (.pr (.sl (.st (.pr (.int .i64) (.int .i64)))) (.pr (.sl (.st (.pr (.int .i64) (.int .i64)))) (.pr (.sl (.st (.pr (.int .i64) (.int .i64)))) (.int .i64))))))))), a0⟩] rs := evF_calls' (ctxOk N) (by rfl) (ents92_ok N) ((eq N a0).trans h)
end pf09_Valid
theorem pf09_Valid.law {α : Type} {N : Nat} (hN : 18446744073709551616 ≤ N) (a0 : BA × (List (BA × Int × Int)) × List (BA × (List (Int × Int)) × (List (Int × Int)) × (List (Int × Int)) × Int)) (w0 : K.wf (.st (.pr (.str) (.pr (.sl (.st (.pr (.str) (.pr (.int .i64) (.int .i64))))) (.sl (.st (.pr (.str) (.pr (.sl (.st (.pr (.int .i64) (.int .i64)))) (.pr (.sl (.st (.pr (.int .i64) (.int .i64)))) (.pr (.sl (.st (.pr (.int .i64) (.int .i64)))) (.int .i64)))))))))) a0) (kr : (Bool → Option α)) : pf09_Valid.g N a0 kr = kr (pf09_Valid.spec a0) := by
 rfl
theorem pf09_Valid.ok : FentOk P 92 pf09_Valid.fent := fentOk_of (by kernel_rfl) fun ds hk => by
 obtain ⟨a0, l0, rfl, h0⟩ := ds_cons hk
 obtain rfl := ds0 h0
 exact ⟨true, [.dat (.bool) (pf09_Valid.spec a0)], fun h hw => pf09_Valid.calls 18446744073709551616 a0 (pf09_Valid.law (Nat.le_refl _) a0 hw.1 _), fun α k => rfl⟩
end Go.VI
namespace Go.VI
open Go Go.Proofs
namespace pf09_Plain
def an75 : Ann := [(4, [1, 3], [1, 2]), (9, [1, 4], [2])]
def L0.sh : Sh := { sl := [(1, SV.a (SA.fx (Atom.box 0 0))), (3, SV.a (SA.d (K.int IntKind.i64)))], os := [(0, SO.box [SA.d K.str, SA.d (K.str.pr ((K.int IntKind.i64).pr (K.int IntKind.i64))).st.sl, SA.d (K.str.pr (((K.int IntKind.i64).pr (K.int IntKind.i64)).st.sl.pr (((K.int IntKind.i64).pr (K.int IntKind.i64)).st.sl.pr (((K.int IntKind.i64).pr (K.int IntKind.i64)).st.sl.pr (K.int IntKind.i64))))).st.sl])], nx := 1 }
def L0.x0 : Sh := { sl := [(1, SV.a (SA.fx (Atom.box 0 0))), (2, SV.a (SA.d K.bool))], os := [(0, SO.box [SA.d K.str, SA.d (K.str.pr ((K.int IntKind.i64).pr (K.int IntKind.i64))).st.sl, SA.d (K.str.pr (((K.int IntKind.i64).pr (K.int IntKind.i64)).st.sl.pr (((K.int IntKind.i64).pr (K.int IntKind.i64)).st.sl.pr (((K.int IntKind.i64).pr (K.int IntKind.i64)).st.sl.pr (K.int IntKind.i64))))).st.sl])], nx := 1 }
def L0.x1 : Sh := { sl := [(1, SV.a (SA.fx (Atom.box 0 0))), (2, SV.j)], os := [(0, SO.box [SA.d K.str, SA.d (K.str.pr ((K.int IntKind.i64).pr (K.int IntKind.i64))).st.sl, SA.d (K.str.pr (((K.int IntKind.i64).pr (K.int IntKind.i64)).st.sl.pr (((K.int IntKind.i64).pr (K.int IntKind.i64)).st.sl.pr (((K.int IntKind.i64).pr (K.int IntKind.i64)).st.sl.pr (K.int IntKind.i64))))).st.sl])], nx := 1 }
def L0.st {α : Type} (N : Nat) (x1 : BA) (x2 : (List (BA × Int × Int))) (x3 : (List (BA × List (Int × Int) × List (Int × Int) × List (Int × Int) × Int))) (φ : (Int → Option α)) (x0 : Int) (k0 : (Bool → Option α)) (k1 : Option α) : Option α :=
 cond (decide (x0 < (↑x2.length : Int))) (cond (decide (0 ≤ x0) && decide (x0 < (↑x2.length : Int))) (cond ((x2.getD x0.toNat (eBA, 0, 0)).snd.snd != 0) (k0 (false)) (φ (IntKind.i64.wrap (x0 + 1)))) (none)) (k1 )
def L0.f {α : Type} (N : Nat) (c0 : BA) (c1 : (List (BA × Int × Int))) (c2 : (List (BA × List (Int × Int) × List (Int × Int) × List (Int × Int) × Int))) : Nat → Int → (Bool → Option α) → Option α → Option α
 | 0, _, _, _ => none
 | n + 1, d0, k0, k1 => L0.st N c0 c1 c2 (fun e0 => L0.f N c0 c1 c2 n e0 k0 k1) d0 k0 k1
def L0.F {α : Type} (N : Nat) (d : L0.sh.T) (K : Cont α) : Option α := L0.f N d.2.1.1 d.2.1.2.1 d.2.1.2.2.1 N d.1.2.1 (fun y0 => K (Exit.ret) (L0.x0.enc (((), (y0, ())), ((d.2.1.1, (d.2.1.2.1, (d.2.1.2.2.1, ()))), ())))) (K (Exit.exit 0) (L0.x1.enc (((), ((), ())), ((d.2.1.1, (d.2.1.2.1, (d.2.1.2.2.1, ()))), ()))))
def L1.sh : Sh := { sl := [(1, SV.a (SA.fx (Atom.box 0 0))), (4, SV.a (SA.d (K.int IntKind.i64)))], os := [(0, SO.box [SA.d K.str, SA.d (K.str.pr ((K.int IntKind.i64).pr (K.int IntKind.i64))).st.sl, SA.d (K.str.pr (((K.int IntKind.i64).pr (K.int IntKind.i64)).st.sl.pr (((K.int IntKind.i64).pr (K.int IntKind.i64)).st.sl.pr (((K.int IntKind.i64).pr (K.int IntKind.i64)).st.sl.pr (K.int IntKind.i64))))).st.sl])], nx := 1 }
def L1.x0 : Sh := { sl := [(2, SV.a (SA.d K.bool))], os := [], nx := 0 }
def L1.x1 : Sh := { sl := [(2, SV.j)], os := [], nx := 0 }
def L1.st {α : Type} (N : Nat) (x6 : BA) (x7 : (List (BA × Int × Int))) (x8 : (List (BA × List (Int × Int) × List (Int × Int) × List (Int × Int) × Int))) (φ : (Int → Option α)) (x5 : Int) (k0 : (Bool → Option α)) (k1 : Option α) : Option α :=
 cond (decide (x5 < (↑x8.length : Int))) (cond (decide (0 ≤ x5) && decide (x5 < (↑x8.length : Int))) (cond (decide (0 < (↑(List.length (x8.getD x5.toNat (eBA, [], [], [], 0)).snd.snd.snd.fst) : Int))) (k0 (false)) (cond (decide (0 ≤ x5) && decide (x5 < (↑x8.length : Int))) (cond ((x8.getD x5.toNat (eBA, [], [], [], 0)).snd.snd.snd.snd != 0) (k0 (false)) (φ (IntKind.i64.wrap (x5 + 1)))) (none))) (none)) (k1 )
def L1.f {α : Type} (N : Nat) (c0 : BA) (c1 : (List (BA × Int × Int))) (c2 : (List (BA × List (Int × Int) × List (Int × Int) × List (Int × Int) × Int))) : Nat → Int → (Bool → Option α) → Option α → Option α
 | 0, _, _, _ => none
 | n + 1, d0, k0, k1 => L1.st N c0 c1 c2 (fun e0 => L1.f N c0 c1 c2 n e0 k0 k1) d0 k0 k1
def L1.F {α : Type} (N : Nat) (d : L1.sh.T) (K : Cont α) : Option α := L1.f N d.2.1.1 d.2.1.2.1 d.2.1.2.2.1 N d.1.2.1 (fun y0 => K (Exit.ret) (L1.x0.enc ((y0, ()), ()))) (K (Exit.exit 2) (L1.x1.enc (((), ()), ())))
def ents75 {α : Type} (N : Nat) : List (SmE α) := [⟨0, 50, 4, [⟨L0.sh, L0.F N⟩]⟩, ⟨0, 50, 9, [⟨L1.sh, L1.F N⟩]⟩]
def C (N : Nat) : Ctx := ⟨tys, [(92, pf09_Valid.fent)], [], N⟩
def L0.B {α : Type} (N : Nat) : Env → Cont α → Option α := evC tys 46 0 (evCall (C N) 50) (evCallQ (C N)) N an75 (smL (ents75 N) 0 50) (loopOf 4 Tryd.f75)
theorem L0.r {α : Type} (N : Nat) (c0 : BA) (c1 : (List (BA × Int × Int))) (c2 : (List (BA × List (Int × Int) × List (Int × Int) × List (Int × Int) × Int))) (φ : Env → Option α) (K : Cont α) (d0 : Int) : L0.B N (L0.sh.enc (((), (d0, ())), ((c0, (c1, (c2, ()))), ()))) (contL φ K (Env.norm 0 [1, 3]) (Env.norm 0 [1, 2])) = L0.st N c0 c1 c2 (fun e0 => φ (L0.sh.enc (((), (e0, ())), ((c0, (c1, (c2, ()))), ())))) d0 (fun y0 => K (Exit.ret) (L0.x0.enc (((), (y0, ())), ((c0, (c1, (c2, ()))), ())))) (K (Exit.exit 0) (L0.x1.enc (((), ((), ())), ((c0, (c1, (c2, ()))), ())))) := by kernel_rfl
theorem L0.e {α : Type} (N : Nat) (c0 : BA) (c1 : (List (BA × Int × Int))) (c2 : (List (BA × List (Int × Int) × List (Int × Int) × List (Int × Int) × Int))) : ∀ (n : Nat) (d0 : Int) (K : Cont α), evL (L0.B N) (Env.norm 0 [1, 3]) (Env.norm 0 [1, 2]) n (L0.sh.enc (((), (d0, ())), ((c0, (c1, (c2, ()))), ()))) K = L0.f N c0 c1 c2 n d0 (fun y0 => K (Exit.ret) (L0.x0.enc (((), (y0, ())), ((c0, (c1, (c2, ()))), ())))) (K (Exit.exit 0) (L0.x1.enc (((), ((), ())), ((c0, (c1, (c2, ()))), ()))))
 | 0, d0, K => rfl
 | n + 1, d0, K => evL_contL.trans ((L0.r N c0 c1 c2 (fun e => evL (L0.B N) (Env.norm 0 [1, 3]) (Env.norm 0 [1, 2]) n e K) K d0).trans (congrArg (fun φ => L0.st N c0 c1 c2 φ d0 (fun y0 => K (Exit.ret) (L0.x0.enc (((), (y0, ())), ((c0, (c1, (c2, ()))), ())))) (K (Exit.exit 0) (L0.x1.enc (((), ((), ())), ((c0, (c1, (c2, ()))), ()))))) (funext fun e0 => L0.e N c0 c1 c2 n e0 K)))
def L1.B {α : Type} (N : Nat) : Env → Cont α → Option α := evC tys 46 0 (evCall (C N) 50) (evCallQ (C N)) N an75 (smL (ents75 N) 0 50) (loopOf 9 Tryd.f75)
theorem L1.r {α : Type} (N : Nat) (c0 : BA) (c1 : (List (BA × Int × Int))) (c2 : (List (BA × List (Int × Int) × List (Int × Int) × List (Int × Int) × Int))) (φ : Env → Option α) (K : Cont α) (d0 : Int) : L1.B N (L1.sh.enc (((), (d0, ())), ((c0, (c1, (c2, ()))), ()))) (contL φ K (Env.norm 0 [1, 4]) (Env.norm 0 [2])) = L1.st N c0 c1 c2 (fun e0 => φ (L1.sh.enc (((), (e0, ())), ((c0, (c1, (c2, ()))), ())))) d0 (fun y0 => K (Exit.ret) (L1.x0.enc ((y0, ()), ()))) (K (Exit.exit 2) (L1.x1.enc (((), ()), ()))) := by kernel_rfl
theorem L1.e {α : Type} (N : Nat) (c0 : BA) (c1 : (List (BA × Int × Int))) (c2 : (List (BA × List (Int × Int) × List (Int × Int) × List (Int × Int) × Int))) : ∀ (n : Nat) (d0 : Int) (K : Cont α), evL (L1.B N) (Env.norm 0 [1, 4]) (Env.norm 0 [2]) n (L1.sh.enc (((), (d0, ())), ((c0, (c1, (c2, ()))), ()))) K = L1.f N c0 c1 c2 n d0 (fun y0 => K (Exit.ret) (L1.x0.enc ((y0, ()), ()))) (K (Exit.exit 2) (L1.x1.enc (((), ()), ())))
 | 0, d0, K => rfl
 | n + 1, d0, K => evL_contL.trans ((L1.r N c0 c1 c2 (fun e => evL (L1.B N) (Env.norm 0 [1, 4]) (Env.norm 0 [2]) n e K) K d0).trans (congrArg (fun φ => L1.st N c0 c1 c2 φ d0 (fun y0 => K (Exit.ret) (L1.x0.enc ((y0, ()), ()))) (K (Exit.exit 2) (L1.x1.enc (((), ()), ())))) (funext fun e0 => L1.e N c0 c1 c2 n e0 K)))
theorem ents75_ok {α : Type} (N : Nat) : AllP (EntOk (C N) Tryd.f75 an75 (ents75 (α := α) N)) (ents75 N) := ⟨entOk_of (b0 := loopOf 4 Tryd.f75) (li0 := [1, 3]) (lx0 := [1, 2]) (by kernel_rfl) (by kernel_rfl) ⟨fun d K => L0.e N d.2.1.1 d.2.1.2.1 d.2.1.2.2.1 N d.1.2.1 K, trivial⟩, entOk_of (b0 := loopOf 9 Tryd.f75) (li0 := [1, 4]) (lx0 := [2]) (by kernel_rfl) (by kernel_rfl) ⟨fun d K => L1.e N d.2.1.1 d.2.1.2.1 d.2.1.2.2.1 N d.1.2.1 K, trivial⟩, trivial⟩
def g {α : Type} (N : Nat) (a0 : BA × List (BA × Int × Int) × List (BA × List (Int × Int) × List (Int × Int) × List (Int × Int) × Int)) (kr : (Bool → Option α)) : Option α :=
 cond (!pf09_Valid.spec (a0.fst, a0.snd.fst, a0.snd.snd)) (kr (false)) (L0.f N (a0.fst) (a0.snd.fst) (a0.snd.snd) N (0) (fun x4 => kr (x4)) (L1.f N (a0.fst) (a0.snd.fst) (a0.snd.snd) N (0) (fun x9 => kr (x9)) (kr (true))))
theorem eq (N : Nat) (a0 : BA × List (BA × Int × Int) × List (BA × List (Int × Int) × List (Int × Int) × List (Int × Int) × Int)) : evF (C N) 50 Tryd.f75 an75 (smL (ents75 N) 0 50) [((.bool : K), false)] [⟨.st (.pr (.str) (.pr (.sl (.st (.pr (.str) (.pr (.int .i64) (.int .i64))))) (.sl (.st (.pr (.str) (.pr (.sl (.st (.pr (.int .i64) (.int .i64)))) (.pr (.sl (.st (.pr (.int .i64) (.int .i64)))) (.pr (.sl (.st (.pr (.int .i64) (.int .i64)))) (.int .i64))))))))), a0⟩] = g N a0 (fun r0 => some [.dat (K.bool) r0]) := by kernel_rfl
theorem ctxOk (N : Nat) : CtxOk P (C N) := ctxOk_of tysOk mixedOk ⟨pf09_Valid.ok, trivial⟩ trivial
theorem calls (N : Nat) (a0 : BA × List (BA × Int × Int) × List (BA × List (Int × Int) × List (Int × Int) × List (Int × Int) × Int)) {rs : List Rs} (h : g N a0 (fun r0 => some [.dat (K.bool) r0]) = some rs) : CallsTo P 75 [⟨.st (.pr (.str) (.pr (.sl (.st (.pr (.str) (.pr (.int .i64) (.int .i64))))) (.sl (.st (.pr (.str) (.pr (.sl (.st (.pr (.int .i64) (.int .i64)))) (.pr (.sl (.st (.pr (.int .i64) (.int .i64)))) (.pr (.sl (.st (.pr (.int .i64) (.int .i64)))) (.int .i64))))))))), a0⟩] rs := evF_calls' (ctxOk N) (by rfl) (ents75_ok N) ((eq N a0).trans h)
def L0.l {α : Type} (N : Nat) (x1 : BA) (x2 : (List (BA × Int × Int))) (x3 : (List (BA × List (Int × Int) × List (Int × Int) × List (Int × Int) × Int))) (k0 : (Bool → Option α)) (k1 : Option α) : List (BA × Int × Int) → Int → Option α
 | [], x0 => k1 
 | x :: l, x0 => (cond (x.snd.snd != 0) (k0 (false)) (L0.l N x1 x2 x3 k0 k1 l (x0 + 1)))
theorem L0.rng {α : Type} {N : Nat} (x1 : BA) (x2 : (List (BA × Int × Int))) (x3 : (List (BA × List (Int × Int) × List (Int × Int) × List (Int × Int) × Int))) (hl : x2.length ≤ maxLen) (k0 : (Bool → Option α)) (k1 : Option α) : ∀ (n j : Nat), x2.length < n + j → j ≤ x2.length → L0.f N x1 x2 x3 n (j : Int) k0 k1 = L0.l N x1 x2 x3 k0 k1 (x2.drop j) (j : Int)
 | 0, j, h, hj => absurd h (by omega)
 | n + 1, j, h, hj => by
  by_cases hlt : j < x2.length
  ·
   have e1 : decide ((j : Int) < (x2.length : Int)) = true := decide_eq_true (Int.ofNat_lt.2 hlt)
   have e2 : decide ((0 : Int) ≤ (j : Int)) = true := decide_eq_true (Int.natCast_nonneg j)
   have e3 : ∀ z, x2.getD (Int.toNat (j : Int)) z = x2[j] := fun z => by rw [Int.toNat_natCast]; exact (List.getElem_eq_getD z).symm
   have e3' : ∀ z, x2.getD (0 + Int.toNat (j : Int)) z = x2[j] := fun z => by rw [Nat.zero_add]; exact e3 z
   have e4 : IntKind.i64.wrap ((j : Int) + 1) = (j : Int) + 1 := wrap_next hlt hl
   have ih : ∀ (_ : Unit), L0.f N x1 x2 x3 n ((j : Int) + 1) k0 k1 = L0.l N x1 x2 x3 k0 k1 (x2.drop (j + 1)) ((j : Int) + 1) := fun _ => L0.rng x1 x2 x3 hl k0 k1 n (j + 1) (by omega) (by omega)
   rw [List.drop_eq_getElem_cons hlt]
   replace ih := ih ()
   first
    | (simp only [L0.f, L0.st, L0.l, e1, e2, e3, e3', e4, Bool.true_and, Bool.and_true, Bool.and_self, cond_true, ih]; done)
    | (simp only [L0.f, L0.st, L0.l, e1, e2, e3, e3', e4, Bool.true_and, Bool.and_true, Bool.and_self, cond_true, ih]; rfl)
  ·
   have e1 : decide ((j : Int) < (x2.length : Int)) = false := decide_eq_false (fun hc => hlt (Int.ofNat_lt.1 hc))
   rw [List.drop_eq_nil_of_le (by omega)]
   simp only [L0.f, L0.st, L0.l, e1, cond_false]
def L1.l {α : Type} (N : Nat) (x6 : BA) (x7 : (List (BA × Int × Int))) (x8 : (List (BA × List (Int × Int) × List (Int × Int) × List (Int × Int) × Int))) (k0 : (Bool → Option α)) (k1 : Option α) : List (BA × List (Int × Int) × List (Int × Int) × List (Int × Int) × Int) → Int → Option α
 | [], x5 => k1 
 | x :: l, x5 => (cond (decide (0 < (↑(List.length x.snd.snd.snd.fst) : Int))) (k0 (false)) ((cond (x.snd.snd.snd.snd != 0) (k0 (false)) (L1.l N x6 x7 x8 k0 k1 l (x5 + 1)))))
theorem L1.rng {α : Type} {N : Nat} (x6 : BA) (x7 : (List (BA × Int × Int))) (x8 : (List (BA × List (Int × Int) × List (Int × Int) × List (Int × Int) × Int))) (hl : x8.length ≤ maxLen) (k0 : (Bool → Option α)) (k1 : Option α) : ∀ (n j : Nat), x8.length < n + j → j ≤ x8.length → L1.f N x6 x7 x8 n (j : Int) k0 k1 = L1.l N x6 x7 x8 k0 k1 (x8.drop j) (j : Int)
 | 0, j, h, hj => absurd h (by omega)
 | n + 1, j, h, hj => by
  by_cases hlt : j < x8.length
  ·
   have e1 : decide ((j : Int) < (x8.length : Int)) = true := decide_eq_true (Int.ofNat_lt.2 hlt)
   have e2 : decide ((0 : Int) ≤ (j : Int)) = true := decide_eq_true (Int.natCast_nonneg j)
   have e3 : ∀ z, x8.getD (Int.toNat (j : Int)) z = x8[j] := fun z => by rw [Int.toNat_natCast]; exact (List.getElem_eq_getD z).symm
   have e3' : ∀ z, x8.getD (0 + Int.toNat (j : Int)) z = x8[j] := fun z => by rw [Nat.zero_add]; exact e3 z
   have e4 : IntKind.i64.wrap ((j : Int) + 1) = (j : Int) + 1 := wrap_next hlt hl
   have ih : ∀ (_ : Unit), L1.f N x6 x7 x8 n ((j : Int) + 1) k0 k1 = L1.l N x6 x7 x8 k0 k1 (x8.drop (j + 1)) ((j : Int) + 1) := fun _ => L1.rng x6 x7 x8 hl k0 k1 n (j + 1) (by omega) (by omega)
   rw [List.drop_eq_getElem_cons hlt]
   replace ih := ih ()
   first
    | (simp only [L1.f, L1.st, L1.l, e1, e2, e3, e3', e4, Bool.true_and, Bool.and_true, Bool.and_self, cond_true, ih]; done)
    | (simp only [L1.f, L1.st, L1.l, e1, e2, e3, e3', e4, Bool.true_and, Bool.and_true, Bool.and_self, cond_true, ih]; rfl)
  ·
   have e1 : decide ((j : Int) < (x8.length : Int)) = false := decide_eq_false (fun hc => hlt (Int.ofNat_lt.1 hc))
   rw [List.drop_eq_nil_of_le (by omega)]
   simp only [L1.f, L1.st, L1.l, e1, cond_false]
end pf09_Plain
theorem pf09_Plain.L1.law {α : Type} {N : Nat} (x6 : BA) (x7 : (List (BA × Int × Int))) (x8 : (List (BA × List (Int × Int) × List (Int × Int) × List (Int × Int) × Int))) (k0 : (Bool → Option α)) (k1 : Option α) : ∀ l j, pf09_Plain.L1.l N x6 x7 x8 k0 k1 l j = cond (l.all fun t => List.isEmpty t.2.2.2.1 && t.2.2.2.2 == 0) k1 (k0 false)
 | [], j => rfl
 | x :: l, j => by
  rw [pf09_Plain.L1.l, pf09_Plain.L1.law, List.all_cons]
  rcases x with ⟨a, b, c, d, e⟩
  cases d with
  | nil =>
   simp only [List.length_nil, List.isEmpty_nil, Bool.true_and, bne]
   cases (e == 0) <;> rfl
  | cons y d =>
   have : decide (0 < (((y :: d).length : Nat) : Int)) = true := decide_eq_true (by simp)
   rw [this]
   rfl
theorem pf09_Plain.L0.law {α : Type} {N : Nat} (x1 : BA) (x2 : (List (BA × Int × Int))) (x3 : (List (BA × List (Int × Int) × List (Int × Int) × List (Int × Int) × Int))) (k0 : (Bool → Option α)) (k1 : Option α) : ∀ l j, pf09_Plain.L0.l N x1 x2 x3 k0 k1 l j = cond (l.all fun p => p.2.2 == 0) k1 (k0 false)
 | [], j => rfl
 | x :: l, j => by
  rw [pf09_Plain.L0.l, pf09_Plain.L0.law, List.all_cons]
  simp only [bne]
  cases (x.2.2 == 0) <;> rfl
theorem pf09_Plain.law {α : Type} {N : Nat} (hN : 18446744073709551616 ≤ N) (a0 : BA × (List (BA × Int × Int)) × List (BA × (List (Int × Int)) × (List (Int × Int)) × (List (Int × Int)) × Int)) (w0 : K.wf (.st (.pr (.str) (.pr (.sl (.st (.pr (.str) (.pr (.int .i64) (.int .i64))))) (.sl (.st (.pr (.str) (.pr (.sl (.st (.pr (.int .i64) (.int .i64)))) (.pr (.sl (.st (.pr (.int .i64) (.int .i64)))) (.pr (.sl (.st (.pr (.int .i64) (.int .i64)))) (.int .i64)))))))))) a0) (kr : (Bool → Option α)) : pf09_Plain.g N a0 kr = kr (pf09_Plain.spec a0) := by
 unfold pf09_Plain.g pf09_Plain.spec plainN pf09_Valid.spec
 cases h : (checkN a0).1 == 0
 ·
  simp only [show (checkN (a0.1, a0.2.1, a0.2.2)) = checkN a0 from rfl, h, Bool.not_false, cond_true, Bool.and_false]
 simp only [show (checkN (a0.1, a0.2.1, a0.2.2)) = checkN a0 from rfl, h, Bool.not_true, cond_false, Bool.and_true]
 refine (pf09_Plain.L0.rng (N := N) _ _ _ (w0.2.1.1) _ _ N 0  (by have := le_fuel (w0.2.1.1) hN; omega) (Nat.zero_le _)).trans ?_
 rw [List.drop_zero, pf09_Plain.L0.law]
 cases (List.all a0.2.1 _)
 ·
  simp
 simp only [cond_true, Bool.and_true]
 refine (pf09_Plain.L1.rng (N := N) _ _ _ (w0.2.2.1) _ _ N 0  (by have := le_fuel (w0.2.2.1) hN; omega) (Nat.zero_le _)).trans ?_
 rw [List.drop_zero, pf09_Plain.L1.law]
 cases (List.all a0.2.2 _) <;> rfl
theorem pf09_Plain.ok : FentOk P 75 pf09_Plain.fent := fentOk_of (by kernel_rfl) fun ds hk => by
 obtain ⟨a0, l0, rfl, h0⟩ := ds_cons hk
 obtain rfl := ds0 h0
 exact ⟨true, [.dat (.bool) (pf09_Plain.spec a0)], fun h hw => pf09_Plain.calls 18446744073709551616 a0 (pf09_Plain.law (Nat.le_refl _) a0 hw.1 _), fun α k => rfl⟩
end Go.VI
namespace Go.VI
open Go Go.Proofs
namespace pf12_plain
def an51 : Ann := []
def ents51 {α : Type} (N : Nat) : List (SmE α) := []
def C (N : Nat) : Ctx := ⟨tys, [(56, pf09_Check.fent), (75, pf09_Plain.fent)], [], N⟩
theorem ents51_ok {α : Type} (N : Nat) : AllP (EntOk (C N) Tryd.f51 an51 (ents51 (α := α) N)) (ents51 N) := trivial
def g {α : Type} (N : Nat) (a0 : BA × List (BA × Int × Int) × List (BA × List (Int × Int) × List (Int × Int) × List (Int × Int) × Int)) (kr : (Int → Option α)) : Option α :=
 cond ((pf09_Check.spec (a0.fst, a0.snd.fst, a0.snd.snd)).fst != 0) (kr ((pf09_Check.spec (a0.fst, a0.snd.fst, a0.snd.snd)).fst)) (cond (!pf09_Plain.spec (a0.fst, a0.snd.fst, a0.snd.snd)) (kr (12)) (kr (0)))
theorem eq (N : Nat) (a0 : BA × List (BA × Int × Int) × List (BA × List (Int × Int) × List (Int × Int) × List (Int × Int) × Int)) : evF (C N) 50 Tryd.f51 an51 (smL (ents51 N) 0 50) [((.int .i64 : K), false)] [⟨.st (.pr (.str) (.pr (.sl (.st (.pr (.str) (.pr (.int .i64) (.int .i64))))) (.sl (.st (.pr (.str) (.pr (.sl (.st (.pr (.int .i64) (.int .i64)))) (.pr (.sl (.st (.pr (.int .i64) (.int .i64)))) (.pr (.sl (.st (.pr (.int .i64) (.int .i64)))) (.int .i64))))))))), a0⟩] = g N a0 (fun r0 => some [.dat (K.int IntKind.i64) r0]) := by kernel_rfl
theorem ctxOk (N : Nat) : CtxOk P (C N) := ctxOk_of tysOk mixedOk ⟨pf09_Check.ok, pf09_Plain.ok, trivial⟩ trivial
theorem calls (N : Nat) (a0 : BA × List (BA × Int × Int) × List (BA × List (Int × Int) × List (Int × Int) × List (Int × Int) × Int)) {rs : List Rs} (h : g N a0 (fun r0 => some [.dat (K.int IntKind.i64) r0]) = some rs) : CallsTo P 51 [⟨.st (.pr (.str) (.pr (.sl (.st (.pr (.str) (.pr (.int .i64) (.int .i64))))) (.sl (.st (.pr (.str) (.pr (.sl (.st (.pr (.int .i64) (.int .i64)))) (.pr (.sl (.st (.pr (.int .i64) (.int .i64)))) (.pr (.sl (.st (.pr (.int .i64) (.int .i64)))) (.int .i64))))))))), a0⟩] rs := evF_calls' (ctxOk N) (by rfl) (ents51_ok N) ((eq N a0).trans h)
end pf12_plain
theorem pf12_plain.law {α : Type} {N : Nat} (hN : 18446744073709551616 ≤ N) (a0 : BA × (List (BA × Int × Int)) × List (BA × (List (Int × Int)) × (List (Int × Int)) × (List (Int × Int)) × Int)) (w0 : K.wf (.st (.pr (.str) (.pr (.sl (.st (.pr (.str) (.pr (.int .i64) (.int .i64))))) (.sl (.st (.pr (.str) (.pr (.sl (.st (.pr (.int .i64) (.int .i64)))) (.pr (.sl (.st (.pr (.int .i64) (.int .i64)))) (.pr (.sl (.st (.pr (.int .i64) (.int .i64)))) (.int .i64)))))))))) a0) (kr : (Int → Option α)) : pf12_plain.g N a0 kr = kr (pf12_plain.spec a0) := by
 unfold pf12_plain.g pf12_plain.spec plainE
 simp only [pf09_Check.spec, pf09_Plain.spec, bne]
 rw [show (checkN (a0.1, a0.2.1, a0.2.2)) = checkN a0 from rfl, show (plainN (a0.1, a0.2.1, a0.2.2)) = plainN a0 from rfl]
 cases (checkN a0).1 == 0
 ·
  rfl
 ·
  cases plainN a0 <;> rfl
theorem pf12_plain.ok : FentOk P 51 pf12_plain.fent := fentOk_of (by kernel_rfl) fun ds hk => by
 obtain ⟨a0, l0, rfl, h0⟩ := ds_cons hk
 obtain rfl := ds0 h0
 exact ⟨true, [.dat (.int .i64) (pf12_plain.spec a0)], fun h hw => pf12_plain.calls 18446744073709551616 a0 (pf12_plain.law (Nat.le_refl _) a0 hw.1 _), fun α k => rfl⟩
end Go.VI
