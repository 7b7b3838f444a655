/- What the functions that TransformStarts calls compute: printed out of the interpreter's normal forms (wip/vi/vigen.py) and proved. -/
import Derived.Test.YtlfhhfjlflccgaaDoorVTransformStarts0
import Derived.Test.YtlfhhfjlflccgaaDoorProg
set_option linter.unusedVariables false
set_option linter.unusedSimpArgs false
set_option maxRecDepth 100000
set_option maxHeartbeats 4000000
noncomputable section
namespace Go.VI
open Go Go.Proofs
namespace tf_Dual
def an21 : Ann := [(8, [1, 2, 5, 30, 31, 32], [1, 2, 5]), (13, [1, 2, 5, 46, 47, 48], [2, 5]), (17, [1, 2, 5, 8, 10, 46, 47, 48, 57, 58, 59], [1, 2, 5, 10, 46, 47, 48])]
def L0.sh : Sh := { sl := [(1, SV.a (SA.fx (Atom.box 0 0))), (2, SV.a (SA.fx (Atom.box 1 0))), (5, SV.a (SA.fx (Atom.box 2 0))), (30, SV.a (SA.d (K.str.pr (((K.int IntKind.i64).pr (K.int IntKind.i64)).st.sl.pr (((K.int IntKind.i64).pr (K.int IntKind.i64)).st.sl.pr (((K.int IntKind.i64).pr (K.int IntKind.i64)).st.sl.pr (K.int IntKind.i64))))).st.sl)), (31, SV.a (SA.d (K.int IntKind.i64))), (32, SV.a (SA.d (K.int IntKind.i64)))], os := [(0, SO.box [SA.d K.str, SA.d (K.str.pr ((K.int IntKind.i64).pr (K.int IntKind.i64))).st.sl, SA.d (K.str.pr (((K.int IntKind.i64).pr (K.int IntKind.i64)).st.sl.pr (((K.int IntKind.i64).pr (K.int IntKind.i64)).st.sl.pr (((K.int IntKind.i64).pr (K.int IntKind.i64)).st.sl.pr (K.int IntKind.i64))))).st.sl]), (1, SO.box [SA.d K.str, SA.fx (Atom.sl 3 0 none), SA.fx (Atom.sl 4 0 none)]), (2, SO.box [SA.d K.str, SA.fx (Atom.sl 5 0 none), SA.fx (Atom.sl 6 0 none)]), (3, SO.row (K.str.pr ((K.int IntKind.i64).pr (K.int IntKind.i64))).st 0), (4, SO.row (K.str.pr (((K.int IntKind.i64).pr (K.int IntKind.i64)).st.sl.pr (((K.int IntKind.i64).pr (K.int IntKind.i64)).st.sl.pr (((K.int IntKind.i64).pr (K.int IntKind.i64)).st.sl.pr (K.int IntKind.i64))))).st 0), (5, SO.row (K.str.pr ((K.int IntKind.i64).pr (K.int IntKind.i64))).st 0), (6, SO.row (K.str.pr (((K.int IntKind.i64).pr (K.int IntKind.i64)).st.sl.pr (((K.int IntKind.i64).pr (K.int IntKind.i64)).st.sl.pr (((K.int IntKind.i64).pr (K.int IntKind.i64)).st.sl.pr (K.int IntKind.i64))))).st 0)], nx := 7 }
def L0.x0 : Sh := { sl := [(1, SV.a (SA.fx (Atom.box 0 0))), (2, SV.a (SA.fx (Atom.box 1 0))), (5, SV.a (SA.fx (Atom.box 2 0)))], os := [(0, SO.box [SA.d K.str, SA.d (K.str.pr ((K.int IntKind.i64).pr (K.int IntKind.i64))).st.sl, SA.d (K.str.pr (((K.int IntKind.i64).pr (K.int IntKind.i64)).st.sl.pr (((K.int IntKind.i64).pr (K.int IntKind.i64)).st.sl.pr (((K.int IntKind.i64).pr (K.int IntKind.i64)).st.sl.pr (K.int IntKind.i64))))).st.sl]), (1, SO.box [SA.d K.str, SA.fx (Atom.sl 3 0 none), SA.fx (Atom.sl 4 0 none)]), (2, SO.box [SA.d K.str, SA.fx (Atom.sl 5 0 none), SA.fx (Atom.sl 6 0 none)]), (3, SO.row (K.str.pr ((K.int IntKind.i64).pr (K.int IntKind.i64))).st 0), (4, SO.row (K.str.pr (((K.int IntKind.i64).pr (K.int IntKind.i64)).st.sl.pr (((K.int IntKind.i64).pr (K.int IntKind.i64)).st.sl.pr (((K.int IntKind.i64).pr (K.int IntKind.i64)).st.sl.pr (K.int IntKind.i64))))).st 0), (5, SO.row (K.str.pr ((K.int IntKind.i64).pr (K.int IntKind.i64))).st 0), (6, SO.row (K.str.pr (((K.int IntKind.i64).pr (K.int IntKind.i64)).st.sl.pr (((K.int IntKind.i64).pr (K.int IntKind.i64)).st.sl.pr (((K.int IntKind.i64).pr (K.int IntKind.i64)).st.sl.pr (K.int IntKind.i64))))).st 0)], nx := 7 }
def L0.st {α : Type} (N : Nat) (x0 : (List (BA × List (Int × Int) × List (Int × Int) × List (Int × Int) × Int))) (x1 : Int) (φ : (Int → (List (BA × Int × Int)) → Option α)) (x2 : Int) (x10 : (List (BA × Int × Int))) (k0 : ((List (BA × Int × Int)) → Option α)) : Option α :=
 cond (decide (x2 < x1)) (cond (decide (0 ≤ x2) && decide (x2 < (↑x0.length : Int))) (cond ((x10.length + 1).ble mxl) (φ (IntKind.i64.wrap (x2 + 1)) (x10 ++ [((x0.getD x2.toNat (eBA, [], [], [], 0)).fst, 0, 0)])) (none)) (none)) (k0 (x10))
def L0.f {α : Type} (N : Nat) (c0 : (List (BA × List (Int × Int) × List (Int × Int) × List (Int × Int) × Int))) (c1 : Int) : Nat → Int → (List (BA × Int × Int)) → ((List (BA × Int × Int)) → Option α) → Option α
 | 0, _, _, _ => none
 | n + 1, d0, d1, k0 => L0.st N c0 c1 (fun e0 e1 => L0.f N c0 c1 n e0 e1 k0) d0 d1 k0
def L0.up (d : L0.sh.T) (e0 : Int) (e1 : (List (BA × Int × Int))) : L0.sh.T := (((), ((), ((), (d.1.2.2.2.1, (d.1.2.2.2.2.1, (e0, ())))))), ((d.2.1.1, (d.2.1.2.1, (d.2.1.2.2.1, ()))), ((d.2.2.1.1, ((), ((), ()))), ((d.2.2.2.1.1, ((), ((), ()))), (d.2.2.2.2.1, (d.2.2.2.2.2.1, (e1, (d.2.2.2.2.2.2.2.1, ()))))))))
def L0.k0 {α : Type} (d : L0.sh.T) (K : Cont α) : ((List (BA × Int × Int)) → Option α) := fun y0 => K (Exit.exit 0) (L0.x0.enc (((), ((), ((), ()))), ((d.2.1.1, (d.2.1.2.1, (d.2.1.2.2.1, ()))), ((d.2.2.1.1, ((), ((), ()))), ((d.2.2.2.1.1, ((), ((), ()))), (d.2.2.2.2.1, (d.2.2.2.2.2.1, (y0, (d.2.2.2.2.2.2.2.1, ())))))))))
def L0.F {α : Type} (N : Nat) (d : L0.sh.T) (K : Cont α) : Option α := L0.f N d.1.2.2.2.1 d.1.2.2.2.2.1 N d.1.2.2.2.2.2.1 d.2.2.2.2.2.2.1 (L0.k0 d K)
def L1.sh : Sh := { sl := [(1, SV.a (SA.fx (Atom.box 0 0))), (2, SV.a (SA.fx (Atom.box 1 0))), (5, SV.a (SA.fx (Atom.box 2 0))), (8, SV.a (SA.d (K.int IntKind.i64))), (10, SV.a (SA.fx (Atom.box 3 0))), (46, SV.a (SA.d (K.str.pr ((K.int IntKind.i64).pr (K.int IntKind.i64))).st.sl)), (47, SV.a (SA.d (K.int IntKind.i64))), (48, SV.a (SA.d (K.int IntKind.i64))), (57, SV.a (SA.d (K.str.pr (((K.int IntKind.i64).pr (K.int IntKind.i64)).st.sl.pr (((K.int IntKind.i64).pr (K.int IntKind.i64)).st.sl.pr (((K.int IntKind.i64).pr (K.int IntKind.i64)).st.sl.pr (K.int IntKind.i64))))).st.sl)), (58, SV.a (SA.d (K.int IntKind.i64))), (59, SV.a (SA.d (K.int IntKind.i64)))], os := [(0, SO.box [SA.d K.str, SA.d (K.str.pr ((K.int IntKind.i64).pr (K.int IntKind.i64))).st.sl, SA.d (K.str.pr (((K.int IntKind.i64).pr (K.int IntKind.i64)).st.sl.pr (((K.int IntKind.i64).pr (K.int IntKind.i64)).st.sl.pr (((K.int IntKind.i64).pr (K.int IntKind.i64)).st.sl.pr (K.int IntKind.i64))))).st.sl]), (1, SO.box [SA.d K.str, SA.fx (Atom.sl 4 0 none), SA.fx (Atom.sl 5 0 none)]), (2, SO.box [SA.d K.str, SA.fx (Atom.sl 6 0 none), SA.fx (Atom.sl 7 0 none)]), (3, SO.box [SA.d K.str, SA.fx (Atom.sl 8 0 none), SA.fx (Atom.sl 9 0 none), SA.fx (Atom.sl 10 0 none), SA.d (K.int IntKind.i64)]), (4, SO.row (K.str.pr ((K.int IntKind.i64).pr (K.int IntKind.i64))).st 0), (5, SO.row (K.str.pr (((K.int IntKind.i64).pr (K.int IntKind.i64)).st.sl.pr (((K.int IntKind.i64).pr (K.int IntKind.i64)).st.sl.pr (((K.int IntKind.i64).pr (K.int IntKind.i64)).st.sl.pr (K.int IntKind.i64))))).st 0), (6, SO.row (K.str.pr ((K.int IntKind.i64).pr (K.int IntKind.i64))).st 0), (7, SO.row (K.str.pr (((K.int IntKind.i64).pr (K.int IntKind.i64)).st.sl.pr (((K.int IntKind.i64).pr (K.int IntKind.i64)).st.sl.pr (((K.int IntKind.i64).pr (K.int IntKind.i64)).st.sl.pr (K.int IntKind.i64))))).st 0), (8, SO.row ((K.int IntKind.i64).pr (K.int IntKind.i64)).st 0), (9, SO.row ((K.int IntKind.i64).pr (K.int IntKind.i64)).st 0), (10, SO.row ((K.int IntKind.i64).pr (K.int IntKind.i64)).st 0)], nx := 11 }
def L1.x0 : Sh := { sl := [(1, SV.a (SA.fx (Atom.box 0 0))), (2, SV.a (SA.fx (Atom.box 1 0))), (5, SV.a (SA.fx (Atom.box 2 0))), (10, SV.a (SA.fx (Atom.box 3 0))), (46, SV.a (SA.d (K.str.pr ((K.int IntKind.i64).pr (K.int IntKind.i64))).st.sl)), (47, SV.a (SA.d (K.int IntKind.i64))), (48, SV.a (SA.d (K.int IntKind.i64)))], os := [(0, SO.box [SA.d K.str, SA.d (K.str.pr ((K.int IntKind.i64).pr (K.int IntKind.i64))).st.sl, SA.d (K.str.pr (((K.int IntKind.i64).pr (K.int IntKind.i64)).st.sl.pr (((K.int IntKind.i64).pr (K.int IntKind.i64)).st.sl.pr (((K.int IntKind.i64).pr (K.int IntKind.i64)).st.sl.pr (K.int IntKind.i64))))).st.sl]), (1, SO.box [SA.d K.str, SA.fx (Atom.sl 4 0 none), SA.fx (Atom.sl 5 0 none)]), (2, SO.box [SA.d K.str, SA.fx (Atom.sl 6 0 none), SA.fx (Atom.sl 7 0 none)]), (3, SO.box [SA.d K.str, SA.fx (Atom.sl 8 0 none), SA.fx (Atom.sl 9 0 none), SA.fx (Atom.sl 10 0 none), SA.d (K.int IntKind.i64)]), (4, SO.row (K.str.pr ((K.int IntKind.i64).pr (K.int IntKind.i64))).st 0), (5, SO.row (K.str.pr (((K.int IntKind.i64).pr (K.int IntKind.i64)).st.sl.pr (((K.int IntKind.i64).pr (K.int IntKind.i64)).st.sl.pr (((K.int IntKind.i64).pr (K.int IntKind.i64)).st.sl.pr (K.int IntKind.i64))))).st 0), (6, SO.row (K.str.pr ((K.int IntKind.i64).pr (K.int IntKind.i64))).st 0), (7, SO.row (K.str.pr (((K.int IntKind.i64).pr (K.int IntKind.i64)).st.sl.pr (((K.int IntKind.i64).pr (K.int IntKind.i64)).st.sl.pr (((K.int IntKind.i64).pr (K.int IntKind.i64)).st.sl.pr (K.int IntKind.i64))))).st 0), (8, SO.row ((K.int IntKind.i64).pr (K.int IntKind.i64)).st 0), (9, SO.row ((K.int IntKind.i64).pr (K.int IntKind.i64)).st 0), (10, SO.row ((K.int IntKind.i64).pr (K.int IntKind.i64)).st 0)], nx := 11 }
def L1.st {α : Type} (N : Nat) (x25 : Int) (x29 : (List (BA × List (Int × Int) × List (Int × Int) × List (Int × Int) × Int))) (x30 : Int) (φ : (Int → (List (Int × Int)) → (List (Int × Int)) → Option α)) (x31 : Int) (x43 : (List (Int × Int))) (x44 : (List (Int × Int))) (k0 : ((List (Int × Int)) → (List (Int × Int)) → Option α)) : Option α :=
 cond (decide (x31 < x30)) (cond (decide (0 ≤ x31) && decide (x31 < (↑x29.length : Int))) (lt (tf_weight.spec (x29.getD x31.toNat (eBA, [], [], [], 0)).snd.snd.fst x25) fun v1 => cond (decide (0 < v1)) (cond ((x43.length + 1).ble mxl) (lt (tf_weight.spec (x29.getD x31.toNat (eBA, [], [], [], 0)).snd.fst x25) fun v2 => cond (decide (0 < v2)) (cond ((x44.length + 1).ble mxl) (φ (IntKind.i64.wrap (x31 + 1)) (x43 ++ [(x31, v1)]) (x44 ++ [(x31, v2)])) (none)) (φ (IntKind.i64.wrap (x31 + 1)) (x43 ++ [(x31, v1)]) (x44))) (none)) (lt (tf_weight.spec (x29.getD x31.toNat (eBA, [], [], [], 0)).snd.fst x25) fun v3 => cond (decide (0 < v3)) (cond ((x44.length + 1).ble mxl) (φ (IntKind.i64.wrap (x31 + 1)) (x43) (x44 ++ [(x31, v3)])) (none)) (φ (IntKind.i64.wrap (x31 + 1)) (x43) (x44)))) (none)) (k0 (x43) (x44))
def L1.f {α : Type} (N : Nat) (c0 : Int) (c4 : (List (BA × List (Int × Int) × List (Int × Int) × List (Int × Int) × Int))) (c5 : Int) : Nat → Int → (List (Int × Int)) → (List (Int × Int)) → ((List (Int × Int)) → (List (Int × Int)) → Option α) → Option α
 | 0, _, _, _, _ => none
 | n + 1, d0, d1, d2, k0 => L1.st N c0 c4 c5 (fun e0 e1 e2 => L1.f N c0 c4 c5 n e0 e1 e2 k0) d0 d1 d2 k0
def L1.up (d : L1.sh.T) (e0 : Int) (e1 : (List (Int × Int))) (e2 : (List (Int × Int))) : L1.sh.T := (((), ((), ((), (d.1.2.2.2.1, ((), (d.1.2.2.2.2.2.1, (d.1.2.2.2.2.2.2.1, (d.1.2.2.2.2.2.2.2.1, (d.1.2.2.2.2.2.2.2.2.1, (d.1.2.2.2.2.2.2.2.2.2.1, (e0, ()))))))))))), ((d.2.1.1, (d.2.1.2.1, (d.2.1.2.2.1, ()))), ((d.2.2.1.1, ((), ((), ()))), ((d.2.2.2.1.1, ((), ((), ()))), ((d.2.2.2.2.1.1, ((), ((), ((), (d.2.2.2.2.1.2.2.2.2.1, ()))))), (d.2.2.2.2.2.1, (d.2.2.2.2.2.2.1, (d.2.2.2.2.2.2.2.1, (d.2.2.2.2.2.2.2.2.1, (e1, (e2, (d.2.2.2.2.2.2.2.2.2.2.2.1, ()))))))))))))
def L1.k0 {α : Type} (d : L1.sh.T) (K : Cont α) : ((List (Int × Int)) → (List (Int × Int)) → Option α) := fun y0 y1 => K (Exit.exit 4) (L1.x0.enc (((), ((), ((), ((), (d.1.2.2.2.2.2.1, (d.1.2.2.2.2.2.2.1, (d.1.2.2.2.2.2.2.2.1, ()))))))), ((d.2.1.1, (d.2.1.2.1, (d.2.1.2.2.1, ()))), ((d.2.2.1.1, ((), ((), ()))), ((d.2.2.2.1.1, ((), ((), ()))), ((d.2.2.2.2.1.1, ((), ((), ((), (d.2.2.2.2.1.2.2.2.2.1, ()))))), (d.2.2.2.2.2.1, (d.2.2.2.2.2.2.1, (d.2.2.2.2.2.2.2.1, (d.2.2.2.2.2.2.2.2.1, (y0, (y1, (d.2.2.2.2.2.2.2.2.2.2.2.1, ())))))))))))))
def L1.F {α : Type} (N : Nat) (d : L1.sh.T) (K : Cont α) : Option α := L1.f N d.1.2.2.2.1 d.1.2.2.2.2.2.2.2.2.1 d.1.2.2.2.2.2.2.2.2.2.1 N d.1.2.2.2.2.2.2.2.2.2.2.1 d.2.2.2.2.2.2.2.2.2.1 d.2.2.2.2.2.2.2.2.2.2.1 (L1.k0 d K)
def L2.sh : Sh := { sl := [(1, SV.a (SA.fx (Atom.box 0 0))), (2, SV.a (SA.fx (Atom.box 1 0))), (5, SV.a (SA.fx (Atom.box 2 0))), (46, SV.a (SA.d (K.str.pr ((K.int IntKind.i64).pr (K.int IntKind.i64))).st.sl)), (47, SV.a (SA.d (K.int IntKind.i64))), (48, SV.a (SA.d (K.int IntKind.i64)))], os := [(0, SO.box [SA.d K.str, SA.d (K.str.pr ((K.int IntKind.i64).pr (K.int IntKind.i64))).st.sl, SA.d (K.str.pr (((K.int IntKind.i64).pr (K.int IntKind.i64)).st.sl.pr (((K.int IntKind.i64).pr (K.int IntKind.i64)).st.sl.pr (((K.int IntKind.i64).pr (K.int IntKind.i64)).st.sl.pr (K.int IntKind.i64))))).st.sl]), (1, SO.box [SA.d K.str, SA.fx (Atom.sl 3 0 none), SA.fx (Atom.sl 4 0 none)]), (2, SO.box [SA.d K.str, SA.fx (Atom.sl 5 0 none), SA.fx (Atom.sl 6 0 none)]), (3, SO.row (K.str.pr ((K.int IntKind.i64).pr (K.int IntKind.i64))).st 0), (4, SO.row (K.str.pr (((K.int IntKind.i64).pr (K.int IntKind.i64)).st.sl.pr (((K.int IntKind.i64).pr (K.int IntKind.i64)).st.sl.pr (((K.int IntKind.i64).pr (K.int IntKind.i64)).st.sl.pr (K.int IntKind.i64))))).st 0), (5, SO.row (K.str.pr ((K.int IntKind.i64).pr (K.int IntKind.i64))).st 0), (6, SO.row (K.str.pr (((K.int IntKind.i64).pr (K.int IntKind.i64)).st.sl.pr (((K.int IntKind.i64).pr (K.int IntKind.i64)).st.sl.pr (((K.int IntKind.i64).pr (K.int IntKind.i64)).st.sl.pr (K.int IntKind.i64))))).st 0)], nx := 7 }
def L2.x0 : Sh := { sl := [(2, SV.a (SA.fx (Atom.box 0 0))), (5, SV.a (SA.fx (Atom.box 1 0)))], os := [(0, SO.box [SA.d K.str, SA.fx (Atom.sl 2 0 none), SA.fx (Atom.sl 3 0 none)]), (1, SO.box [SA.d K.str, SA.fx (Atom.sl 4 0 none), SA.fx (Atom.sl 5 0 none)]), (2, SO.row (K.str.pr ((K.int IntKind.i64).pr (K.int IntKind.i64))).st 0), (3, SO.row (K.str.pr (((K.int IntKind.i64).pr (K.int IntKind.i64)).st.sl.pr (((K.int IntKind.i64).pr (K.int IntKind.i64)).st.sl.pr (((K.int IntKind.i64).pr (K.int IntKind.i64)).st.sl.pr (K.int IntKind.i64))))).st 0), (4, SO.row (K.str.pr ((K.int IntKind.i64).pr (K.int IntKind.i64))).st 0), (5, SO.row (K.str.pr (((K.int IntKind.i64).pr (K.int IntKind.i64)).st.sl.pr (((K.int IntKind.i64).pr (K.int IntKind.i64)).st.sl.pr (((K.int IntKind.i64).pr (K.int IntKind.i64)).st.sl.pr (K.int IntKind.i64))))).st 0)], nx := 6 }
def L2.st {α : Type} (N : Nat) (x13 : (List (BA × Int × Int))) (x14 : Int) (x18 : (List (BA × List (Int × Int) × List (Int × Int) × List (Int × Int) × Int))) (φ : (Int → (List (BA × List (Int × Int) × List (Int × Int) × List (Int × Int) × Int)) → Option α)) (x15 : Int) (x24 : (List (BA × List (Int × Int) × List (Int × Int) × List (Int × Int) × Int))) (k0 : ((List (BA × List (Int × Int) × List (Int × Int) × List (Int × Int) × Int)) → Option α)) : Option α :=
 cond (decide (x15 < x14)) (cond (decide (0 ≤ x15) && decide (x15 < (↑x13.length : Int))) (L1.f N (x15) (x18) ((↑x18.length : Int)) N (0) ([]) ([]) (fun x46 x47 => cond ((x24.length + 1).ble mxl) (φ (IntKind.i64.wrap (x15 + 1)) (x24 ++ [((x13.getD x15.toNat (eBA, 0, 0)).fst, x46, x47, [], 0)])) (none))) (none)) (k0 (x24))
def L2.f {α : Type} (N : Nat) (c0 : (List (BA × Int × Int))) (c1 : Int) (c4 : (List (BA × List (Int × Int) × List (Int × Int) × List (Int × Int) × Int))) : Nat → Int → (List (BA × List (Int × Int) × List (Int × Int) × List (Int × Int) × Int)) → ((List (BA × List (Int × Int) × List (Int × Int) × List (Int × Int) × Int)) → Option α) → Option α
 | 0, _, _, _ => none
 | n + 1, d0, d1, k0 => L2.st N c0 c1 c4 (fun e0 e1 => L2.f N c0 c1 c4 n e0 e1 k0) d0 d1 k0
def L2.up (d : L2.sh.T) (e0 : Int) (e1 : (List (BA × List (Int × Int) × List (Int × Int) × List (Int × Int) × Int))) : L2.sh.T := (((), ((), ((), (d.1.2.2.2.1, (d.1.2.2.2.2.1, (e0, ())))))), ((d.2.1.1, (d.2.1.2.1, (d.2.1.2.2.1, ()))), ((d.2.2.1.1, ((), ((), ()))), ((d.2.2.2.1.1, ((), ((), ()))), (d.2.2.2.2.1, (d.2.2.2.2.2.1, (d.2.2.2.2.2.2.1, (e1, ()))))))))
def L2.k0 {α : Type} (d : L2.sh.T) (K : Cont α) : ((List (BA × List (Int × Int) × List (Int × Int) × List (Int × Int) × Int)) → Option α) := fun y0 => K (Exit.exit 2) (L2.x0.enc (((), ((), ())), ((d.2.2.1.1, ((), ((), ()))), ((d.2.2.2.1.1, ((), ((), ()))), (d.2.2.2.2.1, (d.2.2.2.2.2.1, (d.2.2.2.2.2.2.1, (y0, ()))))))))
def L2.F {α : Type} (N : Nat) (d : L2.sh.T) (K : Cont α) : Option α := L2.f N d.1.2.2.2.1 d.1.2.2.2.2.1 d.2.1.2.2.1 N d.1.2.2.2.2.2.1 d.2.2.2.2.2.2.2.1 (L2.k0 d K)
def ents21 {α : Type} (N : Nat) : List (SmE α) := [⟨0, 50, 8, [⟨L0.sh, L0.F N⟩]⟩, ⟨0, 50, 17, [⟨L1.sh, L1.F N⟩]⟩, ⟨0, 50, 13, [⟨L2.sh, L2.F N⟩]⟩]
def C (N : Nat) : Ctx := ⟨tys, [(38, tf_weight.fent), (48, tf_checkPlain.fent)], [], N⟩
def L0.B {α : Type} (N : Nat) : Env → Cont α → Option α := evC tys 101 0 (evCall (C N) 50) (evCallQ (C N)) N an21 (smL (ents21 N) 0 50) (loopOf 8 Tryd.f21)
theorem L0.r {α : Type} (N : Nat) (φ : Env → Option α) (K : Cont α) (d : L0.sh.T) : L0.B N (L0.sh.enc d) (contL φ K (Env.norm 0 [1, 2, 5, 30, 31, 32]) (Env.norm 0 [1, 2, 5])) = L0.st N d.1.2.2.2.1 d.1.2.2.2.2.1 (fun e0 e1 => φ (L0.sh.enc (L0.up d e0 e1))) d.1.2.2.2.2.2.1 d.2.2.2.2.2.2.1 (L0.k0 d K) := by kernel_rfl
theorem L0.e {α : Type} (N : Nat) : ∀ (n : Nat) (d : L0.sh.T) (K : Cont α), evL (L0.B N) (Env.norm 0 [1, 2, 5, 30, 31, 32]) (Env.norm 0 [1, 2, 5]) n (L0.sh.enc d) K = L0.f N d.1.2.2.2.1 d.1.2.2.2.2.1 n d.1.2.2.2.2.2.1 d.2.2.2.2.2.2.1 (L0.k0 d K)
 | 0, d, K => rfl
 | n + 1, d, K => evL_contL.trans ((L0.r N _ K d).trans (congrArg (fun φ => L0.st N d.1.2.2.2.1 d.1.2.2.2.2.1 φ d.1.2.2.2.2.2.1 d.2.2.2.2.2.2.1 (L0.k0 d K)) (funext fun e0 => funext fun e1 => L0.e N n (L0.up d e0 e1) K)))
def L1.B {α : Type} (N : Nat) : Env → Cont α → Option α := evC tys 101 0 (evCall (C N) 50) (evCallQ (C N)) N an21 (smL (ents21 N) 0 50) (loopOf 17 Tryd.f21)
theorem L1.r {α : Type} (N : Nat) (φ : Env → Option α) (K : Cont α) (d : L1.sh.T) : L1.B N (L1.sh.enc d) (contL φ K (Env.norm 0 [1, 2, 5, 8, 10, 46, 47, 48, 57, 58, 59]) (Env.norm 0 [1, 2, 5, 10, 46, 47, 48])) = L1.st N d.1.2.2.2.1 d.1.2.2.2.2.2.2.2.2.1 d.1.2.2.2.2.2.2.2.2.2.1 (fun e0 e1 e2 => φ (L1.sh.enc (L1.up d e0 e1 e2))) d.1.2.2.2.2.2.2.2.2.2.2.1 d.2.2.2.2.2.2.2.2.2.1 d.2.2.2.2.2.2.2.2.2.2.1 (L1.k0 d K) := by kernel_rfl
theorem L1.e {α : Type} (N : Nat) : ∀ (n : Nat) (d : L1.sh.T) (K : Cont α), evL (L1.B N) (Env.norm 0 [1, 2, 5, 8, 10, 46, 47, 48, 57, 58, 59]) (Env.norm 0 [1, 2, 5, 10, 46, 47, 48]) n (L1.sh.enc d) K = L1.f N d.1.2.2.2.1 d.1.2.2.2.2.2.2.2.2.1 d.1.2.2.2.2.2.2.2.2.2.1 n d.1.2.2.2.2.2.2.2.2.2.2.1 d.2.2.2.2.2.2.2.2.2.1 d.2.2.2.2.2.2.2.2.2.2.1 (L1.k0 d K)
 | 0, d, K => rfl
 | n + 1, d, K => evL_contL.trans ((L1.r N _ K d).trans (congrArg (fun φ => L1.st N d.1.2.2.2.1 d.1.2.2.2.2.2.2.2.2.1 d.1.2.2.2.2.2.2.2.2.2.1 φ d.1.2.2.2.2.2.2.2.2.2.2.1 d.2.2.2.2.2.2.2.2.2.1 d.2.2.2.2.2.2.2.2.2.2.1 (L1.k0 d K)) (funext fun e0 => funext fun e1 => funext fun e2 => L1.e N n (L1.up d e0 e1 e2) K)))
def L2.B {α : Type} (N : Nat) : Env → Cont α → Option α := evC tys 101 0 (evCall (C N) 50) (evCallQ (C N)) N an21 (smL (ents21 N) 0 50) (loopOf 13 Tryd.f21)
theorem L2.r {α : Type} (N : Nat) (φ : Env → Option α) (K : Cont α) (d : L2.sh.T) : L2.B N (L2.sh.enc d) (contL φ K (Env.norm 0 [1, 2, 5, 46, 47, 48]) (Env.norm 0 [2, 5])) = L2.st N d.1.2.2.2.1 d.1.2.2.2.2.1 d.2.1.2.2.1 (fun e0 e1 => φ (L2.sh.enc (L2.up d e0 e1))) d.1.2.2.2.2.2.1 d.2.2.2.2.2.2.2.1 (L2.k0 d K) := by kernel_rfl
theorem L2.e {α : Type} (N : Nat) : ∀ (n : Nat) (d : L2.sh.T) (K : Cont α), evL (L2.B N) (Env.norm 0 [1, 2, 5, 46, 47, 48]) (Env.norm 0 [2, 5]) n (L2.sh.enc d) K = L2.f N d.1.2.2.2.1 d.1.2.2.2.2.1 d.2.1.2.2.1 n d.1.2.2.2.2.2.1 d.2.2.2.2.2.2.2.1 (L2.k0 d K)
 | 0, d, K => rfl
 | n + 1, d, K => evL_contL.trans ((L2.r N _ K d).trans (congrArg (fun φ => L2.st N d.1.2.2.2.1 d.1.2.2.2.2.1 d.2.1.2.2.1 φ d.1.2.2.2.2.2.1 d.2.2.2.2.2.2.2.1 (L2.k0 d K)) (funext fun e0 => funext fun e1 => L2.e N n (L2.up d e0 e1) K)))
theorem ents21_ok {α : Type} (N : Nat) : AllP (EntOk (C N) Tryd.f21 an21 (ents21 (α := α) N)) (ents21 N) := ⟨entOk_of (b0 := loopOf 8 Tryd.f21) (li0 := [1, 2, 5, 30, 31, 32]) (lx0 := [1, 2, 5]) (by kernel_rfl) (by kernel_rfl) ⟨fun d K => L0.e N N d K, trivial⟩, entOk_of (b0 := loopOf 17 Tryd.f21) (li0 := [1, 2, 5, 8, 10, 46, 47, 48, 57, 58, 59]) (lx0 := [1, 2, 5, 10, 46, 47, 48]) (by kernel_rfl) (by kernel_rfl) ⟨fun d K => L1.e N N d K, trivial⟩, entOk_of (b0 := loopOf 13 Tryd.f21) (li0 := [1, 2, 5, 46, 47, 48]) (lx0 := [2, 5]) (by kernel_rfl) (by kernel_rfl) ⟨fun d K => L2.e N N d K, trivial⟩, trivial⟩
def g {α : Type} (N : Nat) (a0 : BA × List (BA × Int × Int) × List (BA × List (Int × Int) × List (Int × Int) × List (Int × Int) × Int)) (kr : ((BA × List (BA × Int × Int) × List (BA × List (Int × Int) × List (Int × Int) × List (Int × Int) × Int)) → Int → Option α)) : Option α :=
 cond ((tf_checkPlain.spec a0) != 0) (kr (((ByteArray.mk (#[])), [], [])) ((tf_checkPlain.spec a0))) (cond ((↑(List.length a0.snd.snd) : Int) == 0) (kr (((ByteArray.mk (#[])), [], [])) (2)) (L0.f N (a0.snd.snd) ((↑(List.length a0.snd.snd) : Int)) N (0) ([]) (fun x12 => L2.f N (a0.snd.fst) ((↑(List.length a0.snd.fst) : Int)) (a0.snd.snd) N (0) ([]) (fun x48 => kr ((a0.fst, x12, x48)) (0)))))
theorem eq (N : Nat) (a0 : BA × List (BA × Int × Int) × List (BA × List (Int × Int) × List (Int × Int) × List (Int × Int) × Int)) : evF (C N) 50 Tryd.f21 an21 (smL (ents21 N) 0 50) [((.st (.pr (.str) (.pr (.sl (.st (.pr (.str) (.pr (.int .i64) (.int .i64))))) (.sl (.st (.pr (.str) (.pr (.sl (.st (.pr (.int .i64) (.int .i64)))) (.pr (.sl (.st (.pr (.int .i64) (.int .i64)))) (.pr (.sl (.st (.pr (.int .i64) (.int .i64)))) (.int .i64))))))))) : K), false), ((.int .i64 : K), false)] [⟨.st (.pr (.str) (.pr (.sl (.st (.pr (.str) (.pr (.int .i64) (.int .i64))))) (.sl (.st (.pr (.str) (.pr (.sl (.st (.pr (.int .i64) (.int .i64)))) (.pr (.sl (.st (.pr (.int .i64) (.int .i64)))) (.pr (.sl (.st (.pr (.int .i64) (.int .i64)))) (.int .i64))))))))), a0⟩] = g N a0 (fun r0 r1 => some [.dat ((K.str.pr ((K.str.pr ((K.int IntKind.i64).pr (K.int IntKind.i64))).st.sl.pr (K.str.pr (((K.int IntKind.i64).pr (K.int IntKind.i64)).st.sl.pr (((K.int IntKind.i64).pr (K.int IntKind.i64)).st.sl.pr (((K.int IntKind.i64).pr (K.int IntKind.i64)).st.sl.pr (K.int IntKind.i64))))).st.sl)).st) r0, .dat (K.int IntKind.i64) r1]) := by kernel_rfl
theorem ctxOk (N : Nat) : CtxOk P (C N) := ctxOk_of tysOk mixedOk ⟨tf_weight.ok, tf_checkPlain.ok, trivial⟩ trivial
theorem calls (N : Nat) (a0 : BA × List (BA × Int × Int) × List (BA × List (Int × Int) × List (Int × Int) × List (Int × Int) × Int)) {rs : List Rs} (h : g N a0 (fun r0 r1 => some [.dat ((K.str.pr ((K.str.pr ((K.int IntKind.i64).pr (K.int IntKind.i64))).st.sl.pr (K.str.pr (((K.int IntKind.i64).pr (K.int IntKind.i64)).st.sl.pr (((K.int IntKind.i64).pr (K.int IntKind.i64)).st.sl.pr (((K.int IntKind.i64).pr (K.int IntKind.i64)).st.sl.pr (K.int IntKind.i64))))).st.sl)).st) r0, .dat (K.int IntKind.i64) r1]) = some rs) : CallsTo P 21 [⟨.st (.pr (.str) (.pr (.sl (.st (.pr (.str) (.pr (.int .i64) (.int .i64))))) (.sl (.st (.pr (.str) (.pr (.sl (.st (.pr (.int .i64) (.int .i64)))) (.pr (.sl (.st (.pr (.int .i64) (.int .i64)))) (.pr (.sl (.st (.pr (.int .i64) (.int .i64)))) (.int .i64))))))))), a0⟩] rs := evF_calls' (ctxOk N) (by rfl) (ents21_ok N) ((eq N a0).trans h)
def L0.l {α : Type} (N : Nat) (x0 : (List (BA × List (Int × Int) × List (Int × Int) × List (Int × Int) × Int))) (k0 : ((List (BA × Int × Int)) → Option α)) : List (BA × List (Int × Int) × List (Int × Int) × List (Int × Int) × Int) → Int → (List (BA × Int × Int)) → Option α
 | [], x2, x10 => k0 (x10)
 | x :: l, x2, x10 => (cond ((x10.length + 1).ble mxl) (L0.l N x0 k0 l (x2 + 1) (x10 ++ [(x.fst, 0, 0)])) (none))
theorem L0.rng {α : Type} {N : Nat} (x0 : (List (BA × List (Int × Int) × List (Int × Int) × List (Int × Int) × Int))) (hl : x0.length ≤ maxLen) (k0 : ((List (BA × Int × Int)) → Option α)) : ∀ (n j : Nat) (x10 : (List (BA × Int × Int))), x0.length < n + j → j ≤ x0.length → L0.f N x0 (x0.length : Int) n (j : Int) x10 k0 = L0.l N x0 k0 (x0.drop j) (j : Int) x10 :=
 rng1 x0 hl (fun n i x10 => L0.f N x0 (x0.length : Int) n i x10 k0) (fun l i x10 => L0.l N x0 k0 l i x10) (fun n j hj h ih x10 => by simp only [L0.f, L0.st, L0.l, h.a, h.b, h.c, h.d, h.e, Bool.true_and, Bool.and_true, Bool.and_self, cond_true, ih] <;> rfl) (fun n j h x10 => by simp only [L0.f, L0.st, L0.l, h, cond_false])
def L1.l {α : Type} (N : Nat) (x25 : Int) (x29 : (List (BA × List (Int × Int) × List (Int × Int) × List (Int × Int) × Int))) (k0 : ((List (Int × Int)) → (List (Int × Int)) → Option α)) : List (BA × List (Int × Int) × List (Int × Int) × List (Int × Int) × Int) → Int → (List (Int × Int)) → (List (Int × Int)) → Option α
 | [], x31, x43, x44 => k0 (x43) (x44)
 | x :: l, x31, x43, x44 => (lt (tf_weight.spec x.snd.snd.fst x25) fun v1 => cond (decide (0 < v1)) (cond ((x43.length + 1).ble mxl) (lt (tf_weight.spec x.snd.fst x25) fun v2 => cond (decide (0 < v2)) (cond ((x44.length + 1).ble mxl) (L1.l N x25 x29 k0 l (x31 + 1) (x43 ++ [(x31, v1)]) (x44 ++ [(x31, v2)])) (none)) (L1.l N x25 x29 k0 l (x31 + 1) (x43 ++ [(x31, v1)]) (x44))) (none)) (lt (tf_weight.spec x.snd.fst x25) fun v3 => cond (decide (0 < v3)) (cond ((x44.length + 1).ble mxl) (L1.l N x25 x29 k0 l (x31 + 1) (x43) (x44 ++ [(x31, v3)])) (none)) (L1.l N x25 x29 k0 l (x31 + 1) (x43) (x44))))
theorem L1.rng {α : Type} {N : Nat} (x25 : Int) (x29 : (List (BA × List (Int × Int) × List (Int × Int) × List (Int × Int) × Int))) (hl : x29.length ≤ maxLen) (k0 : ((List (Int × Int)) → (List (Int × Int)) → Option α)) : ∀ (n j : Nat) (x43 : (List (Int × Int))) (x44 : (List (Int × Int))), x29.length < n + j → j ≤ x29.length → L1.f N x25 x29 (x29.length : Int) n (j : Int) x43 x44 k0 = L1.l N x25 x29 k0 (x29.drop j) (j : Int) x43 x44 :=
 rng2 x29 hl (fun n i x43 x44 => L1.f N x25 x29 (x29.length : Int) n i x43 x44 k0) (fun l i x43 x44 => L1.l N x25 x29 k0 l i x43 x44) (fun n j hj h ih x43 x44 => by simp only [L1.f, L1.st, L1.l, h.a, h.b, h.c, h.d, h.e, Bool.true_and, Bool.and_true, Bool.and_self, cond_true, ih] <;> rfl) (fun n j h x43 x44 => by simp only [L1.f, L1.st, L1.l, h, cond_false])
def L2.l {α : Type} (N : Nat) (x13 : (List (BA × Int × Int))) (x18 : (List (BA × List (Int × Int) × List (Int × Int) × List (Int × Int) × Int))) (k0 : ((List (BA × List (Int × Int) × List (Int × Int) × List (Int × Int) × Int)) → Option α)) : List (BA × Int × Int) → Int → (List (BA × List (Int × Int) × List (Int × Int) × List (Int × Int) × Int)) → Option α
 | [], x15, x24 => k0 (x24)
 | x :: l, x15, x24 => (L1.f N (x15) (x18) ((↑x18.length : Int)) N (0) ([]) ([]) (fun x46 x47 => cond ((x24.length + 1).ble mxl) (L2.l N x13 x18 k0 l (x15 + 1) (x24 ++ [(x.fst, x46, x47, [], 0)])) (none)))
theorem L2.rng {α : Type} {N : Nat} (x13 : (List (BA × Int × Int))) (x18 : (List (BA × List (Int × Int) × List (Int × Int) × List (Int × Int) × Int))) (hl : x13.length ≤ maxLen) (k0 : ((List (BA × List (Int × Int) × List (Int × Int) × List (Int × Int) × Int)) → Option α)) : ∀ (n j : Nat) (x24 : (List (BA × List (Int × Int) × List (Int × Int) × List (Int × Int) × Int))), x13.length < n + j → j ≤ x13.length → L2.f N x13 (x13.length : Int) x18 n (j : Int) x24 k0 = L2.l N x13 x18 k0 (x13.drop j) (j : Int) x24 :=
 rng1 x13 hl (fun n i x24 => L2.f N x13 (x13.length : Int) x18 n i x24 k0) (fun l i x24 => L2.l N x13 x18 k0 l i x24) (fun n j hj h ih x24 => by simp only [L2.f, L2.st, L2.l, h.a, h.b, h.c, h.d, h.e, Bool.true_and, Bool.and_true, Bool.and_self, cond_true, ih] <;> rfl) (fun n j h x24 => by simp only [L2.f, L2.st, L2.l, h, cond_false])
end tf_Dual
theorem tf_Dual.L0.law {α : Type} {N : Nat} (x0 : (List (BA × List (Int × Int) × List (Int × Int) × List (Int × Int) × Int))) (k0 : ((List (BA × Int × Int)) → Option α)) : ∀ (l : List TransT) (j : Int) (acc : List PlaceT), acc.length + l.length ≤ 1000 → tf_Dual.L0.l N x0 k0 l j acc = k0 (acc ++ l.map fun t => (t.1, 0, 0))
 | [], j, acc, _ => by rw [tf_Dual.L0.l, List.map_nil, List.append_nil]
 | x :: l, j, acc, h0 => by
  simp only [List.length_cons] at h0
  rw [tf_Dual.L0.l, ble1 _ (by omega), cond_true, tf_Dual.L0.law _ _ l _ _ (by simp; omega), List.append_assoc]
  rfl
theorem tf_Dual.L1.law {α : Type} {N : Nat} (x25 : Int) (x29 : (List (BA × List (Int × Int) × List (Int × Int) × List (Int × Int) × Int))) (k0 : ((List (Int × Int)) → (List (Int × Int)) → Option α)) : ∀ (l : List TransT) (j : Int) (a b : List (Int × Int)), a.length + l.length ≤ 1000 → b.length + l.length ≤ 1000 → tf_Dual.L1.l N x25 x29 k0 l j a b = k0 (a ++ arcsTo (fun t => t.2.2.1) x25 j l) (b ++ arcsTo (fun t => t.2.1) x25 j l)
 | [], j, a, b, _, _ => by rw [tf_Dual.L1.l, arcsTo, arcsTo, List.append_nil, List.append_nil]
 | x :: l, j, a, b, ha, hb => by
  simp only [List.length_cons] at ha hb
  rw [tf_Dual.L1.l, arcsTo, arcsTo]
  simp only [lt, show ∀ l, tf_weight.spec l x25 = weightS l x25 from fun _ => rfl]
  cases decide (0 < weightS x.2.2.1 x25)
  ·
   cases decide (0 < weightS x.2.1 x25)
   ·
    simp only [cond_false]
    rw [tf_Dual.L1.law _ _ _ l _ _ _ (by omega) (by omega)]
   ·
    simp only [cond_false, cond_true]
    rw [ble1 _ (by omega), cond_true, tf_Dual.L1.law _ _ _ l _ _ _ (by omega) (by simp; omega)]
    simp only [List.append_assoc, List.singleton_append]
  ·
   cases decide (0 < weightS x.2.1 x25)
   ·
    simp only [cond_false, cond_true]
    rw [ble1 _ (by omega), cond_true, tf_Dual.L1.law _ _ _ l _ _ _ (by simp; omega) (by omega)]
    simp only [List.append_assoc, List.singleton_append]
   ·
    simp only [cond_true]
    rw [ble1 _ (by omega), ble1 _ (by omega), cond_true, cond_true, tf_Dual.L1.law _ _ _ l _ _ _ (by simp; omega) (by simp; omega)]
    simp only [List.append_assoc, List.singleton_append]
theorem tf_Dual.L2.law {α : Type} {N : Nat} (hN : 18446744073709551616 ≤ N) (x13 : (List (BA × Int × Int))) (x18 : (List (BA × List (Int × Int) × List (Int × Int) × List (Int × Int) × Int))) (k0 : ((List (BA × List (Int × Int) × List (Int × Int) × List (Int × Int) × Int)) → Option α)) (ht : x18.length ≤ 500) : ∀ (l : List PlaceT) (j : Int) (acc : List TransT), acc.length + l.length ≤ 1000 → tf_Dual.L2.l N x13 x18 k0 l j acc = k0 (acc ++ dualT x18 j l)
 | [], j, acc, _ => by rw [tf_Dual.L2.l, dualT, List.append_nil]
 | x :: l, j, acc, h0 => by
  simp only [List.length_cons] at h0
  rw [tf_Dual.L2.l, dualT]
  have hw : x18.length ≤ maxLen := by unfold maxLen; omega
  refine (tf_Dual.L1.rng (N := N) _ _ (hw) _ N 0 _ _ (by have := le_fuel (hw) hN; omega) (Nat.zero_le _)).trans ?_
  refine (tf_Dual.L1.law _ _ _ _ _ _ _ (by simp; omega) (by simp; omega)).trans ?_
  simp only [List.drop_zero, List.nil_append]
  rw [ble1 _ (by omega), cond_true, tf_Dual.L2.law hN _ _ _ ht l _ _ (by simp; omega), List.append_assoc]
  rfl
theorem tf_Dual.law {α : Type} {N : Nat} (hN : 18446744073709551616 ≤ N) (a0 : BA × (List (BA × Int × Int)) × List (BA × (List (Int × Int)) × (List (Int × Int)) × (List (Int × Int)) × Int)) (w0 : K.wf (.st (.pr (.str) (.pr (.sl (.st (.pr (.str) (.pr (.int .i64) (.int .i64))))) (.sl (.st (.pr (.str) (.pr (.sl (.st (.pr (.int .i64) (.int .i64)))) (.pr (.sl (.st (.pr (.int .i64) (.int .i64)))) (.pr (.sl (.st (.pr (.int .i64) (.int .i64)))) (.int .i64)))))))))) a0) (kr : ((BA × (List (BA × Int × Int)) × List (BA × (List (Int × Int)) × (List (Int × Int)) × (List (Int × Int)) × Int)) → Int → Option α)) : tf_Dual.g N a0 kr = kr (tf_Dual.spec a0).1 (tf_Dual.spec a0).2 := by
 unfold tf_Dual.g tf_Dual.spec dualE
 simp only [tf_checkPlain.spec, bne]
 unfold plainE
 cases hc : (checkN a0).1 == 0
 ·
  simp only [cond_false]
  rw [hc]
  rfl
 simp only [cond_true]
 cases hq : plainN a0
 ·
  rfl
 have hv := plainN_valid hq
 have hnp := hv.np
 have hnt := hv.nt
 simp only [cond_true]
 rw [show (!((0 : Int) == 0)) = false from rfl, cond_false]
 have ee : (((List.length a0.2.2 : Nat) : Int) == 0) = List.isEmpty a0.2.2 := by
  cases a0.2.2 with
  | nil => rfl
  | cons x l => simp; omega
 rw [ee]
 cases List.isEmpty a0.2.2
 ·
  simp only [cond_false]
  refine (tf_Dual.L0.rng (N := N) _ (w0.2.2.1) _ N 0 _ (by have := le_fuel (w0.2.2.1) hN; omega) (Nat.zero_le _)).trans ?_
  refine (tf_Dual.L0.law _ _ _ _ _ (by simp; omega)).trans ?_
  simp only [List.drop_zero, List.nil_append]
  refine (tf_Dual.L2.rng (N := N) _ _ (w0.2.1.1) _ N 0 _ (by have := le_fuel (w0.2.1.1) hN; omega) (Nat.zero_le _)).trans ?_
  refine (tf_Dual.L2.law hN _ _ _ (by omega) _ _ _ (by simp; omega)).trans ?_
  rfl
 ·
  rfl
theorem tf_Dual.ok : FentOk P 21 tf_Dual.fent := fentOk_of (by kernel_rfl) fun ds hk => by
 obtain ⟨a0, l0, rfl, h0⟩ := ds_cons hk
 obtain rfl := ds0 h0
 exact ⟨true, [.dat (.st (.pr (.str) (.pr (.sl (.st (.pr (.str) (.pr (.int .i64) (.int .i64))))) (.sl (.st (.pr (.str) (.pr (.sl (.st (.pr (.int .i64) (.int .i64)))) (.pr (.sl (.st (.pr (.int .i64) (.int .i64)))) (.pr (.sl (.st (.pr (.int .i64) (.int .i64)))) (.int .i64)))))))))) (tf_Dual.spec a0).1, .dat (.int .i64) (tf_Dual.spec a0).2], fun h hw => tf_Dual.calls 18446744073709551616 a0 (tf_Dual.law (Nat.le_refl _) a0 hw.1 _), fun α k => rfl⟩
end Go.VI
namespace Go.VI
open Go Go.Proofs
theorem pow2_pos (k : Nat) : (0 : Int) < 2 ^ k := Int.pow_pos (by decide)
theorem hasB_at (s : Int) {i : Int} (h0 : 0 ≤ i) (h1 : i < 64) : hasB s i = (s / 2 ^ i.toNat % 2 == 1) := by
 unfold hasB
 rw [decide_eq_true h0, decide_eq_true h1]
 simp only [Bool.true_and]
 by_cases h : s / 2 ^ i.toNat % 2 = 1
 ·
  simp [h]
 ·
  simp [h]
theorem hasB_neg (s : Int) {i : Int} (h : ¬ 0 ≤ i) : hasB s i = false := by
 unfold hasB
 rw [decide_eq_false h]
 rfl
theorem hasB_big (s : Int) {i : Int} (h : ¬ i < 64) : hasB s i = false := by
 unfold hasB
 rw [decide_eq_false h]
 simp
theorem div_pow_rg {s : Int} (hs : 0 ≤ s ∧ s ≤ 18446744073709551615) (k : Nat) : 0 ≤ s / 2 ^ k ∧ s / 2 ^ k ≤ 18446744073709551615 := by
 have hp := pow2_pos k
 refine ⟨Int.ediv_nonneg hs.1 (by omega), ?_⟩
 exact Int.le_trans (Int.ediv_le_self _ hs.1) hs.2
theorem and_one {x : Int} (hx : 0 ≤ x ∧ x ≤ 18446744073709551615) : (((BitVec.ofInt 64 x &&& BitVec.ofInt 64 1).toNat : Nat) : Int) = x % 2 := by
  rw [BitVec.toNat_and, BitVec.toNat_ofInt, BitVec.toNat_ofInt]
  have e1 : (x % ((2 ^ 64 : Nat) : Int)).toNat = x.toNat := by
    rw [Int.emod_eq_of_lt hx.1 (by have : ((2 ^ 64 : Nat) : Int) = 18446744073709551616 := by decide
                                   omega)]
  have e2 : ((1 : Int) % ((2 ^ 64 : Nat) : Int)).toNat = 1 := by decide
  rw [e1, e2, Nat.and_one_is_mod]
  omega
end Go.VI
namespace Go.VI
open Go Go.Proofs
namespace bitset_Has
def an54 : Ann := []
def ents54 {α : Type} (N : Nat) : List (SmE α) := []
def C (N : Nat) : Ctx := ⟨tys, [], [], N⟩
theorem ents54_ok {α : Type} (N : Nat) : AllP (EntOk (C N) Tryd.f54 an54 (ents54 (α := α) N)) (ents54 N) := trivial
def g {α : Type} (N : Nat) (a0 : Int) (a1 : Int) (kr : (Bool → Option α)) : Option α :=
 cond (decide (0 ≤ a1)) (cond (decide (a1 < 64)) (cond (decide (0 ≤ IntKind.u64.wrap a1)) (kr (IntKind.u64.wrap (↑(BitVec.ofInt IntKind.u64.bits (a0.fdiv (2 ^ min (IntKind.u64.wrap a1).toNat IntKind.u64.bits)) &&& BitVec.ofInt IntKind.u64.bits 1).toNat : Int) == 1)) (none)) (kr (false))) (kr (false))
theorem eq (N : Nat) (a0 : Int) (a1 : Int) : evF (C N) 50 Tryd.f54 an54 (smL (ents54 N) 0 50) [((.bool : K), false)] [⟨.int .u64, a0⟩, ⟨.int .i64, a1⟩] = g N a0 a1 (fun r0 => some [.dat (K.bool) r0]) := by kernel_rfl
theorem ctxOk (N : Nat) : CtxOk P (C N) := ctxOk_of tysOk mixedOk trivial trivial
theorem calls (N : Nat) (a0 : Int) (a1 : Int) {rs : List Rs} (h : g N a0 a1 (fun r0 => some [.dat (K.bool) r0]) = some rs) : CallsTo P 54 [⟨.int .u64, a0⟩, ⟨.int .i64, a1⟩] rs := evF_calls' (ctxOk N) (by rfl) (ents54_ok N) ((eq N a0 a1).trans h)
end bitset_Has
theorem bitset_Has.law {α : Type} {N : Nat} (hN : 18446744073709551616 ≤ N) (a0 : Int) (a1 : Int) (w0 : K.wf (.int .u64) a0) (w1 : K.wf (.int .i64) a1) (kr : (Bool → Option α)) : bitset_Has.g N a0 a1 kr = kr (bitset_Has.spec a0 a1) := by
 have hw := inI_u64.1 w0
 unfold bitset_Has.g bitset_Has.spec
 by_cases h0 : 0 ≤ a1
 ·
  by_cases h1 : a1 < 64
  ·
   rw [decide_eq_true h0, decide_eq_true h1, cond_true, cond_true, wrap_u64 (by omega : 0 ≤ a1 ∧ a1 ≤ 18446744073709551615), decide_eq_true h0, cond_true]
   have e1 : min a1.toNat IntKind.u64.bits = a1.toNat := by
    have : IntKind.u64.bits = 64 := rfl
    rw [this]; omega
   have e2 : a0.fdiv (2 ^ a1.toNat) = a0 / 2 ^ a1.toNat := Int.fdiv_eq_ediv_of_nonneg _ (Int.le_of_lt (pow2_pos _))
   rw [e1, e2, show IntKind.u64.bits = 64 from rfl, and_one (div_pow_rg hw _), hasB_at _ h0 h1, wrap_u64 (by omega)]
  ·
   rw [decide_eq_true h0, decide_eq_false h1, hasB_big _ h1]
   rfl
 ·
  rw [decide_eq_false h0, hasB_neg _ h0]
  rfl
theorem bitset_Has.ok : FentOk P 54 bitset_Has.fent := fentOk_of (by kernel_rfl) fun ds hk => by
 obtain ⟨a0, l0, rfl, h0⟩ := ds_cons hk
 obtain ⟨a1, l1, rfl, h1⟩ := ds_cons h0
 obtain rfl := ds0 h1
 exact ⟨true, [.dat (.bool) (bitset_Has.spec a0 a1)], fun h hw => bitset_Has.calls 18446744073709551616 a0 a1 (bitset_Has.law (Nat.le_refl _) a0 a1 hw.1 hw.2.1 _), fun α k => rfl⟩
end Go.VI
namespace Go.VI
open Go Go.Proofs
namespace tf_Subnet_1
def an55 : Ann := [(3, [1, 4, 7, 8, 9], [4])]
def L0.sh : Sh := { sl := [(1, SV.a (SA.rf (K.int IntKind.i64).sl 0)), (4, SV.a (SA.fx (Atom.sl 0 0 none))), (7, SV.a (SA.d ((K.int IntKind.i64).pr (K.int IntKind.i64)).st.sl)), (8, SV.a (SA.d (K.int IntKind.i64))), (9, SV.a (SA.d (K.int IntKind.i64)))], os := [(0, SO.row ((K.int IntKind.i64).pr (K.int IntKind.i64)).st 0)], nx := 1 }
def L0.x0 : Sh := { sl := [(4, SV.a (SA.fx (Atom.sl 0 0 none)))], os := [(0, SO.row ((K.int IntKind.i64).pr (K.int IntKind.i64)).st 0)], nx := 1 }
def L0.st {α : Type} (N : Nat) (x0 : (List Int)) (x1 : (List (Int × Int))) (x2 : Int) (φ : (Int → (List (Int × Int)) → Option α)) (x3 : Int) (x4 : (List (Int × Int))) (k0 : ((List (Int × Int)) → Option α)) : Option α :=
 cond (decide (x3 < x2)) (cond (decide (0 ≤ x3) && decide (x3 < (↑x1.length : Int))) (cond (decide (0 ≤ (x1.getD x3.toNat ((0 : Int), (0 : Int))).fst) && decide ((x1.getD x3.toNat ((0 : Int), (0 : Int))).fst < (↑x0.length : Int))) (cond (decide (0 ≤ x0.getD (Int.toNat (x1.getD x3.toNat ((0 : Int), (0 : Int))).fst) 0)) (cond (decide (0 ≤ (x1.getD x3.toNat ((0 : Int), (0 : Int))).fst) && decide ((x1.getD x3.toNat ((0 : Int), (0 : Int))).fst < (↑x0.length : Int))) (cond ((x4.length + 1).ble mxl) (φ (IntKind.i64.wrap (x3 + 1)) (x4 ++ [(x0.getD (Int.toNat (x1.getD x3.toNat ((0 : Int), (0 : Int))).fst) 0, (x1.getD x3.toNat ((0 : Int), (0 : Int))).snd)])) (none)) (none)) (φ (IntKind.i64.wrap (x3 + 1)) (x4))) (none)) (none)) (k0 (x4))
def L0.f {α : Type} (N : Nat) (c0 : (List Int)) (c1 : (List (Int × Int))) (c2 : Int) : Nat → Int → (List (Int × Int)) → ((List (Int × Int)) → Option α) → Option α
 | 0, _, _, _ => none
 | n + 1, d0, d1, k0 => L0.st N c0 c1 c2 (fun e0 e1 => L0.f N c0 c1 c2 n e0 e1 k0) d0 d1 k0
def L0.up (d : L0.sh.T) (e0 : Int) (e1 : (List (Int × Int))) : L0.sh.T := ((d.1.1, ((), (d.1.2.2.1, (d.1.2.2.2.1, (e0, ()))))), (e1, ()))
def L0.k0 {α : Type} (d : L0.sh.T) (K : Cont α) : ((List (Int × Int)) → Option α) := fun y0 => K (Exit.exit 0) (L0.x0.enc (((), ()), (y0, ())))
def L0.F {α : Type} (N : Nat) (d : L0.sh.T) (K : Cont α) : Option α := L0.f N d.1.1 d.1.2.2.1 d.1.2.2.2.1 N d.1.2.2.2.2.1 d.2.1 (L0.k0 d K)
def ents55 {α : Type} (N : Nat) : List (SmE α) := [⟨0, 50, 3, [⟨L0.sh, L0.F N⟩]⟩]
def C (N : Nat) : Ctx := ⟨tys, [], [], N⟩
def L0.B {α : Type} (N : Nat) : Env → Cont α → Option α := evC tys 32 0 (evCall (C N) 50) (evCallQ (C N)) N an55 (smL (ents55 N) 0 50) (loopOf 3 Tryd.f55)
theorem L0.r {α : Type} (N : Nat) (φ : Env → Option α) (K : Cont α) (d : L0.sh.T) : L0.B N (L0.sh.enc d) (contL φ K (Env.norm 0 [1, 4, 7, 8, 9]) (Env.norm 0 [4])) = L0.st N d.1.1 d.1.2.2.1 d.1.2.2.2.1 (fun e0 e1 => φ (L0.sh.enc (L0.up d e0 e1))) d.1.2.2.2.2.1 d.2.1 (L0.k0 d K) := by kernel_rfl
theorem L0.e {α : Type} (N : Nat) : ∀ (n : Nat) (d : L0.sh.T) (K : Cont α), evL (L0.B N) (Env.norm 0 [1, 4, 7, 8, 9]) (Env.norm 0 [4]) n (L0.sh.enc d) K = L0.f N d.1.1 d.1.2.2.1 d.1.2.2.2.1 n d.1.2.2.2.2.1 d.2.1 (L0.k0 d K)
 | 0, d, K => rfl
 | n + 1, d, K => evL_contL.trans ((L0.r N _ K d).trans (congrArg (fun φ => L0.st N d.1.1 d.1.2.2.1 d.1.2.2.2.1 φ d.1.2.2.2.2.1 d.2.1 (L0.k0 d K)) (funext fun e0 => funext fun e1 => L0.e N n (L0.up d e0 e1) K)))
theorem ents55_ok {α : Type} (N : Nat) : AllP (EntOk (C N) Tryd.f55 an55 (ents55 (α := α) N)) (ents55 N) := ⟨entOk_of (b0 := loopOf 3 Tryd.f55) (li0 := [1, 4, 7, 8, 9]) (lx0 := [4]) (by kernel_rfl) (by kernel_rfl) ⟨fun d K => L0.e N N d K, trivial⟩, trivial⟩
def g {α : Type} (N : Nat) (a0 : List (Int × Int)) (a1 : List Int) (kr : ((List (Int × Int)) → Option α)) : Option α :=
 L0.f N (a1) (a0) ((↑a0.length : Int)) N (0) ([]) (fun x5 => kr (x5))
theorem eq (N : Nat) (a0 : List (Int × Int)) (a1 : List Int) : evF (C N) 50 Tryd.f55 an55 (smL (ents55 N) 0 50) [(((.st (.pr (.int .i64) (.int .i64))) : K), true)] [⟨.sl (.st (.pr (.int .i64) (.int .i64))), a0⟩, ⟨.ref (.sl (.int .i64)), a1⟩] = g N a0 a1 (fun r0 => some [.own (((K.int IntKind.i64).pr (K.int IntKind.i64)).st) r0]) := by kernel_rfl
theorem ctxOk (N : Nat) : CtxOk P (C N) := ctxOk_of tysOk mixedOk trivial trivial
theorem calls (N : Nat) (a0 : List (Int × Int)) (a1 : List Int) {rs : List Rs} (h : g N a0 a1 (fun r0 => some [.own (((K.int IntKind.i64).pr (K.int IntKind.i64)).st) r0]) = some rs) : CallsTo P 55 [⟨.sl (.st (.pr (.int .i64) (.int .i64))), a0⟩, ⟨.ref (.sl (.int .i64)), a1⟩] rs := evF_calls' (ctxOk N) (by rfl) (ents55_ok N) ((eq N a0 a1).trans h)
def L0.l {α : Type} (N : Nat) (x0 : (List Int)) (x1 : (List (Int × Int))) (k0 : ((List (Int × Int)) → Option α)) : List (Int × Int) → Int → (List (Int × Int)) → Option α
 | [], x3, x4 => k0 (x4)
 | x :: l, x3, x4 => (cond (decide (0 ≤ x.fst) && decide (x.fst < (↑x0.length : Int))) (cond (decide (0 ≤ x0.getD (Int.toNat x.fst) 0)) (cond (decide (0 ≤ x.fst) && decide (x.fst < (↑x0.length : Int))) (cond ((x4.length + 1).ble mxl) (L0.l N x0 x1 k0 l (x3 + 1) (x4 ++ [(x0.getD (Int.toNat x.fst) 0, x.snd)])) (none)) (none)) (L0.l N x0 x1 k0 l (x3 + 1) (x4))) (none))
theorem L0.rng {α : Type} {N : Nat} (x0 : (List Int)) (x1 : (List (Int × Int))) (hl : x1.length ≤ maxLen) (k0 : ((List (Int × Int)) → Option α)) : ∀ (n j : Nat) (x4 : (List (Int × Int))), x1.length < n + j → j ≤ x1.length → L0.f N x0 x1 (x1.length : Int) n (j : Int) x4 k0 = L0.l N x0 x1 k0 (x1.drop j) (j : Int) x4 :=
 rng1 x1 hl (fun n i x4 => L0.f N x0 x1 (x1.length : Int) n i x4 k0) (fun l i x4 => L0.l N x0 x1 k0 l i x4) (fun n j hj h ih x4 => by simp only [L0.f, L0.st, L0.l, h.a, h.b, h.c, h.d, h.e, Bool.true_and, Bool.and_true, Bool.and_self, cond_true, ih] <;> rfl) (fun n j h x4 => by simp only [L0.f, L0.st, L0.l, h, cond_false])
end tf_Subnet_1
theorem tf_Subnet_1.L0.law {α : Type} {N : Nat} (x0 : (List Int)) (x1 : (List (Int × Int))) (k0 : ((List (Int × Int)) → Option α)) : ∀ l j (acc : List (Int × Int)), acc.length + l.length ≤ 1073741824 → (l.all fun a => decide (0 ≤ a.1) && decide (a.1 < (x0.length : Int))) = true → tf_Subnet_1.L0.l N x0 x1 k0 l j acc = k0 (acc ++ tf_Subnet_1.spec l x0)
 | [], j, acc, h, _ => by rw [tf_Subnet_1.L0.l]; simp [tf_Subnet_1.spec]
 | x :: l, j, acc, h, ha => by
  simp only [List.length_cons] at h
  simp only [List.all_cons, Bool.and_eq_true] at ha
  rw [tf_Subnet_1.L0.l, show (decide (0 ≤ x.1) && decide (x.1 < (x0.length : Int))) = true by simp only [Bool.and_eq_true]; exact ha.1]
  simp only [cond_true]
  cases hb : decide (0 ≤ x0.getD (Int.toNat x.1) 0)
  ·
   rw [cond_false, tf_Subnet_1.L0.law _ _ _ l _ _ (by omega) ha.2]
   simp only [tf_Subnet_1.spec, List.filterMap_cons, hb, cond_false]
  ·
   rw [cond_true, show ((acc.length + 1).ble mxl) = true from Nat.ble_eq_true_of_le (by unfold mxl; simp; omega), cond_true, tf_Subnet_1.L0.law _ _ _ l _ _ (by simp; omega) ha.2]
   simp only [tf_Subnet_1.spec, List.filterMap_cons, hb, cond_true, List.append_assoc, List.singleton_append]
theorem tf_Subnet_1.law {α : Type} {N : Nat} (hN : 18446744073709551616 ≤ N) (a0 : List (Int × Int)) (a1 : List Int) (w0 : K.wf (.sl (.st (.pr (.int .i64) (.int .i64)))) a0) (w1 : K.wf (.ref (.sl (.int .i64))) a1) (hp : tf_Subnet_1.pre a0 a1 = true) (kr : ((List (Int × Int)) → Option α)) : tf_Subnet_1.g N a0 a1 kr = kr (tf_Subnet_1.spec a0 a1) := by
 simp only [tf_Subnet_1.pre, Bool.and_eq_true] at hp
 have hp' : a0.length ≤ 1073741824 := of_decide_eq_true hp.1
 unfold tf_Subnet_1.g
 refine (tf_Subnet_1.L0.rng (N := N) _ _ (w0.1) _ N 0 _ (by have := le_fuel (w0.1) hN; omega) (Nat.zero_le _)).trans ?_
 rw [List.drop_zero, tf_Subnet_1.L0.law _ _ _ _ _ _ (by simpa using hp') hp.2]
 rfl
theorem tf_Subnet_1.ok : FentOk P 55 tf_Subnet_1.fent := fentOk_of (by kernel_rfl) fun ds hk => by
 obtain ⟨a0, l0, rfl, h0⟩ := ds_cons hk
 obtain ⟨a1, l1, rfl, h1⟩ := ds_cons h0
 obtain rfl := ds0 h1
 exact ⟨tf_Subnet_1.pre a0 a1, [.own (.st (.pr (.int .i64) (.int .i64))) (tf_Subnet_1.spec a0 a1)], fun h hw => tf_Subnet_1.calls 18446744073709551616 a0 a1 (tf_Subnet_1.law (Nat.le_refl _) a0 a1 hw.1 hw.2.1 h _), fun α k => rfl⟩
end Go.VI
namespace Go.VI
open Go Go.Proofs
theorem rankN_le (s : Int) : ∀ k, rankN s k ≤ k
 | 0 => Nat.le_refl _
 | k + 1 => by
  have := rankN_le s k
  rw [rankN]
  cases hasB s (k : Int) <;> simp <;> omega
def ixB (s : Int) : Nat → Nat → List Int
 | _, 0 => []
 | j, n + 1 => (cond (hasB s (j : Int)) (rankN s j : Int) (-1)) :: ixB s (j + 1) n
theorem ixB_len (s : Int) : ∀ j n, (ixB s j n).length = n
 | j, 0 => rfl
 | j, n + 1 => by simp [ixB, ixB_len s (j + 1) n]
theorem ixB_get (s : Int) : ∀ (n j i : Nat), i < n → (ixB s j n).getD i 0 = cond (hasB s ((j + i : Nat) : Int)) (rankN s (j + i) : Int) (-1)
 | 0, j, i, h => by omega
 | n + 1, j, 0, h => by simp [ixB]
 | n + 1, j, i + 1, h => by
  have := ixB_get s n (j + 1) i (by omega)
  rw [ixB, List.getD_cons_succ, this, show j + 1 + i = j + (i + 1) by omega]
theorem filtB_mem {α : Type} {s : Int} : ∀ {l : List α} {i : Int} {a : α}, a ∈ filtB s i l → a ∈ l
 | [], _, _, h => h
 | x :: l, i, a, h => by
  rw [filtB] at h
  cases hb : hasB s i
  ·
   rw [hb] at h
   exact List.mem_cons_of_mem _ (filtB_mem h)
  ·
   rw [hb] at h
   rcases List.mem_cons.1 h with rfl | h
   ·
    simp
   ·
    exact List.mem_cons_of_mem _ (filtB_mem h)
theorem fm_congr {α β : Type} {f g : α → Option β} : ∀ {l : List α}, (∀ a ∈ l, f a = g a) → l.filterMap f = l.filterMap g
 | [], _ => rfl
 | x :: l, h => by
  rw [List.filterMap_cons, List.filterMap_cons, h x (by simp), fm_congr (l := l) fun a ha => h a (by simp [ha])]
theorem sub_kept {s : Int} {np : Nat} {l : List (Int × Int)} (h : ArcsOk (np : Int) l) : tf_Subnet_1.spec l (ixB s 0 np) = keptL s l := by
 unfold tf_Subnet_1.spec keptL
 refine fm_congr fun a ha => ?_
 have hr := (h.rg a ha).1
 rw [ixB_get s np 0 a.1.toNat (by omega), Nat.zero_add]
 rw [show ((a.1.toNat : Nat) : Int) = a.1 by omega]
 cases hasB s a.1
 ·
  rfl
 ·
  simp only [cond_true]
  rw [decide_eq_true (by omega : (0 : Int) ≤ ((rankN s a.1.toNat : Nat) : Int))]
  rfl
end Go.VI
namespace Go.VI
open Go Go.Proofs
namespace tf_Subnet
def an23 : Ann := [(7, [1, 2, 3, 6, 9, 10, 32, 33, 34], [2, 3, 6, 9, 10]), (18, [2, 6, 9, 13, 65, 66, 67], [6, 9])]
def L0.sh : Sh := { sl := [(1, SV.a (SA.d (K.int IntKind.u64))), (2, SV.a (SA.d (K.int IntKind.u64))), (3, SV.a (SA.fx (Atom.box 0 0))), (6, SV.a (SA.fx (Atom.box 1 0))), (9, SV.a (SA.fx (Atom.box 2 0))), (10, SV.a (SA.fx (Atom.box 3 0))), (32, SV.a (SA.d (K.str.pr ((K.int IntKind.i64).pr (K.int IntKind.i64))).st.sl)), (33, SV.a (SA.d (K.int IntKind.i64))), (34, SV.a (SA.d (K.int IntKind.i64)))], os := [(0, SO.box [SA.d K.str, SA.d (K.str.pr ((K.int IntKind.i64).pr (K.int IntKind.i64))).st.sl, SA.d (K.str.pr (((K.int IntKind.i64).pr (K.int IntKind.i64)).st.sl.pr (((K.int IntKind.i64).pr (K.int IntKind.i64)).st.sl.pr (((K.int IntKind.i64).pr (K.int IntKind.i64)).st.sl.pr (K.int IntKind.i64))))).st.sl]), (1, SO.box [SA.d K.str, SA.fx (Atom.sl 4 0 none), SA.fx (Atom.sl 5 0 none)]), (2, SO.box [SA.d K.str, SA.fx (Atom.sl 6 0 none), SA.fx (Atom.sl 7 0 none)]), (3, SO.box [SA.fx (Atom.sl 8 0 none)]), (4, SO.row (K.str.pr ((K.int IntKind.i64).pr (K.int IntKind.i64))).st 0), (5, SO.row (K.str.pr (((K.int IntKind.i64).pr (K.int IntKind.i64)).st.sl.pr (((K.int IntKind.i64).pr (K.int IntKind.i64)).st.sl.pr (((K.int IntKind.i64).pr (K.int IntKind.i64)).st.sl.pr (K.int IntKind.i64))))).st 0), (6, SO.row (K.str.pr ((K.int IntKind.i64).pr (K.int IntKind.i64))).st 0), (7, SO.row (K.str.pr (((K.int IntKind.i64).pr (K.int IntKind.i64)).st.sl.pr (((K.int IntKind.i64).pr (K.int IntKind.i64)).st.sl.pr (((K.int IntKind.i64).pr (K.int IntKind.i64)).st.sl.pr (K.int IntKind.i64))))).st 0), (8, SO.row (K.int IntKind.i64) 0)], nx := 9 }
def L0.x0 : Sh := { sl := [(2, SV.a (SA.d (K.int IntKind.u64))), (3, SV.a (SA.fx (Atom.box 0 0))), (6, SV.a (SA.fx (Atom.box 1 0))), (9, SV.a (SA.fx (Atom.box 2 0))), (10, SV.a (SA.fx (Atom.box 3 0)))], os := [(0, SO.box [SA.d K.str, SA.d (K.str.pr ((K.int IntKind.i64).pr (K.int IntKind.i64))).st.sl, SA.d (K.str.pr (((K.int IntKind.i64).pr (K.int IntKind.i64)).st.sl.pr (((K.int IntKind.i64).pr (K.int IntKind.i64)).st.sl.pr (((K.int IntKind.i64).pr (K.int IntKind.i64)).st.sl.pr (K.int IntKind.i64))))).st.sl]), (1, SO.box [SA.d K.str, SA.fx (Atom.sl 4 0 none), SA.fx (Atom.sl 5 0 none)]), (2, SO.box [SA.d K.str, SA.fx (Atom.sl 6 0 none), SA.fx (Atom.sl 7 0 none)]), (3, SO.box [SA.fx (Atom.sl 8 0 none)]), (4, SO.row (K.str.pr ((K.int IntKind.i64).pr (K.int IntKind.i64))).st 0), (5, SO.row (K.str.pr (((K.int IntKind.i64).pr (K.int IntKind.i64)).st.sl.pr (((K.int IntKind.i64).pr (K.int IntKind.i64)).st.sl.pr (((K.int IntKind.i64).pr (K.int IntKind.i64)).st.sl.pr (K.int IntKind.i64))))).st 0), (6, SO.row (K.str.pr ((K.int IntKind.i64).pr (K.int IntKind.i64))).st 0), (7, SO.row (K.str.pr (((K.int IntKind.i64).pr (K.int IntKind.i64)).st.sl.pr (((K.int IntKind.i64).pr (K.int IntKind.i64)).st.sl.pr (((K.int IntKind.i64).pr (K.int IntKind.i64)).st.sl.pr (K.int IntKind.i64))))).st 0), (8, SO.row (K.int IntKind.i64) 0)], nx := 9 }
def L0.st {α : Type} (N : Nat) (x0 : Int) (x2 : (List (BA × Int × Int))) (x3 : Int) (φ : (Int → (List (BA × Int × Int)) → (List Int) → Option α)) (x4 : Int) (x12 : (List (BA × Int × Int))) (x14 : (List Int)) (k0 : ((List (BA × Int × Int)) → (List Int) → Option α)) : Option α :=
 cond (decide (x4 < x3)) (cond (decide (0 ≤ x4) && decide (x4 < (↑x2.length : Int))) (cond (decide (0 ≤ x4) && decide (x4 < (↑x14.length : Int))) (cond ((bitset_Has.spec x0 x4)) (cond (decide (0 ≤ x4) && decide (x4 < (↑(x14.set (0 + x4.toNat) (-1)).length : Int))) (cond ((x12.length + 1).ble mxl) (φ (IntKind.i64.wrap (x4 + 1)) (x12 ++ [x2.getD x4.toNat (eBA, 0, 0)]) ((x14.set (0 + x4.toNat) (-1)).set (0 + x4.toNat) (↑x12.length : Int))) (none)) (none)) (φ (IntKind.i64.wrap (x4 + 1)) (x12) (x14.set (0 + x4.toNat) (-1)))) (none)) (none)) (k0 (x12) (x14))
def L0.f {α : Type} (N : Nat) (c0 : Int) (c2 : (List (BA × Int × Int))) (c3 : Int) : Nat → Int → (List (BA × Int × Int)) → (List Int) → ((List (BA × Int × Int)) → (List Int) → Option α) → Option α
 | 0, _, _, _, _ => none
 | n + 1, d0, d1, d2, k0 => L0.st N c0 c2 c3 (fun e0 e1 e2 => L0.f N c0 c2 c3 n e0 e1 e2 k0) d0 d1 d2 k0
def L0.up (d : L0.sh.T) (e0 : Int) (e1 : (List (BA × Int × Int))) (e2 : (List Int)) : L0.sh.T := ((d.1.1, (d.1.2.1, ((), ((), ((), ((), (d.1.2.2.2.2.2.2.1, (d.1.2.2.2.2.2.2.2.1, (e0, ()))))))))), ((d.2.1.1, (d.2.1.2.1, (d.2.1.2.2.1, ()))), ((d.2.2.1.1, ((), ((), ()))), ((d.2.2.2.1.1, ((), ((), ()))), (((), ()), (d.2.2.2.2.2.1, (d.2.2.2.2.2.2.1, (e1, (d.2.2.2.2.2.2.2.2.1, (e2, ()))))))))))
def L0.k0 {α : Type} (d : L0.sh.T) (K : Cont α) : ((List (BA × Int × Int)) → (List Int) → Option α) := fun y0 y1 => K (Exit.exit 0) (L0.x0.enc ((d.1.2.1, ((), ((), ((), ((), ()))))), ((d.2.1.1, (d.2.1.2.1, (d.2.1.2.2.1, ()))), ((d.2.2.1.1, ((), ((), ()))), ((d.2.2.2.1.1, ((), ((), ()))), (((), ()), (d.2.2.2.2.2.1, (d.2.2.2.2.2.2.1, (y0, (d.2.2.2.2.2.2.2.2.1, (y1, ())))))))))))
def L0.F {α : Type} (N : Nat) (d : L0.sh.T) (K : Cont α) : Option α := L0.f N d.1.1 d.1.2.2.2.2.2.2.1 d.1.2.2.2.2.2.2.2.1 N d.1.2.2.2.2.2.2.2.2.1 d.2.2.2.2.2.2.2.1 d.2.2.2.2.2.2.2.2.2.1 (L0.k0 d K)
def L1.sh : Sh := { sl := [(2, SV.a (SA.d (K.int IntKind.u64))), (6, SV.a (SA.fx (Atom.box 0 0))), (9, SV.a (SA.fx (Atom.box 1 0))), (13, SV.a (SA.fx (Atom.fn 55 [2]))), (65, SV.a (SA.d (K.str.pr (((K.int IntKind.i64).pr (K.int IntKind.i64)).st.sl.pr (((K.int IntKind.i64).pr (K.int IntKind.i64)).st.sl.pr (((K.int IntKind.i64).pr (K.int IntKind.i64)).st.sl.pr (K.int IntKind.i64))))).st.sl)), (66, SV.a (SA.d (K.int IntKind.i64))), (67, SV.a (SA.d (K.int IntKind.i64)))], os := [(0, SO.box [SA.d K.str, SA.fx (Atom.sl 3 0 none), SA.fx (Atom.sl 4 0 none)]), (1, SO.box [SA.d K.str, SA.fx (Atom.sl 5 0 none), SA.fx (Atom.sl 6 0 none)]), (2, SO.box [SA.fx (Atom.sl 7 0 none)]), (3, SO.row (K.str.pr ((K.int IntKind.i64).pr (K.int IntKind.i64))).st 0), (4, SO.row (K.str.pr (((K.int IntKind.i64).pr (K.int IntKind.i64)).st.sl.pr (((K.int IntKind.i64).pr (K.int IntKind.i64)).st.sl.pr (((K.int IntKind.i64).pr (K.int IntKind.i64)).st.sl.pr (K.int IntKind.i64))))).st 0), (5, SO.row (K.str.pr ((K.int IntKind.i64).pr (K.int IntKind.i64))).st 0), (6, SO.row (K.str.pr (((K.int IntKind.i64).pr (K.int IntKind.i64)).st.sl.pr (((K.int IntKind.i64).pr (K.int IntKind.i64)).st.sl.pr (((K.int IntKind.i64).pr (K.int IntKind.i64)).st.sl.pr (K.int IntKind.i64))))).st 0), (7, SO.row (K.int IntKind.i64) 0)], nx := 8 }
def L1.x0 : Sh := { sl := [(6, SV.a (SA.fx (Atom.box 0 0))), (9, SV.a (SA.fx (Atom.box 1 0)))], os := [(0, SO.box [SA.d K.str, SA.fx (Atom.sl 2 0 none), SA.fx (Atom.sl 3 0 none)]), (1, SO.box [SA.d K.str, SA.fx (Atom.sl 4 0 none), SA.fx (Atom.sl 5 0 none)]), (2, SO.row (K.str.pr ((K.int IntKind.i64).pr (K.int IntKind.i64))).st 0), (3, SO.row (K.str.pr (((K.int IntKind.i64).pr (K.int IntKind.i64)).st.sl.pr (((K.int IntKind.i64).pr (K.int IntKind.i64)).st.sl.pr (((K.int IntKind.i64).pr (K.int IntKind.i64)).st.sl.pr (K.int IntKind.i64))))).st 0), (4, SO.row (K.str.pr ((K.int IntKind.i64).pr (K.int IntKind.i64))).st 0), (5, SO.row (K.str.pr (((K.int IntKind.i64).pr (K.int IntKind.i64)).st.sl.pr (((K.int IntKind.i64).pr (K.int IntKind.i64)).st.sl.pr (((K.int IntKind.i64).pr (K.int IntKind.i64)).st.sl.pr (K.int IntKind.i64))))).st 0)], nx := 6 }
def L1.st {α : Type} (N : Nat) (x17 : Int) (x18 : (List (BA × List (Int × Int) × List (Int × Int) × List (Int × Int) × Int))) (x19 : Int) (x27 : (List Int)) (φ : (Int → (List (BA × List (Int × Int) × List (Int × Int) × List (Int × Int) × Int)) → Option α)) (x20 : Int) (x26 : (List (BA × List (Int × Int) × List (Int × Int) × List (Int × Int) × Int))) (k0 : ((List (BA × List (Int × Int) × List (Int × Int) × List (Int × Int) × Int)) → Option α)) : Option α :=
 cond (decide (x20 < x19)) (cond (decide (0 ≤ x20) && decide (x20 < (↑x18.length : Int))) (cond ((bitset_Has.spec x17 x20)) (cond (tf_Subnet_1.pre (x18.getD x20.toNat (eBA, [], [], [], 0)).snd.fst x27) (cond (tf_Subnet_1.pre (x18.getD x20.toNat (eBA, [], [], [], 0)).snd.snd.fst x27) (cond (tf_Subnet_1.pre (x18.getD x20.toNat (eBA, [], [], [], 0)).snd.snd.snd.fst x27) (cond (tf_Subnet_1.pre (x18.getD x20.toNat (eBA, [], [], [], 0)).snd.fst x27) (cond (tf_Subnet_1.pre (x18.getD x20.toNat (eBA, [], [], [], 0)).snd.snd.fst x27) (cond (tf_Subnet_1.pre (x18.getD x20.toNat (eBA, [], [], [], 0)).snd.snd.snd.fst x27) (cond ((x26.length + 1).ble mxl) (φ (IntKind.i64.wrap (x20 + 1)) (x26 ++ [((x18.getD x20.toNat (eBA, [], [], [], 0)).fst, (tf_Subnet_1.spec (x18.getD x20.toNat (eBA, [], [], [], 0)).snd.fst x27), (tf_Subnet_1.spec (x18.getD x20.toNat (eBA, [], [], [], 0)).snd.snd.fst x27), (tf_Subnet_1.spec (x18.getD x20.toNat (eBA, [], [], [], 0)).snd.snd.snd.fst x27), (x18.getD x20.toNat (eBA, [], [], [], 0)).snd.snd.snd.snd)])) (none)) (none)) (none)) (none)) (none)) (none)) (none)) (φ (IntKind.i64.wrap (x20 + 1)) (x26))) (none)) (k0 (x26))
def L1.f {α : Type} (N : Nat) (c0 : Int) (c1 : (List (BA × List (Int × Int) × List (Int × Int) × List (Int × Int) × Int))) (c2 : Int) (c8 : (List Int)) : Nat → Int → (List (BA × List (Int × Int) × List (Int × Int) × List (Int × Int) × Int)) → ((List (BA × List (Int × Int) × List (Int × Int) × List (Int × Int) × Int)) → Option α) → Option α
 | 0, _, _, _ => none
 | n + 1, d0, d1, k0 => L1.st N c0 c1 c2 c8 (fun e0 e1 => L1.f N c0 c1 c2 c8 n e0 e1 k0) d0 d1 k0
def L1.up (d : L1.sh.T) (e0 : Int) (e1 : (List (BA × List (Int × Int) × List (Int × Int) × List (Int × Int) × Int))) : L1.sh.T := ((d.1.1, ((), ((), ((), (d.1.2.2.2.2.1, (d.1.2.2.2.2.2.1, (e0, ()))))))), ((d.2.1.1, ((), ((), ()))), ((d.2.2.1.1, ((), ((), ()))), (((), ()), (d.2.2.2.2.1, (d.2.2.2.2.2.1, (d.2.2.2.2.2.2.1, (e1, (d.2.2.2.2.2.2.2.2.1, ())))))))))
def L1.k0 {α : Type} (d : L1.sh.T) (K : Cont α) : ((List (BA × List (Int × Int) × List (Int × Int) × List (Int × Int) × Int)) → Option α) := fun y0 => K (Exit.exit 2) (L1.x0.enc (((), ((), ())), ((d.2.1.1, ((), ((), ()))), ((d.2.2.1.1, ((), ((), ()))), (d.2.2.2.2.1, (d.2.2.2.2.2.1, (d.2.2.2.2.2.2.1, (y0, ()))))))))
def L1.F {α : Type} (N : Nat) (d : L1.sh.T) (K : Cont α) : Option α := L1.f N d.1.1 d.1.2.2.2.2.1 d.1.2.2.2.2.2.1 d.2.2.2.2.2.2.2.2.1 N d.1.2.2.2.2.2.2.1 d.2.2.2.2.2.2.2.1 (L1.k0 d K)
def ents23 {α : Type} (N : Nat) : List (SmE α) := [⟨0, 50, 7, [⟨L0.sh, L0.F N⟩]⟩, ⟨0, 50, 18, [⟨L1.sh, L1.F N⟩]⟩]
def C (N : Nat) : Ctx := ⟨tys, [(53, net_Check.fent), (54, bitset_Has.fent), (55, tf_Subnet_1.fent)], [], N⟩
def L0.B {α : Type} (N : Nat) : Env → Cont α → Option α := evC tys 98 0 (evCall (C N) 50) (evCallQ (C N)) N an23 (smL (ents23 N) 0 50) (loopOf 7 Tryd.f23)
theorem L0.r {α : Type} (N : Nat) (φ : Env → Option α) (K : Cont α) (d : L0.sh.T) : L0.B N (L0.sh.enc d) (contL φ K (Env.norm 0 [1, 2, 3, 6, 9, 10, 32, 33, 34]) (Env.norm 0 [2, 3, 6, 9, 10])) = L0.st N d.1.1 d.1.2.2.2.2.2.2.1 d.1.2.2.2.2.2.2.2.1 (fun e0 e1 e2 => φ (L0.sh.enc (L0.up d e0 e1 e2))) d.1.2.2.2.2.2.2.2.2.1 d.2.2.2.2.2.2.2.1 d.2.2.2.2.2.2.2.2.2.1 (L0.k0 d K) := by kernel_rfl
theorem L0.e {α : Type} (N : Nat) : ∀ (n : Nat) (d : L0.sh.T) (K : Cont α), evL (L0.B N) (Env.norm 0 [1, 2, 3, 6, 9, 10, 32, 33, 34]) (Env.norm 0 [2, 3, 6, 9, 10]) n (L0.sh.enc d) K = L0.f N d.1.1 d.1.2.2.2.2.2.2.1 d.1.2.2.2.2.2.2.2.1 n d.1.2.2.2.2.2.2.2.2.1 d.2.2.2.2.2.2.2.1 d.2.2.2.2.2.2.2.2.2.1 (L0.k0 d K)
 | 0, d, K => rfl
 | n + 1, d, K => evL_contL.trans ((L0.r N _ K d).trans (congrArg (fun φ => L0.st N d.1.1 d.1.2.2.2.2.2.2.1 d.1.2.2.2.2.2.2.2.1 φ d.1.2.2.2.2.2.2.2.2.1 d.2.2.2.2.2.2.2.1 d.2.2.2.2.2.2.2.2.2.1 (L0.k0 d K)) (funext fun e0 => funext fun e1 => funext fun e2 => L0.e N n (L0.up d e0 e1 e2) K)))
def L1.B {α : Type} (N : Nat) : Env → Cont α → Option α := evC tys 98 0 (evCall (C N) 50) (evCallQ (C N)) N an23 (smL (ents23 N) 0 50) (loopOf 18 Tryd.f23)
theorem L1.r {α : Type} (N : Nat) (φ : Env → Option α) (K : Cont α) (d : L1.sh.T) : L1.B N (L1.sh.enc d) (contL φ K (Env.norm 0 [2, 6, 9, 13, 65, 66, 67]) (Env.norm 0 [6, 9])) = L1.st N d.1.1 d.1.2.2.2.2.1 d.1.2.2.2.2.2.1 d.2.2.2.2.2.2.2.2.1 (fun e0 e1 => φ (L1.sh.enc (L1.up d e0 e1))) d.1.2.2.2.2.2.2.1 d.2.2.2.2.2.2.2.1 (L1.k0 d K) := by kernel_rfl
theorem L1.e {α : Type} (N : Nat) : ∀ (n : Nat) (d : L1.sh.T) (K : Cont α), evL (L1.B N) (Env.norm 0 [2, 6, 9, 13, 65, 66, 67]) (Env.norm 0 [6, 9]) n (L1.sh.enc d) K = L1.f N d.1.1 d.1.2.2.2.2.1 d.1.2.2.2.2.2.1 d.2.2.2.2.2.2.2.2.1 n d.1.2.2.2.2.2.2.1 d.2.2.2.2.2.2.2.1 (L1.k0 d K)
 | 0, d, K => rfl
 | n + 1, d, K => evL_contL.trans ((L1.r N _ K d).trans (congrArg (fun φ => L1.st N d.1.1 d.1.2.2.2.2.1 d.1.2.2.2.2.2.1 d.2.2.2.2.2.2.2.2.1 φ d.1.2.2.2.2.2.2.1 d.2.2.2.2.2.2.2.1 (L1.k0 d K)) (funext fun e0 => funext fun e1 => L1.e N n (L1.up d e0 e1) K)))
theorem ents23_ok {α : Type} (N : Nat) : AllP (EntOk (C N) Tryd.f23 an23 (ents23 (α := α) N)) (ents23 N) := ⟨entOk_of (b0 := loopOf 7 Tryd.f23) (li0 := [1, 2, 3, 6, 9, 10, 32, 33, 34]) (lx0 := [2, 3, 6, 9, 10]) (by kernel_rfl) (by kernel_rfl) ⟨fun d K => L0.e N N d K, trivial⟩, entOk_of (b0 := loopOf 18 Tryd.f23) (li0 := [2, 6, 9, 13, 65, 66, 67]) (lx0 := [6, 9]) (by kernel_rfl) (by kernel_rfl) ⟨fun d K => L1.e N N d K, trivial⟩, trivial⟩
def g {α : Type} (N : Nat) (a0 : BA × List (BA × Int × Int) × List (BA × List (Int × Int) × List (Int × Int) × List (Int × Int) × Int)) (a1 : Int) (a2 : Int) (kr : ((BA × List (BA × Int × Int) × List (BA × List (Int × Int) × List (Int × Int) × List (Int × Int) × Int)) → Int → Option α)) : Option α :=
 cond ((net_Check.spec a0).fst != 0) (kr (((ByteArray.mk (#[])), [], [])) ((net_Check.spec a0).fst)) (cond (decide (0 ≤ (↑(List.length a0.snd.fst) : Int)) && decide ((↑(List.length a0.snd.fst) : Int) ≤ (↑(List.length a0.snd.fst) : Int)) && decide ((↑(List.length a0.snd.fst) : Int) ≤ 1073741824)) (L0.f N (a1) (a0.snd.fst) ((↑(List.length a0.snd.fst) : Int)) N (0) ([]) (List.replicate (↑(List.length a0.snd.fst) : Int).toNat (0 : Int)) (fun x15 x16 => cond ((↑x15.length : Int) == 0) (kr (((ByteArray.mk (#[])), [], [])) (19)) (L1.f N (a2) (a0.snd.snd) ((↑(List.length a0.snd.snd) : Int)) (x16) N (0) ([]) (fun x28 => kr ((a0.fst, x15, x28)) (0))))) (none))
theorem eq (N : Nat) (a0 : BA × List (BA × Int × Int) × List (BA × List (Int × Int) × List (Int × Int) × List (Int × Int) × Int)) (a1 : Int) (a2 : Int) : evF (C N) 50 Tryd.f23 an23 (smL (ents23 N) 0 50) [((.st (.pr (.str) (.pr (.sl (.st (.pr (.str) (.pr (.int .i64) (.int .i64))))) (.sl (.st (.pr (.str) (.pr (.sl (.st (.pr (.int .i64) (.int .i64)))) (.pr (.sl (.st (.pr (.int .i64) (.int .i64)))) (.pr (.sl (.st (.pr (.int .i64) (.int .i64)))) (.int .i64))))))))) : K), false), ((.int .i64 : K), false)] [⟨.st (.pr (.str) (.pr (.sl (.st (.pr (.str) (.pr (.int .i64) (.int .i64))))) (.sl (.st (.pr (.str) (.pr (.sl (.st (.pr (.int .i64) (.int .i64)))) (.pr (.sl (.st (.pr (.int .i64) (.int .i64)))) (.pr (.sl (.st (.pr (.int .i64) (.int .i64)))) (.int .i64))))))))), a0⟩, ⟨.int .u64, a1⟩, ⟨.int .u64, a2⟩] = g N a0 a1 a2 (fun r0 r1 => some [.dat ((K.str.pr ((K.str.pr ((K.int IntKind.i64).pr (K.int IntKind.i64))).st.sl.pr (K.str.pr (((K.int IntKind.i64).pr (K.int IntKind.i64)).st.sl.pr (((K.int IntKind.i64).pr (K.int IntKind.i64)).st.sl.pr (((K.int IntKind.i64).pr (K.int IntKind.i64)).st.sl.pr (K.int IntKind.i64))))).st.sl)).st) r0, .dat (K.int IntKind.i64) r1]) := by kernel_rfl
theorem ctxOk (N : Nat) : CtxOk P (C N) := ctxOk_of tysOk mixedOk ⟨net_Check.ok, bitset_Has.ok, tf_Subnet_1.ok, trivial⟩ trivial
theorem calls (N : Nat) (a0 : BA × List (BA × Int × Int) × List (BA × List (Int × Int) × List (Int × Int) × List (Int × Int) × Int)) (a1 : Int) (a2 : Int) {rs : List Rs} (h : g N a0 a1 a2 (fun r0 r1 => some [.dat ((K.str.pr ((K.str.pr ((K.int IntKind.i64).pr (K.int IntKind.i64))).st.sl.pr (K.str.pr (((K.int IntKind.i64).pr (K.int IntKind.i64)).st.sl.pr (((K.int IntKind.i64).pr (K.int IntKind.i64)).st.sl.pr (((K.int IntKind.i64).pr (K.int IntKind.i64)).st.sl.pr (K.int IntKind.i64))))).st.sl)).st) r0, .dat (K.int IntKind.i64) r1]) = some rs) : CallsTo P 23 [⟨.st (.pr (.str) (.pr (.sl (.st (.pr (.str) (.pr (.int .i64) (.int .i64))))) (.sl (.st (.pr (.str) (.pr (.sl (.st (.pr (.int .i64) (.int .i64)))) (.pr (.sl (.st (.pr (.int .i64) (.int .i64)))) (.pr (.sl (.st (.pr (.int .i64) (.int .i64)))) (.int .i64))))))))), a0⟩, ⟨.int .u64, a1⟩, ⟨.int .u64, a2⟩] rs := evF_calls' (ctxOk N) (by rfl) (ents23_ok N) ((eq N a0 a1 a2).trans h)
def L0.l {α : Type} (N : Nat) (x0 : Int) (x2 : (List (BA × Int × Int))) (k0 : ((List (BA × Int × Int)) → (List Int) → Option α)) : List (BA × Int × Int) → Int → (List (BA × Int × Int)) → (List Int) → Option α
 | [], x4, x12, x14 => k0 (x12) (x14)
 | x :: l, x4, x12, x14 => (cond (decide (0 ≤ x4) && decide (x4 < (↑x14.length : Int))) (cond ((bitset_Has.spec x0 x4)) (cond (decide (0 ≤ x4) && decide (x4 < (↑(x14.set (0 + x4.toNat) (-1)).length : Int))) (cond ((x12.length + 1).ble mxl) (L0.l N x0 x2 k0 l (x4 + 1) (x12 ++ [x]) ((x14.set (0 + x4.toNat) (-1)).set (0 + x4.toNat) (↑x12.length : Int))) (none)) (none)) (L0.l N x0 x2 k0 l (x4 + 1) (x12) (x14.set (0 + x4.toNat) (-1)))) (none))
theorem L0.rng {α : Type} {N : Nat} (x0 : Int) (x2 : (List (BA × Int × Int))) (hl : x2.length ≤ maxLen) (k0 : ((List (BA × Int × Int)) → (List Int) → Option α)) : ∀ (n j : Nat) (x12 : (List (BA × Int × Int))) (x14 : (List Int)), x2.length < n + j → j ≤ x2.length → L0.f N x0 x2 (x2.length : Int) n (j : Int) x12 x14 k0 = L0.l N x0 x2 k0 (x2.drop j) (j : Int) x12 x14 :=
 rng2 x2 hl (fun n i x12 x14 => L0.f N x0 x2 (x2.length : Int) n i x12 x14 k0) (fun l i x12 x14 => L0.l N x0 x2 k0 l i x12 x14) (fun n j hj h ih x12 x14 => by simp only [L0.f, L0.st, L0.l, h.a, h.b, h.c, h.d, h.e, Bool.true_and, Bool.and_true, Bool.and_self, cond_true, ih] <;> rfl) (fun n j h x12 x14 => by simp only [L0.f, L0.st, L0.l, h, cond_false])
def L1.l {α : Type} (N : Nat) (x17 : Int) (x18 : (List (BA × List (Int × Int) × List (Int × Int) × List (Int × Int) × Int))) (x27 : (List Int)) (k0 : ((List (BA × List (Int × Int) × List (Int × Int) × List (Int × Int) × Int)) → Option α)) : List (BA × List (Int × Int) × List (Int × Int) × List (Int × Int) × Int) → Int → (List (BA × List (Int × Int) × List (Int × Int) × List (Int × Int) × Int)) → Option α
 | [], x20, x26 => k0 (x26)
 | x :: l, x20, x26 => (cond ((bitset_Has.spec x17 x20)) (cond (tf_Subnet_1.pre x.snd.fst x27) (cond (tf_Subnet_1.pre x.snd.snd.fst x27) (cond (tf_Subnet_1.pre x.snd.snd.snd.fst x27) (cond (tf_Subnet_1.pre x.snd.fst x27) (cond (tf_Subnet_1.pre x.snd.snd.fst x27) (cond (tf_Subnet_1.pre x.snd.snd.snd.fst x27) (cond ((x26.length + 1).ble mxl) (L1.l N x17 x18 x27 k0 l (x20 + 1) (x26 ++ [(x.fst, (tf_Subnet_1.spec x.snd.fst x27), (tf_Subnet_1.spec x.snd.snd.fst x27), (tf_Subnet_1.spec x.snd.snd.snd.fst x27), x.snd.snd.snd.snd)])) (none)) (none)) (none)) (none)) (none)) (none)) (none)) (L1.l N x17 x18 x27 k0 l (x20 + 1) (x26)))
theorem L1.rng {α : Type} {N : Nat} (x17 : Int) (x18 : (List (BA × List (Int × Int) × List (Int × Int) × List (Int × Int) × Int))) (x27 : (List Int)) (hl : x18.length ≤ maxLen) (k0 : ((List (BA × List (Int × Int) × List (Int × Int) × List (Int × Int) × Int)) → Option α)) : ∀ (n j : Nat) (x26 : (List (BA × List (Int × Int) × List (Int × Int) × List (Int × Int) × Int))), x18.length < n + j → j ≤ x18.length → L1.f N x17 x18 (x18.length : Int) x27 n (j : Int) x26 k0 = L1.l N x17 x18 x27 k0 (x18.drop j) (j : Int) x26 :=
 rng1 x18 hl (fun n i x26 => L1.f N x17 x18 (x18.length : Int) x27 n i x26 k0) (fun l i x26 => L1.l N x17 x18 x27 k0 l i x26) (fun n j hj h ih x26 => by simp only [L1.f, L1.st, L1.l, h.a, h.b, h.c, h.d, h.e, Bool.true_and, Bool.and_true, Bool.and_self, cond_true, ih] <;> rfl) (fun n j h x26 => by simp only [L1.f, L1.st, L1.l, h, cond_false])
end tf_Subnet
theorem tf_Subnet.L0.law {α : Type} {N : Nat} (x0 : Int) (x2 : (List (BA × Int × Int))) (k0 : ((List (BA × Int × Int)) → (List Int) → Option α)) : ∀ (l : List PlaceT) (j : Nat) (acc : List PlaceT) (ix : List Int), acc.length = rankN x0 j → j + l.length ≤ 1000 → ix.length = j + l.length → tf_Subnet.L0.l N x0 x2 k0 l (j : Int) acc ix = k0 (acc ++ filtB x0 (j : Int) l) (ix.take j ++ ixB x0 j l.length)
 | [], j, acc, ix, ha, _, hix => by
  rw [tf_Subnet.L0.l, filtB, List.append_nil, List.length_nil, ixB, List.append_nil, List.take_of_length_le (by simp at hix; omega)]
 | x :: l, j, acc, ix, ha, hj, hix => by
  simp only [List.length_cons] at hj hix
  have hlt : j < ix.length := by omega
  have hra := rankN_le x0 j
  have es : (ix.set j (-1)).set j (acc.length : Int) = ix.set j (acc.length : Int) := by rw [List.set_set]
  have et : ∀ v, (ix.set j v).take (j + 1) = ix.take j ++ [v] := fun v => by
   rw [List.take_add_one, List.getElem?_set_self hlt, List.take_set_of_le (Nat.le_refl _)]
   rfl
  rw [tf_Subnet.L0.l, Int.toNat_natCast, Nat.zero_add, List.length_set, d_0, d_lt hlt]
  simp only [Bool.and_self, cond_true]
  rw [show bitset_Has.spec x0 (j : Int) = hasB x0 (j : Int) from rfl, filtB, List.length_cons, ixB]
  cases hb : hasB x0 (j : Int)
  ·
   simp only [cond_false]
   rw [← succ_cast, tf_Subnet.L0.law _ _ _ l (j + 1) _ _ (by rw [rankN, hb]; simpa using ha) (by omega) (by rw [List.length_set]; omega), et, List.append_assoc]
   rfl
  ·
   simp only [cond_true]
   rw [ble1 _ (by omega), cond_true, es, ← succ_cast, tf_Subnet.L0.law _ _ _ l (j + 1) _ _ (by rw [rankN, hb]; simp [ha]) (by omega) (by rw [List.length_set]; omega), et, ha, List.append_assoc, List.append_assoc]
   rfl
theorem tf_Subnet.L1.law {α : Type} {N : Nat} (x17 : Int) (x18 : (List (BA × List (Int × Int) × List (Int × Int) × List (Int × Int) × Int))) (x27 : (List Int)) (k0 : ((List (BA × List (Int × Int) × List (Int × Int) × List (Int × Int) × Int)) → Option α)) : ∀ (l : List TransT) (j : Int) (acc : List TransT), acc.length + l.length ≤ 1000 → (∀ t ∈ l, tf_Subnet_1.pre t.2.1 x27 = true ∧ tf_Subnet_1.pre t.2.2.1 x27 = true ∧ tf_Subnet_1.pre t.2.2.2.1 x27 = true) →
  tf_Subnet.L1.l N x17 x18 x27 k0 l j acc = k0 (acc ++ (filtB x17 j l).map fun t => (t.1, tf_Subnet_1.spec t.2.1 x27, tf_Subnet_1.spec t.2.2.1 x27, tf_Subnet_1.spec t.2.2.2.1 x27, t.2.2.2.2))
 | [], j, acc, _, h => by rw [tf_Subnet.L1.l, filtB, List.map_nil, List.append_nil]
 | x :: l, j, acc, h0, h => by
  simp only [List.length_cons] at h0
  obtain ⟨h1, h2, h3⟩ := h x (by simp)
  rw [tf_Subnet.L1.l, show bitset_Has.spec x17 j = hasB x17 j from rfl, filtB]
  cases hasB x17 j
  ·
   simp only [cond_false]
   rw [tf_Subnet.L1.law _ _ _ _ l _ _ (by omega) (fun t ht => h t (by simp [ht]))]
  ·
   simp only [h1, h2, h3, cond_true]
   rw [ble1 _ (by omega)]
   simp only [cond_true]
   rw [tf_Subnet.L1.law _ _ _ _ l _ _ (by simp; omega) (fun t ht => h t (by simp [ht])), List.append_assoc]
   rfl
theorem tf_Subnet.law {α : Type} {N : Nat} (hN : 18446744073709551616 ≤ N) (a0 : BA × (List (BA × Int × Int)) × List (BA × (List (Int × Int)) × (List (Int × Int)) × (List (Int × Int)) × Int)) (a1 : Int) (a2 : Int) (w0 : K.wf (.st (.pr (.str) (.pr (.sl (.st (.pr (.str) (.pr (.int .i64) (.int .i64))))) (.sl (.st (.pr (.str) (.pr (.sl (.st (.pr (.int .i64) (.int .i64)))) (.pr (.sl (.st (.pr (.int .i64) (.int .i64)))) (.pr (.sl (.st (.pr (.int .i64) (.int .i64)))) (.int .i64)))))))))) a0) (w1 : K.wf (.int .u64) a1) (w2 : K.wf (.int .u64) a2) (kr : ((BA × (List (BA × Int × Int)) × List (BA × (List (Int × Int)) × (List (Int × Int)) × (List (Int × Int)) × Int)) → Int → Option α)) : tf_Subnet.g N a0 a1 a2 kr = kr (tf_Subnet.spec a0 a1 a2).1 (tf_Subnet.spec a0 a1 a2).2 := by
 unfold tf_Subnet.g tf_Subnet.spec subE
 simp only [net_Check.spec, bne, checkN_eta]
 cases hc : (checkN a0).1 == 0
 ·
  rfl
 have hv := checkN_t.1 hc
 have hnp := hv.np
 have hnt := hv.nt
 simp only [Bool.not_true, cond_false, cond_true]
 rw [show (decide (0 ≤ ((List.length a0.2.1 : Nat) : Int)) && decide (((List.length a0.2.1 : Nat) : Int) ≤ ((List.length a0.2.1 : Nat) : Int)) && decide (((List.length a0.2.1 : Nat) : Int) ≤ 1073741824)) = true by simp; omega, cond_true]
 refine (tf_Subnet.L0.rng (N := N) _ _ (w0.2.1.1) _ N 0 _ _ (by have := le_fuel (w0.2.1.1) hN; omega) (Nat.zero_le _)).trans ?_
 refine (tf_Subnet.L0.law _ _ _ _ 0 _ _ (by simp [rankN]) (by simp; omega) (by simp)).trans ?_
 simp only [List.drop_zero, List.nil_append, List.take_zero]
 have e0 : (((0 : Nat) : Int)) = 0 := rfl
 rw [e0]
 have ee : ((((filtB a1 0 a0.2.1).length : Nat) : Int) == 0) = List.isEmpty (filtB a1 0 a0.2.1) := by
  cases filtB a1 0 a0.2.1 with
  | nil => rfl
  | cons x l => simp; omega
 rw [ee]
 cases hem : List.isEmpty (filtB a1 0 a0.2.1)
 ·
  simp only [cond_false]
  refine (tf_Subnet.L1.rng (N := N) _ _ _ (w0.2.2.1) _ N 0 _ (by have := le_fuel (w0.2.2.1) hN; omega) (Nat.zero_le _)).trans ?_
  refine (tf_Subnet.L1.law _ _ _ _ _ _ _ (by simp; omega) (fun t ht => ?_)).trans ?_
  ·
   have ht : t ∈ a0.2.2 := by simpa using ht
   have hb := hv.big t ht
   have ho := hv.trans t ht
   have pr : ∀ l : List (Int × Int), bigL l = true → ArcsOk (a0.2.1.length : Int) l → tf_Subnet_1.pre l (ixB a1 0 a0.2.1.length) = true := fun l hl ha => by
    unfold tf_Subnet_1.pre
    rw [hl, Bool.true_and, List.all_eq_true]
    intro a hm
    have := (ha.rg a hm).1
    rw [ixB_len]
    simp only [Bool.and_eq_true, decide_eq_true_eq]
    exact this
   exact ⟨pr _ hb.pre ho.pre, pr _ hb.post ho.post, pr _ hb.inh ho.inh⟩
  ·
   simp only [List.drop_zero, List.nil_append]
   have em : (filtB a2 (((0 : Nat) : Int)) a0.2.2).map (fun t => (t.1, tf_Subnet_1.spec t.2.1 (ixB a1 0 (List.length a0.2.1)), tf_Subnet_1.spec t.2.2.1 (ixB a1 0 (List.length a0.2.1)), tf_Subnet_1.spec t.2.2.2.1 (ixB a1 0 (List.length a0.2.1)), t.2.2.2.2)) = (filtB a2 0 a0.2.2).map (keptT a1) :=
    List.map_congr_left fun t ht => by
     have ho := hv.trans t (filtB_mem ht)
     unfold keptT
     rw [sub_kept ho.pre, sub_kept ho.post, sub_kept ho.inh]
   exact congrArg (fun z => kr (a0.1, filtB a1 0 a0.2.1, z) 0) em
 ·
  rfl
theorem tf_Subnet.ok : FentOk P 23 tf_Subnet.fent := fentOk_of (by kernel_rfl) fun ds hk => by
 obtain ⟨a0, l0, rfl, h0⟩ := ds_cons hk
 obtain ⟨a1, l1, rfl, h1⟩ := ds_cons h0
 obtain ⟨a2, l2, rfl, h2⟩ := ds_cons h1
 obtain rfl := ds0 h2
 exact ⟨true, [.dat (.st (.pr (.str) (.pr (.sl (.st (.pr (.str) (.pr (.int .i64) (.int .i64))))) (.sl (.st (.pr (.str) (.pr (.sl (.st (.pr (.int .i64) (.int .i64)))) (.pr (.sl (.st (.pr (.int .i64) (.int .i64)))) (.pr (.sl (.st (.pr (.int .i64) (.int .i64)))) (.int .i64)))))))))) (tf_Subnet.spec a0 a1 a2).1, .dat (.int .i64) (tf_Subnet.spec a0 a1 a2).2], fun h hw => tf_Subnet.calls 18446744073709551616 a0 a1 a2 (tf_Subnet.law (Nat.le_refl _) a0 a1 a2 hw.1 hw.2.1 hw.2.2.1 _), fun α k => rfl⟩
end Go.VI
namespace Go.VI
open Go Go.Proofs
namespace tf_Start_1
def an59 : Ann := []
def ents59 {α : Type} (N : Nat) : List (SmE α) := []
def C (N : Nat) : Ctx := ⟨tys, [], [], N⟩
theorem ents59_ok {α : Type} (N : Nat) : AllP (EntOk (C N) Tryd.f59 an59 (ents59 (α := α) N)) (ents59 N) := trivial
def g {α : Type} (N : Nat) (a0 : Int) (a1 : BA × Int × Int) (a2 : List Int) (kr : ((BA × Int × Int) → Option α)) : Option α :=
 cond (decide (0 ≤ a0) && decide (a0 < (↑a2.length : Int))) (kr ((a1.fst, a2.getD a0.toNat 0, a1.snd.snd))) (none)
theorem eq (N : Nat) (a0 : Int) (a1 : BA × Int × Int) (a2 : List Int) : evF (C N) 50 Tryd.f59 an59 (smL (ents59 N) 0 50) [((.st (.pr (.str) (.pr (.int .i64) (.int .i64))) : K), false)] [⟨.int .i64, a0⟩, ⟨.st (.pr (.str) (.pr (.int .i64) (.int .i64))), a1⟩, ⟨.ref (.sl (.int .i64)), a2⟩] = g N a0 a1 a2 (fun r0 => some [.dat ((K.str.pr ((K.int IntKind.i64).pr (K.int IntKind.i64))).st) r0]) := by kernel_rfl
theorem ctxOk (N : Nat) : CtxOk P (C N) := ctxOk_of tysOk mixedOk trivial trivial
theorem calls (N : Nat) (a0 : Int) (a1 : BA × Int × Int) (a2 : List Int) {rs : List Rs} (h : g N a0 a1 a2 (fun r0 => some [.dat ((K.str.pr ((K.int IntKind.i64).pr (K.int IntKind.i64))).st) r0]) = some rs) : CallsTo P 59 [⟨.int .i64, a0⟩, ⟨.st (.pr (.str) (.pr (.int .i64) (.int .i64))), a1⟩, ⟨.ref (.sl (.int .i64)), a2⟩] rs := evF_calls' (ctxOk N) (by rfl) (ents59_ok N) ((eq N a0 a1 a2).trans h)
end tf_Start_1
theorem tf_Start_1.law {α : Type} {N : Nat} (hN : 18446744073709551616 ≤ N) (a0 : Int) (a1 : BA × Int × Int) (a2 : List Int) (w0 : K.wf (.int .i64) a0) (w1 : K.wf (.st (.pr (.str) (.pr (.int .i64) (.int .i64)))) a1) (w2 : K.wf (.ref (.sl (.int .i64))) a2) (hp : tf_Start_1.pre a0 a1 a2 = true) (kr : ((BA × Int × Int) → Option α)) : tf_Start_1.g N a0 a1 a2 kr = kr (tf_Start_1.spec a0 a1 a2) := by
 unfold tf_Start_1.g tf_Start_1.spec
 rw [show (decide (0 ≤ a0) && decide (a0 < (a2.length : Int))) = true from hp, cond_true]
theorem tf_Start_1.ok : FentOk P 59 tf_Start_1.fent := fentOk_of (by kernel_rfl) fun ds hk => by
 obtain ⟨a0, l0, rfl, h0⟩ := ds_cons hk
 obtain ⟨a1, l1, rfl, h1⟩ := ds_cons h0
 obtain ⟨a2, l2, rfl, h2⟩ := ds_cons h1
 obtain rfl := ds0 h2
 exact ⟨tf_Start_1.pre a0 a1 a2, [.dat (.st (.pr (.str) (.pr (.int .i64) (.int .i64)))) (tf_Start_1.spec a0 a1 a2)], fun h hw => tf_Start_1.calls 18446744073709551616 a0 a1 a2 (tf_Start_1.law (Nat.le_refl _) a0 a1 a2 hw.1 hw.2.1 hw.2.2.1 h _), fun α k => rfl⟩
end Go.VI
namespace Go.VI
open Go Go.Proofs
namespace tf_Start_2
def an60 : Ann := []
def ents60 {α : Type} (N : Nat) : List (SmE α) := []
def C (N : Nat) : Ctx := ⟨tys, [], [], N⟩
theorem ents60_ok {α : Type} (N : Nat) : AllP (EntOk (C N) Tryd.f60 an60 (ents60 (α := α) N)) (ents60 N) := trivial
def g {α : Type} (N : Nat) (a0 : BA × List (Int × Int) × List (Int × Int) × List (Int × Int) × Int) (kr : ((BA × List (Int × Int) × List (Int × Int) × List (Int × Int) × Int) → Option α)) : Option α :=
 kr (a0)
theorem eq (N : Nat) (a0 : BA × List (Int × Int) × List (Int × Int) × List (Int × Int) × Int) : evF (C N) 50 Tryd.f60 an60 (smL (ents60 N) 0 50) [((.st (.pr (.str) (.pr (.sl (.st (.pr (.int .i64) (.int .i64)))) (.pr (.sl (.st (.pr (.int .i64) (.int .i64)))) (.pr (.sl (.st (.pr (.int .i64) (.int .i64)))) (.int .i64))))) : K), false)] [⟨.st (.pr (.str) (.pr (.sl (.st (.pr (.int .i64) (.int .i64)))) (.pr (.sl (.st (.pr (.int .i64) (.int .i64)))) (.pr (.sl (.st (.pr (.int .i64) (.int .i64)))) (.int .i64))))), a0⟩] = g N a0 (fun r0 => some [.dat ((K.str.pr (((K.int IntKind.i64).pr (K.int IntKind.i64)).st.sl.pr (((K.int IntKind.i64).pr (K.int IntKind.i64)).st.sl.pr (((K.int IntKind.i64).pr (K.int IntKind.i64)).st.sl.pr (K.int IntKind.i64))))).st) r0]) := by kernel_rfl
theorem ctxOk (N : Nat) : CtxOk P (C N) := ctxOk_of tysOk mixedOk trivial trivial
theorem calls (N : Nat) (a0 : BA × List (Int × Int) × List (Int × Int) × List (Int × Int) × Int) {rs : List Rs} (h : g N a0 (fun r0 => some [.dat ((K.str.pr (((K.int IntKind.i64).pr (K.int IntKind.i64)).st.sl.pr (((K.int IntKind.i64).pr (K.int IntKind.i64)).st.sl.pr (((K.int IntKind.i64).pr (K.int IntKind.i64)).st.sl.pr (K.int IntKind.i64))))).st) r0]) = some rs) : CallsTo P 60 [⟨.st (.pr (.str) (.pr (.sl (.st (.pr (.int .i64) (.int .i64)))) (.pr (.sl (.st (.pr (.int .i64) (.int .i64)))) (.pr (.sl (.st (.pr (.int .i64) (.int .i64)))) (.int .i64))))), a0⟩] rs := evF_calls' (ctxOk N) (by rfl) (ents60_ok N) ((eq N a0).trans h)
end tf_Start_2
theorem tf_Start_2.law {α : Type} {N : Nat} (hN : 18446744073709551616 ≤ N) (a0 : BA × (List (Int × Int)) × (List (Int × Int)) × (List (Int × Int)) × Int) (w0 : K.wf (.st (.pr (.str) (.pr (.sl (.st (.pr (.int .i64) (.int .i64)))) (.pr (.sl (.st (.pr (.int .i64) (.int .i64)))) (.pr (.sl (.st (.pr (.int .i64) (.int .i64)))) (.int .i64)))))) a0) (kr : ((BA × (List (Int × Int)) × (List (Int × Int)) × (List (Int × Int)) × Int) → Option α)) : tf_Start_2.g N a0 kr = kr (tf_Start_2.spec a0) := by
 rfl
theorem tf_Start_2.ok : FentOk P 60 tf_Start_2.fent := fentOk_of (by kernel_rfl) fun ds hk => by
 obtain ⟨a0, l0, rfl, h0⟩ := ds_cons hk
 obtain rfl := ds0 h0
 exact ⟨true, [.dat (.st (.pr (.str) (.pr (.sl (.st (.pr (.int .i64) (.int .i64)))) (.pr (.sl (.st (.pr (.int .i64) (.int .i64)))) (.pr (.sl (.st (.pr (.int .i64) (.int .i64)))) (.int .i64)))))) (tf_Start_2.spec a0)], fun h hw => tf_Start_2.calls 18446744073709551616 a0 (tf_Start_2.law (Nat.le_refl _) a0 hw.1 _), fun α k => rfl⟩
end Go.VI
namespace Go.VI
open Go Go.Proofs
namespace tf_Start
def an25 : Ann := [(7, [2, 3, 4, 25, 26, 27], [2, 3, 4, 5])]
def an35 : Ann := [(3, [1, 2, 3, 6, 7, 16, 17, 18], [2, 3, 6, 7]), (8, [2, 6, 7, 34, 35, 36], [6, 7])]
def L0.sh : Sh := { sl := [(2, SV.a (SA.fx (Atom.box 0 0))), (3, SV.a (SA.fx (Atom.box 1 0))), (4, SV.a (SA.fx (Atom.box 2 0))), (25, SV.a (SA.d (K.str.pr ((K.int IntKind.i64).pr (K.int IntKind.i64))).st.sl)), (26, SV.a (SA.d (K.int IntKind.i64))), (27, SV.a (SA.d (K.int IntKind.i64)))], os := [(0, SO.box [SA.d K.str, SA.d (K.str.pr ((K.int IntKind.i64).pr (K.int IntKind.i64))).st.sl, SA.d (K.str.pr (((K.int IntKind.i64).pr (K.int IntKind.i64)).st.sl.pr (((K.int IntKind.i64).pr (K.int IntKind.i64)).st.sl.pr (((K.int IntKind.i64).pr (K.int IntKind.i64)).st.sl.pr (K.int IntKind.i64))))).st.sl]), (1, SO.box [SA.d (K.int IntKind.i64).sl]), (2, SO.box [SA.d K.str, SA.fx (Atom.sl 3 0 none), SA.fx (Atom.sl 4 0 none)]), (3, SO.row (K.str.pr ((K.int IntKind.i64).pr (K.int IntKind.i64))).st 0), (4, SO.row (K.str.pr (((K.int IntKind.i64).pr (K.int IntKind.i64)).st.sl.pr (((K.int IntKind.i64).pr (K.int IntKind.i64)).st.sl.pr (((K.int IntKind.i64).pr (K.int IntKind.i64)).st.sl.pr (K.int IntKind.i64))))).st 0)], nx := 5 }
def L0.x0 : Sh := { sl := [(2, SV.a (SA.fx (Atom.box 0 0))), (3, SV.a (SA.fx (Atom.box 1 0))), (4, SV.a (SA.fx (Atom.box 2 0))), (5, SV.a (SA.d (K.int IntKind.i64)))], os := [(0, SO.box [SA.d K.str, SA.d (K.str.pr ((K.int IntKind.i64).pr (K.int IntKind.i64))).st.sl, SA.d (K.str.pr (((K.int IntKind.i64).pr (K.int IntKind.i64)).st.sl.pr (((K.int IntKind.i64).pr (K.int IntKind.i64)).st.sl.pr (((K.int IntKind.i64).pr (K.int IntKind.i64)).st.sl.pr (K.int IntKind.i64))))).st.sl]), (1, SO.box [SA.d (K.int IntKind.i64).sl]), (2, SO.box [SA.d K.str, SA.fx (Atom.sl 3 0 none), SA.fx (Atom.sl 4 0 none)]), (3, SO.row (K.str.pr ((K.int IntKind.i64).pr (K.int IntKind.i64))).st 0), (4, SO.row (K.str.pr (((K.int IntKind.i64).pr (K.int IntKind.i64)).st.sl.pr (((K.int IntKind.i64).pr (K.int IntKind.i64)).st.sl.pr (((K.int IntKind.i64).pr (K.int IntKind.i64)).st.sl.pr (K.int IntKind.i64))))).st 0)], nx := 5 }
def L0.x1 : Sh := { sl := [(2, SV.a (SA.fx (Atom.box 0 0))), (3, SV.a (SA.fx (Atom.box 1 0))), (4, SV.a (SA.fx (Atom.box 2 0))), (5, SV.j)], os := [(0, SO.box [SA.d K.str, SA.d (K.str.pr ((K.int IntKind.i64).pr (K.int IntKind.i64))).st.sl, SA.d (K.str.pr (((K.int IntKind.i64).pr (K.int IntKind.i64)).st.sl.pr (((K.int IntKind.i64).pr (K.int IntKind.i64)).st.sl.pr (((K.int IntKind.i64).pr (K.int IntKind.i64)).st.sl.pr (K.int IntKind.i64))))).st.sl]), (1, SO.box [SA.d (K.int IntKind.i64).sl]), (2, SO.box [SA.d K.str, SA.fx (Atom.sl 3 0 none), SA.fx (Atom.sl 4 0 none)]), (3, SO.row (K.str.pr ((K.int IntKind.i64).pr (K.int IntKind.i64))).st 0), (4, SO.row (K.str.pr (((K.int IntKind.i64).pr (K.int IntKind.i64)).st.sl.pr (((K.int IntKind.i64).pr (K.int IntKind.i64)).st.sl.pr (((K.int IntKind.i64).pr (K.int IntKind.i64)).st.sl.pr (K.int IntKind.i64))))).st 0)], nx := 5 }
def L0.st {α : Type} (N : Nat) (x0 : (List (BA × Int × Int))) (x1 : Int) (x6 : (List Int)) (φ : (Int → Option α)) (x2 : Int) (k0 : (Int → BA → (List (BA × Int × Int)) → (List (BA × List (Int × Int) × List (Int × Int) × List (Int × Int) × Int)) → Option α)) (k1 : Option α) : Option α :=
 cond (decide (x2 < x1)) (cond (decide (0 ≤ x2) && decide (x2 < (↑x0.length : Int))) (cond ((x0.getD x2.toNat (eBA, 0, 0)).snd.snd != 0) (cond (decide (0 ≤ x2) && decide (x2 < (↑x6.length : Int))) (cond (decide ((x0.getD x2.toNat (eBA, 0, 0)).snd.snd < x6.getD x2.toNat (0 : Int))) (k0 (10) ((ByteArray.mk (#[]))) ([]) ([])) (φ (IntKind.i64.wrap (x2 + 1)))) (none)) (φ (IntKind.i64.wrap (x2 + 1)))) (none)) (k1 )
def L0.f {α : Type} (N : Nat) (c0 : (List (BA × Int × Int))) (c1 : Int) (c5 : (List Int)) : Nat → Int → (Int → BA → (List (BA × Int × Int)) → (List (BA × List (Int × Int) × List (Int × Int) × List (Int × Int) × Int)) → Option α) → Option α → Option α
 | 0, _, _, _ => none
 | n + 1, d0, k0, k1 => L0.st N c0 c1 c5 (fun e0 => L0.f N c0 c1 c5 n e0 k0 k1) d0 k0 k1
def L0.up (d : L0.sh.T) (e0 : Int) : L0.sh.T := (((), ((), ((), (d.1.2.2.2.1, (d.1.2.2.2.2.1, (e0, ())))))), ((d.2.1.1, (d.2.1.2.1, (d.2.1.2.2.1, ()))), ((d.2.2.1.1, ()), ((d.2.2.2.1.1, ((), ((), ()))), (d.2.2.2.2.1, (d.2.2.2.2.2.1, ()))))))
def L0.k0 {α : Type} (d : L0.sh.T) (K : Cont α) : (Int → BA → (List (BA × Int × Int)) → (List (BA × List (Int × Int) × List (Int × Int) × List (Int × Int) × Int)) → Option α) := fun y0 y1 y2 y3 => K (Exit.ret) (L0.x0.enc (((), ((), ((), (y0, ())))), ((d.2.1.1, (d.2.1.2.1, (d.2.1.2.2.1, ()))), ((d.2.2.1.1, ()), ((y1, ((), ((), ()))), (y2, (y3, ())))))))
def L0.k1 {α : Type} (d : L0.sh.T) (K : Cont α) : Option α := K (Exit.exit 0) (L0.x1.enc (((), ((), ((), ((), ())))), ((d.2.1.1, (d.2.1.2.1, (d.2.1.2.2.1, ()))), ((d.2.2.1.1, ()), ((d.2.2.2.1.1, ((), ((), ()))), (d.2.2.2.2.1, (d.2.2.2.2.2.1, ())))))))
def L0.F {α : Type} (N : Nat) (d : L0.sh.T) (K : Cont α) : Option α := L0.f N d.1.2.2.2.1 d.1.2.2.2.2.1 d.2.2.1.1 N d.1.2.2.2.2.2.1 (L0.k0 d K) (L0.k1 d K)
def L1.sh : Sh := { sl := [(1, SV.a (SA.fx (Atom.fn 59 [1]))), (2, SV.a (SA.fx (Atom.fn 60 []))), (3, SV.a (SA.fx (Atom.box 5 0))), (6, SV.a (SA.fx (Atom.box 6 0))), (7, SV.a (SA.fx (Atom.box 7 0))), (16, SV.a (SA.d (K.str.pr ((K.int IntKind.i64).pr (K.int IntKind.i64))).st.sl)), (17, SV.a (SA.d (K.int IntKind.i64))), (18, SV.a (SA.d (K.int IntKind.i64)))], os := [(5, SO.box [SA.d K.str, SA.d (K.str.pr ((K.int IntKind.i64).pr (K.int IntKind.i64))).st.sl, SA.d (K.str.pr (((K.int IntKind.i64).pr (K.int IntKind.i64)).st.sl.pr (((K.int IntKind.i64).pr (K.int IntKind.i64)).st.sl.pr (((K.int IntKind.i64).pr (K.int IntKind.i64)).st.sl.pr (K.int IntKind.i64))))).st.sl]), (6, SO.box [SA.d K.str, SA.fx (Atom.sl 8 0 none), SA.fx (Atom.sl 9 0 none)]), (7, SO.box [SA.d K.str, SA.fx (Atom.sl 10 0 none), SA.fx (Atom.sl 11 0 none)]), (8, SO.row (K.str.pr ((K.int IntKind.i64).pr (K.int IntKind.i64))).st 0), (9, SO.row (K.str.pr (((K.int IntKind.i64).pr (K.int IntKind.i64)).st.sl.pr (((K.int IntKind.i64).pr (K.int IntKind.i64)).st.sl.pr (((K.int IntKind.i64).pr (K.int IntKind.i64)).st.sl.pr (K.int IntKind.i64))))).st 0), (10, SO.row (K.str.pr ((K.int IntKind.i64).pr (K.int IntKind.i64))).st 0), (11, SO.row (K.str.pr (((K.int IntKind.i64).pr (K.int IntKind.i64)).st.sl.pr (((K.int IntKind.i64).pr (K.int IntKind.i64)).st.sl.pr (((K.int IntKind.i64).pr (K.int IntKind.i64)).st.sl.pr (K.int IntKind.i64))))).st 0), (0, SO.box [SA.d K.str, SA.d (K.str.pr ((K.int IntKind.i64).pr (K.int IntKind.i64))).st.sl, SA.d (K.str.pr (((K.int IntKind.i64).pr (K.int IntKind.i64)).st.sl.pr (((K.int IntKind.i64).pr (K.int IntKind.i64)).st.sl.pr (((K.int IntKind.i64).pr (K.int IntKind.i64)).st.sl.pr (K.int IntKind.i64))))).st.sl]), (1, SO.box [SA.d (K.int IntKind.i64).sl]), (2, SO.box [SA.d K.str, SA.fx (Atom.sl 3 0 none), SA.fx (Atom.sl 4 0 none)]), (3, SO.row (K.str.pr ((K.int IntKind.i64).pr (K.int IntKind.i64))).st 0), (4, SO.row (K.str.pr (((K.int IntKind.i64).pr (K.int IntKind.i64)).st.sl.pr (((K.int IntKind.i64).pr (K.int IntKind.i64)).st.sl.pr (((K.int IntKind.i64).pr (K.int IntKind.i64)).st.sl.pr (K.int IntKind.i64))))).st 0)], nx := 12 }
def L1.x0 : Sh := { sl := [(2, SV.a (SA.fx (Atom.fn 60 []))), (3, SV.a (SA.fx (Atom.box 5 0))), (6, SV.a (SA.fx (Atom.box 6 0))), (7, SV.a (SA.fx (Atom.box 7 0)))], os := [(5, SO.box [SA.d K.str, SA.d (K.str.pr ((K.int IntKind.i64).pr (K.int IntKind.i64))).st.sl, SA.d (K.str.pr (((K.int IntKind.i64).pr (K.int IntKind.i64)).st.sl.pr (((K.int IntKind.i64).pr (K.int IntKind.i64)).st.sl.pr (((K.int IntKind.i64).pr (K.int IntKind.i64)).st.sl.pr (K.int IntKind.i64))))).st.sl]), (6, SO.box [SA.d K.str, SA.fx (Atom.sl 8 0 none), SA.fx (Atom.sl 9 0 none)]), (7, SO.box [SA.d K.str, SA.fx (Atom.sl 10 0 none), SA.fx (Atom.sl 11 0 none)]), (8, SO.row (K.str.pr ((K.int IntKind.i64).pr (K.int IntKind.i64))).st 0), (9, SO.row (K.str.pr (((K.int IntKind.i64).pr (K.int IntKind.i64)).st.sl.pr (((K.int IntKind.i64).pr (K.int IntKind.i64)).st.sl.pr (((K.int IntKind.i64).pr (K.int IntKind.i64)).st.sl.pr (K.int IntKind.i64))))).st 0), (10, SO.row (K.str.pr ((K.int IntKind.i64).pr (K.int IntKind.i64))).st 0), (11, SO.row (K.str.pr (((K.int IntKind.i64).pr (K.int IntKind.i64)).st.sl.pr (((K.int IntKind.i64).pr (K.int IntKind.i64)).st.sl.pr (((K.int IntKind.i64).pr (K.int IntKind.i64)).st.sl.pr (K.int IntKind.i64))))).st 0), (0, SO.box [SA.d K.str, SA.d (K.str.pr ((K.int IntKind.i64).pr (K.int IntKind.i64))).st.sl, SA.d (K.str.pr (((K.int IntKind.i64).pr (K.int IntKind.i64)).st.sl.pr (((K.int IntKind.i64).pr (K.int IntKind.i64)).st.sl.pr (((K.int IntKind.i64).pr (K.int IntKind.i64)).st.sl.pr (K.int IntKind.i64))))).st.sl]), (1, SO.box [SA.d (K.int IntKind.i64).sl]), (2, SO.box [SA.d K.str, SA.fx (Atom.sl 3 0 none), SA.fx (Atom.sl 4 0 none)]), (3, SO.row (K.str.pr ((K.int IntKind.i64).pr (K.int IntKind.i64))).st 0), (4, SO.row (K.str.pr (((K.int IntKind.i64).pr (K.int IntKind.i64)).st.sl.pr (((K.int IntKind.i64).pr (K.int IntKind.i64)).st.sl.pr (((K.int IntKind.i64).pr (K.int IntKind.i64)).st.sl.pr (K.int IntKind.i64))))).st 0)], nx := 12 }
def L1.st {α : Type} (N : Nat) (x14 : (List (BA × Int × Int))) (x15 : Int) (x29 : (List Int)) (φ : (Int → (List (BA × Int × Int)) → Option α)) (x16 : Int) (x24 : (List (BA × Int × Int))) (k0 : ((List (BA × Int × Int)) → Option α)) : Option α :=
 cond (decide (x16 < x15)) (cond (decide (0 ≤ x16) && decide (x16 < (↑x14.length : Int))) (cond (tf_Start_1.pre x16 (x14.getD x16.toNat (eBA, 0, 0)) x29) (cond ((x24.length + 1).ble mxl) (cond (tf_Start_1.pre x16 (x14.getD x16.toNat (eBA, 0, 0)) x29) (cond ((x24.length + 1).ble mxl) (φ (IntKind.i64.wrap (x16 + 1)) (x24 ++ [(tf_Start_1.spec x16 (x14.getD x16.toNat (eBA, 0, 0)) x29)])) (none)) (none)) (none)) (none)) (none)) (k0 (x24))
def L1.f {α : Type} (N : Nat) (c0 : (List (BA × Int × Int))) (c1 : Int) (c13 : (List Int)) : Nat → Int → (List (BA × Int × Int)) → ((List (BA × Int × Int)) → Option α) → Option α
 | 0, _, _, _ => none
 | n + 1, d0, d1, k0 => L1.st N c0 c1 c13 (fun e0 e1 => L1.f N c0 c1 c13 n e0 e1 k0) d0 d1 k0
def L1.up (d : L1.sh.T) (e0 : Int) (e1 : (List (BA × Int × Int))) : L1.sh.T := (((), ((), ((), ((), ((), (d.1.2.2.2.2.2.1, (d.1.2.2.2.2.2.2.1, (e0, ())))))))), ((d.2.1.1, (d.2.1.2.1, (d.2.1.2.2.1, ()))), ((d.2.2.1.1, ((), ((), ()))), ((d.2.2.2.1.1, ((), ((), ()))), (d.2.2.2.2.1, (d.2.2.2.2.2.1, (e1, (d.2.2.2.2.2.2.2.1, ((d.2.2.2.2.2.2.2.2.1.1, (d.2.2.2.2.2.2.2.2.1.2.1, (d.2.2.2.2.2.2.2.2.1.2.2.1, ()))), ((d.2.2.2.2.2.2.2.2.2.1.1, ()), ((d.2.2.2.2.2.2.2.2.2.2.1.1, ((), ((), ()))), (d.2.2.2.2.2.2.2.2.2.2.2.1, (d.2.2.2.2.2.2.2.2.2.2.2.2.1, ())))))))))))))
def L1.k0 {α : Type} (d : L1.sh.T) (K : Cont α) : ((List (BA × Int × Int)) → Option α) := fun y0 => K (Exit.exit 0) (L1.x0.enc (((), ((), ((), ((), ())))), ((d.2.1.1, (d.2.1.2.1, (d.2.1.2.2.1, ()))), ((d.2.2.1.1, ((), ((), ()))), ((d.2.2.2.1.1, ((), ((), ()))), (d.2.2.2.2.1, (d.2.2.2.2.2.1, (y0, (d.2.2.2.2.2.2.2.1, ((d.2.2.2.2.2.2.2.2.1.1, (d.2.2.2.2.2.2.2.2.1.2.1, (d.2.2.2.2.2.2.2.2.1.2.2.1, ()))), ((d.2.2.2.2.2.2.2.2.2.1.1, ()), ((d.2.2.2.2.2.2.2.2.2.2.1.1, ((), ((), ()))), (d.2.2.2.2.2.2.2.2.2.2.2.1, (d.2.2.2.2.2.2.2.2.2.2.2.2.1, ()))))))))))))))
def L1.F {α : Type} (N : Nat) (d : L1.sh.T) (K : Cont α) : Option α := L1.f N d.1.2.2.2.2.2.1 d.1.2.2.2.2.2.2.1 d.2.2.2.2.2.2.2.2.2.1.1 N d.1.2.2.2.2.2.2.2.1 d.2.2.2.2.2.2.1 (L1.k0 d K)
def L2.sh : Sh := { sl := [(2, SV.a (SA.fx (Atom.fn 60 []))), (6, SV.a (SA.fx (Atom.box 5 0))), (7, SV.a (SA.fx (Atom.box 6 0))), (34, SV.a (SA.d (K.str.pr (((K.int IntKind.i64).pr (K.int IntKind.i64)).st.sl.pr (((K.int IntKind.i64).pr (K.int IntKind.i64)).st.sl.pr (((K.int IntKind.i64).pr (K.int IntKind.i64)).st.sl.pr (K.int IntKind.i64))))).st.sl)), (35, SV.a (SA.d (K.int IntKind.i64))), (36, SV.a (SA.d (K.int IntKind.i64)))], os := [(5, SO.box [SA.d K.str, SA.fx (Atom.sl 7 0 none), SA.fx (Atom.sl 8 0 none)]), (6, SO.box [SA.d K.str, SA.fx (Atom.sl 9 0 none), SA.fx (Atom.sl 10 0 none)]), (7, SO.row (K.str.pr ((K.int IntKind.i64).pr (K.int IntKind.i64))).st 0), (8, SO.row (K.str.pr (((K.int IntKind.i64).pr (K.int IntKind.i64)).st.sl.pr (((K.int IntKind.i64).pr (K.int IntKind.i64)).st.sl.pr (((K.int IntKind.i64).pr (K.int IntKind.i64)).st.sl.pr (K.int IntKind.i64))))).st 0), (9, SO.row (K.str.pr ((K.int IntKind.i64).pr (K.int IntKind.i64))).st 0), (10, SO.row (K.str.pr (((K.int IntKind.i64).pr (K.int IntKind.i64)).st.sl.pr (((K.int IntKind.i64).pr (K.int IntKind.i64)).st.sl.pr (((K.int IntKind.i64).pr (K.int IntKind.i64)).st.sl.pr (K.int IntKind.i64))))).st 0), (0, SO.box [SA.d K.str, SA.d (K.str.pr ((K.int IntKind.i64).pr (K.int IntKind.i64))).st.sl, SA.d (K.str.pr (((K.int IntKind.i64).pr (K.int IntKind.i64)).st.sl.pr (((K.int IntKind.i64).pr (K.int IntKind.i64)).st.sl.pr (((K.int IntKind.i64).pr (K.int IntKind.i64)).st.sl.pr (K.int IntKind.i64))))).st.sl]), (1, SO.box [SA.d (K.int IntKind.i64).sl]), (2, SO.box [SA.d K.str, SA.fx (Atom.sl 3 0 none), SA.fx (Atom.sl 4 0 none)]), (3, SO.row (K.str.pr ((K.int IntKind.i64).pr (K.int IntKind.i64))).st 0), (4, SO.row (K.str.pr (((K.int IntKind.i64).pr (K.int IntKind.i64)).st.sl.pr (((K.int IntKind.i64).pr (K.int IntKind.i64)).st.sl.pr (((K.int IntKind.i64).pr (K.int IntKind.i64)).st.sl.pr (K.int IntKind.i64))))).st 0)], nx := 11 }
def L2.x0 : Sh := { sl := [(6, SV.a (SA.fx (Atom.box 5 0))), (7, SV.a (SA.fx (Atom.box 6 0)))], os := [(5, SO.box [SA.d K.str, SA.fx (Atom.sl 7 0 none), SA.fx (Atom.sl 8 0 none)]), (6, SO.box [SA.d K.str, SA.fx (Atom.sl 9 0 none), SA.fx (Atom.sl 10 0 none)]), (7, SO.row (K.str.pr ((K.int IntKind.i64).pr (K.int IntKind.i64))).st 0), (8, SO.row (K.str.pr (((K.int IntKind.i64).pr (K.int IntKind.i64)).st.sl.pr (((K.int IntKind.i64).pr (K.int IntKind.i64)).st.sl.pr (((K.int IntKind.i64).pr (K.int IntKind.i64)).st.sl.pr (K.int IntKind.i64))))).st 0), (9, SO.row (K.str.pr ((K.int IntKind.i64).pr (K.int IntKind.i64))).st 0), (10, SO.row (K.str.pr (((K.int IntKind.i64).pr (K.int IntKind.i64)).st.sl.pr (((K.int IntKind.i64).pr (K.int IntKind.i64)).st.sl.pr (((K.int IntKind.i64).pr (K.int IntKind.i64)).st.sl.pr (K.int IntKind.i64))))).st 0), (0, SO.box [SA.d K.str, SA.d (K.str.pr ((K.int IntKind.i64).pr (K.int IntKind.i64))).st.sl, SA.d (K.str.pr (((K.int IntKind.i64).pr (K.int IntKind.i64)).st.sl.pr (((K.int IntKind.i64).pr (K.int IntKind.i64)).st.sl.pr (((K.int IntKind.i64).pr (K.int IntKind.i64)).st.sl.pr (K.int IntKind.i64))))).st.sl]), (1, SO.box [SA.d (K.int IntKind.i64).sl]), (2, SO.box [SA.d K.str, SA.fx (Atom.sl 3 0 none), SA.fx (Atom.sl 4 0 none)]), (3, SO.row (K.str.pr ((K.int IntKind.i64).pr (K.int IntKind.i64))).st 0), (4, SO.row (K.str.pr (((K.int IntKind.i64).pr (K.int IntKind.i64)).st.sl.pr (((K.int IntKind.i64).pr (K.int IntKind.i64)).st.sl.pr (((K.int IntKind.i64).pr (K.int IntKind.i64)).st.sl.pr (K.int IntKind.i64))))).st 0)], nx := 11 }
def L2.st {α : Type} (N : Nat) (x34 : (List (BA × List (Int × Int) × List (Int × Int) × List (Int × Int) × Int))) (x35 : Int) (φ : (Int → (List (BA × List (Int × Int) × List (Int × Int) × List (Int × Int) × Int)) → Option α)) (x36 : Int) (x42 : (List (BA × List (Int × Int) × List (Int × Int) × List (Int × Int) × Int))) (k0 : ((List (BA × List (Int × Int) × List (Int × Int) × List (Int × Int) × Int)) → Option α)) : Option α :=
 cond (decide (x36 < x35)) (cond (decide (0 ≤ x36) && decide (x36 < (↑x34.length : Int))) (cond (tf_clone.pre (x34.getD x36.toNat (eBA, [], [], [], 0)).snd.fst) (cond (tf_clone.pre (x34.getD x36.toNat (eBA, [], [], [], 0)).snd.snd.fst) (cond (tf_clone.pre (x34.getD x36.toNat (eBA, [], [], [], 0)).snd.snd.snd.fst) (cond (tf_clone.pre (x34.getD x36.toNat (eBA, [], [], [], 0)).snd.fst) (cond (tf_clone.pre (x34.getD x36.toNat (eBA, [], [], [], 0)).snd.snd.fst) (cond (tf_clone.pre (x34.getD x36.toNat (eBA, [], [], [], 0)).snd.snd.snd.fst) (cond ((x42.length + 1).ble mxl) (cond ((x42.length + 1).ble mxl) (φ (IntKind.i64.wrap (x36 + 1)) (x42 ++ [(tf_Start_2.spec ((x34.getD x36.toNat (eBA, [], [], [], 0)).fst, (tf_clone.spec (x34.getD x36.toNat (eBA, [], [], [], 0)).snd.fst), (tf_clone.spec (x34.getD x36.toNat (eBA, [], [], [], 0)).snd.snd.fst), (tf_clone.spec (x34.getD x36.toNat (eBA, [], [], [], 0)).snd.snd.snd.fst), (x34.getD x36.toNat (eBA, [], [], [], 0)).snd.snd.snd.snd))])) (none)) (none)) (none)) (none)) (none)) (none)) (none)) (none)) (none)) (k0 (x42))
def L2.f {α : Type} (N : Nat) (c0 : (List (BA × List (Int × Int) × List (Int × Int) × List (Int × Int) × Int))) (c1 : Int) : Nat → Int → (List (BA × List (Int × Int) × List (Int × Int) × List (Int × Int) × Int)) → ((List (BA × List (Int × Int) × List (Int × Int) × List (Int × Int) × Int)) → Option α) → Option α
 | 0, _, _, _ => none
 | n + 1, d0, d1, k0 => L2.st N c0 c1 (fun e0 e1 => L2.f N c0 c1 n e0 e1 k0) d0 d1 k0
def L2.up (d : L2.sh.T) (e0 : Int) (e1 : (List (BA × List (Int × Int) × List (Int × Int) × List (Int × Int) × Int))) : L2.sh.T := (((), ((), ((), (d.1.2.2.2.1, (d.1.2.2.2.2.1, (e0, ())))))), ((d.2.1.1, ((), ((), ()))), ((d.2.2.1.1, ((), ((), ()))), (d.2.2.2.1, (d.2.2.2.2.1, (d.2.2.2.2.2.1, (e1, ((d.2.2.2.2.2.2.2.1.1, (d.2.2.2.2.2.2.2.1.2.1, (d.2.2.2.2.2.2.2.1.2.2.1, ()))), ((d.2.2.2.2.2.2.2.2.1.1, ()), ((d.2.2.2.2.2.2.2.2.2.1.1, ((), ((), ()))), (d.2.2.2.2.2.2.2.2.2.2.1, (d.2.2.2.2.2.2.2.2.2.2.2.1, ()))))))))))))
def L2.k0 {α : Type} (d : L2.sh.T) (K : Cont α) : ((List (BA × List (Int × Int) × List (Int × Int) × List (Int × Int) × Int)) → Option α) := fun y0 => K (Exit.exit 2) (L2.x0.enc (((), ((), ())), ((d.2.1.1, ((), ((), ()))), ((d.2.2.1.1, ((), ((), ()))), (d.2.2.2.1, (d.2.2.2.2.1, (d.2.2.2.2.2.1, (y0, ((d.2.2.2.2.2.2.2.1.1, (d.2.2.2.2.2.2.2.1.2.1, (d.2.2.2.2.2.2.2.1.2.2.1, ()))), ((d.2.2.2.2.2.2.2.2.1.1, ()), ((d.2.2.2.2.2.2.2.2.2.1.1, ((), ((), ()))), (d.2.2.2.2.2.2.2.2.2.2.1, (d.2.2.2.2.2.2.2.2.2.2.2.1, ())))))))))))))
def L2.F {α : Type} (N : Nat) (d : L2.sh.T) (K : Cont α) : Option α := L2.f N d.1.2.2.2.1 d.1.2.2.2.2.1 N d.1.2.2.2.2.2.1 d.2.2.2.2.2.2.1 (L2.k0 d K)
def ents25 {α : Type} (N : Nat) : List (SmE α) := [⟨0, 50, 7, [⟨L0.sh, L0.F N⟩]⟩]
def ents35 {α : Type} (N : Nat) : List (SmE α) := [⟨5, 49, 3, [⟨L1.sh, L1.F N⟩]⟩, ⟨5, 49, 8, [⟨L2.sh, L2.F N⟩]⟩]
def C (N : Nat) : Ctx := ⟨tys, [(44, marking_Valid.fent), (53, net_Check.fent), (59, tf_Start_1.fent), (60, tf_Start_2.fent), (72, tf_clone.fent)], [(35, ⟨Tryd.f35, an35, fun α lo d r => smL (ents35 N) lo d r⟩)], N⟩
def L0.B {α : Type} (N : Nat) : Env → Cont α → Option α := evC tys 49 0 (evCall (C N) 50) (evCallQ (C N)) N an25 (smL (ents25 N) 0 50) (loopOf 7 Tryd.f25)
theorem L0.r {α : Type} (N : Nat) (φ : Env → Option α) (K : Cont α) (d : L0.sh.T) : L0.B N (L0.sh.enc d) (contL φ K (Env.norm 0 [2, 3, 4, 25, 26, 27]) (Env.norm 0 [2, 3, 4, 5])) = L0.st N d.1.2.2.2.1 d.1.2.2.2.2.1 d.2.2.1.1 (fun e0 => φ (L0.sh.enc (L0.up d e0))) d.1.2.2.2.2.2.1 (L0.k0 d K) (L0.k1 d K) := by kernel_rfl
theorem L0.e {α : Type} (N : Nat) : ∀ (n : Nat) (d : L0.sh.T) (K : Cont α), evL (L0.B N) (Env.norm 0 [2, 3, 4, 25, 26, 27]) (Env.norm 0 [2, 3, 4, 5]) n (L0.sh.enc d) K = L0.f N d.1.2.2.2.1 d.1.2.2.2.2.1 d.2.2.1.1 n d.1.2.2.2.2.2.1 (L0.k0 d K) (L0.k1 d K)
 | 0, d, K => rfl
 | n + 1, d, K => evL_contL.trans ((L0.r N _ K d).trans (congrArg (fun φ => L0.st N d.1.2.2.2.1 d.1.2.2.2.2.1 d.2.2.1.1 φ d.1.2.2.2.2.2.1 (L0.k0 d K) (L0.k1 d K)) (funext fun e0 => L0.e N n (L0.up d e0) K)))
def L1.B {α : Type} (N : Nat) : Env → Cont α → Option α := evC tys 62 5 (evCall (C N) 49) (evCallQ (C N)) N an35 (smL (ents35 N) 5 49) (loopOf 3 Tryd.f35)
theorem L1.r {α : Type} (N : Nat) (φ : Env → Option α) (K : Cont α) (d : L1.sh.T) : L1.B N (L1.sh.enc d) (contL φ K (Env.norm 5 [1, 2, 3, 6, 7, 16, 17, 18]) (Env.norm 5 [2, 3, 6, 7])) = L1.st N d.1.2.2.2.2.2.1 d.1.2.2.2.2.2.2.1 d.2.2.2.2.2.2.2.2.2.1.1 (fun e0 e1 => φ (L1.sh.enc (L1.up d e0 e1))) d.1.2.2.2.2.2.2.2.1 d.2.2.2.2.2.2.1 (L1.k0 d K) := by kernel_rfl
theorem L1.e {α : Type} (N : Nat) : ∀ (n : Nat) (d : L1.sh.T) (K : Cont α), evL (L1.B N) (Env.norm 5 [1, 2, 3, 6, 7, 16, 17, 18]) (Env.norm 5 [2, 3, 6, 7]) n (L1.sh.enc d) K = L1.f N d.1.2.2.2.2.2.1 d.1.2.2.2.2.2.2.1 d.2.2.2.2.2.2.2.2.2.1.1 n d.1.2.2.2.2.2.2.2.1 d.2.2.2.2.2.2.1 (L1.k0 d K)
 | 0, d, K => rfl
 | n + 1, d, K => evL_contL.trans ((L1.r N _ K d).trans (congrArg (fun φ => L1.st N d.1.2.2.2.2.2.1 d.1.2.2.2.2.2.2.1 d.2.2.2.2.2.2.2.2.2.1.1 φ d.1.2.2.2.2.2.2.2.1 d.2.2.2.2.2.2.1 (L1.k0 d K)) (funext fun e0 => funext fun e1 => L1.e N n (L1.up d e0 e1) K)))
def L2.B {α : Type} (N : Nat) : Env → Cont α → Option α := evC tys 62 5 (evCall (C N) 49) (evCallQ (C N)) N an35 (smL (ents35 N) 5 49) (loopOf 8 Tryd.f35)
theorem L2.r {α : Type} (N : Nat) (φ : Env → Option α) (K : Cont α) (d : L2.sh.T) : L2.B N (L2.sh.enc d) (contL φ K (Env.norm 5 [2, 6, 7, 34, 35, 36]) (Env.norm 5 [6, 7])) = L2.st N d.1.2.2.2.1 d.1.2.2.2.2.1 (fun e0 e1 => φ (L2.sh.enc (L2.up d e0 e1))) d.1.2.2.2.2.2.1 d.2.2.2.2.2.2.1 (L2.k0 d K) := by kernel_rfl
theorem L2.e {α : Type} (N : Nat) : ∀ (n : Nat) (d : L2.sh.T) (K : Cont α), evL (L2.B N) (Env.norm 5 [2, 6, 7, 34, 35, 36]) (Env.norm 5 [6, 7]) n (L2.sh.enc d) K = L2.f N d.1.2.2.2.1 d.1.2.2.2.2.1 n d.1.2.2.2.2.2.1 d.2.2.2.2.2.2.1 (L2.k0 d K)
 | 0, d, K => rfl
 | n + 1, d, K => evL_contL.trans ((L2.r N _ K d).trans (congrArg (fun φ => L2.st N d.1.2.2.2.1 d.1.2.2.2.2.1 φ d.1.2.2.2.2.2.1 d.2.2.2.2.2.2.1 (L2.k0 d K)) (funext fun e0 => funext fun e1 => L2.e N n (L2.up d e0 e1) K)))
theorem ents25_ok {α : Type} (N : Nat) : AllP (EntOk (C N) Tryd.f25 an25 (ents25 (α := α) N)) (ents25 N) := ⟨entOk_of (b0 := loopOf 7 Tryd.f25) (li0 := [2, 3, 4, 25, 26, 27]) (lx0 := [2, 3, 4, 5]) (by kernel_rfl) (by kernel_rfl) ⟨fun d K => L0.e N N d K, trivial⟩, trivial⟩
theorem ents35_ok {α : Type} (N : Nat) : AllP (EntOk (C N) Tryd.f35 an35 (ents35 (α := α) N)) (ents35 N) := ⟨entOk_of (b0 := loopOf 3 Tryd.f35) (li0 := [1, 2, 3, 6, 7, 16, 17, 18]) (lx0 := [2, 3, 6, 7]) (by kernel_rfl) (by kernel_rfl) ⟨fun d K => L1.e N N d K, trivial⟩, entOk_of (b0 := loopOf 8 Tryd.f35) (li0 := [2, 6, 7, 34, 35, 36]) (lx0 := [6, 7]) (by kernel_rfl) (by kernel_rfl) ⟨fun d K => L2.e N N d K, trivial⟩, trivial⟩
def g {α : Type} (N : Nat) (a0 : BA × List (BA × Int × Int) × List (BA × List (Int × Int) × List (Int × Int) × List (Int × Int) × Int)) (a1 : List Int) (kr : ((BA × List (BA × Int × Int) × List (BA × List (Int × Int) × List (Int × Int) × List (Int × Int) × Int)) → Int → Option α)) : Option α :=
 cond ((net_Check.spec a0).fst != 0) (kr (((ByteArray.mk (#[])), [], [])) ((net_Check.spec a0).fst)) (cond (!(marking_Valid.spec a1 (↑(List.length a0.snd.fst) : Int))) (kr (((ByteArray.mk (#[])), [], [])) (10)) (L0.f N (a0.snd.fst) ((↑(List.length a0.snd.fst) : Int)) (a1) N (0) (fun x10 x11 x12 x13 => kr ((x11, x12, x13)) (x10)) (L1.f N (a0.snd.fst) ((↑(List.length a0.snd.fst) : Int)) (a1) N (0) ([]) (fun x33 => L2.f N (a0.snd.snd) ((↑(List.length a0.snd.snd) : Int)) N (0) ([]) (fun x50 => kr ((a0.fst, x33, x50)) (0))))))
theorem eq (N : Nat) (a0 : BA × List (BA × Int × Int) × List (BA × List (Int × Int) × List (Int × Int) × List (Int × Int) × Int)) (a1 : List Int) : evF (C N) 50 Tryd.f25 an25 (smL (ents25 N) 0 50) [((.st (.pr (.str) (.pr (.sl (.st (.pr (.str) (.pr (.int .i64) (.int .i64))))) (.sl (.st (.pr (.str) (.pr (.sl (.st (.pr (.int .i64) (.int .i64)))) (.pr (.sl (.st (.pr (.int .i64) (.int .i64)))) (.pr (.sl (.st (.pr (.int .i64) (.int .i64)))) (.int .i64))))))))) : K), false), ((.int .i64 : K), false)] [⟨.st (.pr (.str) (.pr (.sl (.st (.pr (.str) (.pr (.int .i64) (.int .i64))))) (.sl (.st (.pr (.str) (.pr (.sl (.st (.pr (.int .i64) (.int .i64)))) (.pr (.sl (.st (.pr (.int .i64) (.int .i64)))) (.pr (.sl (.st (.pr (.int .i64) (.int .i64)))) (.int .i64))))))))), a0⟩, ⟨.sl (.int .i64), a1⟩] = g N a0 a1 (fun r0 r1 => some [.dat ((K.str.pr ((K.str.pr ((K.int IntKind.i64).pr (K.int IntKind.i64))).st.sl.pr (K.str.pr (((K.int IntKind.i64).pr (K.int IntKind.i64)).st.sl.pr (((K.int IntKind.i64).pr (K.int IntKind.i64)).st.sl.pr (((K.int IntKind.i64).pr (K.int IntKind.i64)).st.sl.pr (K.int IntKind.i64))))).st.sl)).st) r0, .dat (K.int IntKind.i64) r1]) := by kernel_rfl
theorem ctxOk (N : Nat) : CtxOk P (C N) := ctxOk_of tysOk mixedOk ⟨marking_Valid.ok, net_Check.ok, tf_Start_1.ok, tf_Start_2.ok, tf_clone.ok, trivial⟩ ⟨⟨⟨by rfl, by kernel_rfl⟩, fun α lo d c hc => smL_ok (ents35_ok N) lo d hc⟩, trivial⟩
theorem calls (N : Nat) (a0 : BA × List (BA × Int × Int) × List (BA × List (Int × Int) × List (Int × Int) × List (Int × Int) × Int)) (a1 : List Int) {rs : List Rs} (h : g N a0 a1 (fun r0 r1 => some [.dat ((K.str.pr ((K.str.pr ((K.int IntKind.i64).pr (K.int IntKind.i64))).st.sl.pr (K.str.pr (((K.int IntKind.i64).pr (K.int IntKind.i64)).st.sl.pr (((K.int IntKind.i64).pr (K.int IntKind.i64)).st.sl.pr (((K.int IntKind.i64).pr (K.int IntKind.i64)).st.sl.pr (K.int IntKind.i64))))).st.sl)).st) r0, .dat (K.int IntKind.i64) r1]) = some rs) : CallsTo P 25 [⟨.st (.pr (.str) (.pr (.sl (.st (.pr (.str) (.pr (.int .i64) (.int .i64))))) (.sl (.st (.pr (.str) (.pr (.sl (.st (.pr (.int .i64) (.int .i64)))) (.pr (.sl (.st (.pr (.int .i64) (.int .i64)))) (.pr (.sl (.st (.pr (.int .i64) (.int .i64)))) (.int .i64))))))))), a0⟩, ⟨.sl (.int .i64), a1⟩] rs := evF_calls' (ctxOk N) (by rfl) (ents25_ok N) ((eq N a0 a1).trans h)
def L0.l {α : Type} (N : Nat) (x0 : (List (BA × Int × Int))) (x6 : (List Int)) (k0 : (Int → BA → (List (BA × Int × Int)) → (List (BA × List (Int × Int) × List (Int × Int) × List (Int × Int) × Int)) → Option α)) (k1 : Option α) : List (BA × Int × Int) → Int → Option α
 | [], x2 => k1 
 | x :: l, x2 => (cond (x.snd.snd != 0) (cond (decide (0 ≤ x2) && decide (x2 < (↑x6.length : Int))) (cond (decide (x.snd.snd < x6.getD x2.toNat (0 : Int))) (k0 (10) ((ByteArray.mk (#[]))) ([]) ([])) (L0.l N x0 x6 k0 k1 l (x2 + 1))) (none)) (L0.l N x0 x6 k0 k1 l (x2 + 1)))
theorem L0.rng {α : Type} {N : Nat} (x0 : (List (BA × Int × Int))) (x6 : (List Int)) (hl : x0.length ≤ maxLen) (k0 : (Int → BA → (List (BA × Int × Int)) → (List (BA × List (Int × Int) × List (Int × Int) × List (Int × Int) × Int)) → Option α)) (k1 : Option α) : ∀ (n j : Nat), x0.length < n + j → j ≤ x0.length → L0.f N x0 (x0.length : Int) x6 n (j : Int) k0 k1 = L0.l N x0 x6 k0 k1 (x0.drop j) (j : Int) :=
 rng0 x0 hl (fun n i => L0.f N x0 (x0.length : Int) x6 n i k0 k1) (fun l i => L0.l N x0 x6 k0 k1 l i) (fun n j hj h ih => by simp only [L0.f, L0.st, L0.l, h.a, h.b, h.c, h.d, h.e, Bool.true_and, Bool.and_true, Bool.and_self, cond_true, ih] <;> rfl) (fun n j h => by simp only [L0.f, L0.st, L0.l, h, cond_false])
def L1.l {α : Type} (N : Nat) (x14 : (List (BA × Int × Int))) (x29 : (List Int)) (k0 : ((List (BA × Int × Int)) → Option α)) : List (BA × Int × Int) → Int → (List (BA × Int × Int)) → Option α
 | [], x16, x24 => k0 (x24)
 | x :: l, x16, x24 => (cond (tf_Start_1.pre x16 x x29) (cond ((x24.length + 1).ble mxl) (cond (tf_Start_1.pre x16 x x29) (cond ((x24.length + 1).ble mxl) (L1.l N x14 x29 k0 l (x16 + 1) (x24 ++ [(tf_Start_1.spec x16 x x29)])) (none)) (none)) (none)) (none))
theorem L1.rng {α : Type} {N : Nat} (x14 : (List (BA × Int × Int))) (x29 : (List Int)) (hl : x14.length ≤ maxLen) (k0 : ((List (BA × Int × Int)) → Option α)) : ∀ (n j : Nat) (x24 : (List (BA × Int × Int))), x14.length < n + j → j ≤ x14.length → L1.f N x14 (x14.length : Int) x29 n (j : Int) x24 k0 = L1.l N x14 x29 k0 (x14.drop j) (j : Int) x24 :=
 rng1 x14 hl (fun n i x24 => L1.f N x14 (x14.length : Int) x29 n i x24 k0) (fun l i x24 => L1.l N x14 x29 k0 l i x24) (fun n j hj h ih x24 => by simp only [L1.f, L1.st, L1.l, h.a, h.b, h.c, h.d, h.e, Bool.true_and, Bool.and_true, Bool.and_self, cond_true, ih] <;> rfl) (fun n j h x24 => by simp only [L1.f, L1.st, L1.l, h, cond_false])
def L2.l {α : Type} (N : Nat) (x34 : (List (BA × List (Int × Int) × List (Int × Int) × List (Int × Int) × Int))) (k0 : ((List (BA × List (Int × Int) × List (Int × Int) × List (Int × Int) × Int)) → Option α)) : List (BA × List (Int × Int) × List (Int × Int) × List (Int × Int) × Int) → Int → (List (BA × List (Int × Int) × List (Int × Int) × List (Int × Int) × Int)) → Option α
 | [], x36, x42 => k0 (x42)
 | x :: l, x36, x42 => (cond (tf_clone.pre x.snd.fst) (cond (tf_clone.pre x.snd.snd.fst) (cond (tf_clone.pre x.snd.snd.snd.fst) (cond (tf_clone.pre x.snd.fst) (cond (tf_clone.pre x.snd.snd.fst) (cond (tf_clone.pre x.snd.snd.snd.fst) (cond ((x42.length + 1).ble mxl) (cond ((x42.length + 1).ble mxl) (L2.l N x34 k0 l (x36 + 1) (x42 ++ [(tf_Start_2.spec (x.fst, (tf_clone.spec x.snd.fst), (tf_clone.spec x.snd.snd.fst), (tf_clone.spec x.snd.snd.snd.fst), x.snd.snd.snd.snd))])) (none)) (none)) (none)) (none)) (none)) (none)) (none)) (none))
theorem L2.rng {α : Type} {N : Nat} (x34 : (List (BA × List (Int × Int) × List (Int × Int) × List (Int × Int) × Int))) (hl : x34.length ≤ maxLen) (k0 : ((List (BA × List (Int × Int) × List (Int × Int) × List (Int × Int) × Int)) → Option α)) : ∀ (n j : Nat) (x42 : (List (BA × List (Int × Int) × List (Int × Int) × List (Int × Int) × Int))), x34.length < n + j → j ≤ x34.length → L2.f N x34 (x34.length : Int) n (j : Int) x42 k0 = L2.l N x34 k0 (x34.drop j) (j : Int) x42 :=
 rng1 x34 hl (fun n i x42 => L2.f N x34 (x34.length : Int) n i x42 k0) (fun l i x42 => L2.l N x34 k0 l i x42) (fun n j hj h ih x42 => by simp only [L2.f, L2.st, L2.l, h.a, h.b, h.c, h.d, h.e, Bool.true_and, Bool.and_true, Bool.and_self, cond_true, ih] <;> rfl) (fun n j h x42 => by simp only [L2.f, L2.st, L2.l, h, cond_false])
end tf_Start
theorem tf_Start.L0.law {α : Type} {N : Nat} (x0 : (List (BA × Int × Int))) (x6 : (List Int)) (k0 : (Int → BA → (List (BA × Int × Int)) → (List (BA × List (Int × Int) × List (Int × Int) × List (Int × Int) × Int)) → Option α)) (k1 : Option α) : ∀ (l : List PlaceT) (j : Nat), l.length = (x6.drop j).length → tf_Start.L0.l N x0 x6 k0 k1 l (j : Int) = cond ((l.zip (x6.drop j)).any fun q => !(q.1.2.2 == 0) && decide (q.1.2.2 < q.2)) (k0 10 ⟨#[]⟩ [] []) k1
 | [], j, h => rfl
 | x :: l, j, h => by
  have hj : j < x6.length := by simp at h; omega
  rw [tf_Start.L0.l, d_0, d_lt hj, getD_at hj, ← succ_cast, tf_Start.L0.law _ _ _ _ l (j + 1) (by simp at h ⊢; omega), List.drop_eq_getElem_cons hj, List.zip_cons_cons, List.any_cons]
  simp only [bne]
  cases (x.2.2 == 0)
  ·
   cases decide (x.2.2 < x6[j]) <;> rfl
  ·
   rfl
theorem tf_Start.L1.law {α : Type} {N : Nat} (x14 : (List (BA × Int × Int))) (x29 : (List Int)) (k0 : ((List (BA × Int × Int)) → Option α)) : ∀ (l : List PlaceT) (j : Nat) (acc : List PlaceT), acc.length + l.length ≤ 1000 → l.length = (x29.drop j).length → tf_Start.L1.l N x14 x29 k0 l (j : Int) acc = k0 (acc ++ List.zipWith (fun p k => (p.1, k, p.2.2)) l (x29.drop j))
 | [], j, acc, _, h => by rw [tf_Start.L1.l]; simp
 | x :: l, j, acc, h0, h => by
  simp only [List.length_cons] at h0
  have hj : j < x29.length := by simp at h; omega
  have hp : ∀ p, tf_Start_1.pre (j : Int) p x29 = true := fun p => by unfold tf_Start_1.pre; rw [d_0, d_lt hj]; rfl
  rw [tf_Start.L1.l]
  simp only [hp, cond_true]
  rw [ble1 _ (by omega)]
  simp only [cond_true]
  rw [← succ_cast, tf_Start.L1.law _ _ _ l (j + 1) _ (by simp; omega) (by simp at h ⊢; omega), List.append_assoc, List.drop_eq_getElem_cons hj, List.zipWith_cons_cons]
  unfold tf_Start_1.spec
  rw [getD_at hj]
  rfl
theorem tf_Start.L2.law {α : Type} {N : Nat} (x34 : (List (BA × List (Int × Int) × List (Int × Int) × List (Int × Int) × Int))) (k0 : ((List (BA × List (Int × Int) × List (Int × Int) × List (Int × Int) × Int)) → Option α)) : ∀ (l : List TransT) (j : Int) (acc : List TransT), acc.length + l.length ≤ 1000 → (∀ t ∈ l, BigT t) → tf_Start.L2.l N x34 k0 l j acc = k0 (acc ++ l)
 | [], j, acc, _, h => by rw [tf_Start.L2.l, List.append_nil]
 | x :: l, j, acc, h0, h => by
  simp only [List.length_cons] at h0
  obtain ⟨h1, h2, h3⟩ := h x (by simp)
  rw [tf_Start.L2.l]
  simp only [tf_clone.pre, h1, h2, h3, cond_true]
  rw [ble1 _ (by omega)]
  simp only [cond_true]
  rw [tf_Start.L2.law _ _ l _ _ (by simp; omega) (fun t ht => h t (by simp [ht])), List.append_assoc]
  rfl
theorem tf_Start.law {α : Type} {N : Nat} (hN : 18446744073709551616 ≤ N) (a0 : BA × (List (BA × Int × Int)) × List (BA × (List (Int × Int)) × (List (Int × Int)) × (List (Int × Int)) × Int)) (a1 : List Int) (w0 : K.wf (.st (.pr (.str) (.pr (.sl (.st (.pr (.str) (.pr (.int .i64) (.int .i64))))) (.sl (.st (.pr (.str) (.pr (.sl (.st (.pr (.int .i64) (.int .i64)))) (.pr (.sl (.st (.pr (.int .i64) (.int .i64)))) (.pr (.sl (.st (.pr (.int .i64) (.int .i64)))) (.int .i64)))))))))) a0) (w1 : K.wf (.sl (.int .i64)) a1) (kr : ((BA × (List (BA × Int × Int)) × List (BA × (List (Int × Int)) × (List (Int × Int)) × (List (Int × Int)) × Int)) → Int → Option α)) : tf_Start.g N a0 a1 kr = kr (tf_Start.spec a0 a1).1 (tf_Start.spec a0 a1).2 := by
 unfold tf_Start.g tf_Start.spec startE
 simp only [net_Check.spec, bne, checkN_eta]
 cases hc : (checkN a0).1 == 0
 ·
  rfl
 have hv := checkN_t.1 hc
 simp only [Bool.not_true, cond_false, cond_true]
 cases hm : marking_Valid.spec a1 ((List.length a0.2.1 : Nat) : Int)
 ·
  rfl
 have hlen : a0.2.1.length = a1.length := by
  unfold marking_Valid.spec at hm
  simp only [Bool.and_eq_true, decide_eq_true_eq] at hm
  omega
 have hnp := hv.np
 have hnt := hv.nt
 simp only [Bool.not_true, cond_false, cond_true]
 refine (tf_Start.L0.rng (N := N) _ _ (w0.2.1.1) _ _ N 0  (by have := le_fuel (w0.2.1.1) hN; omega) (Nat.zero_le _)).trans ?_
 refine (tf_Start.L0.law _ _ _ _ _ 0 (by simpa using hlen)).trans ?_
 simp only [List.drop_zero]
 unfold over
 cases (List.any (List.zip a0.2.1 a1) _)
 ·
  simp only [cond_false]
  refine (tf_Start.L1.rng (N := N) _ _ (w0.2.1.1) _ N 0 _ (by have := le_fuel (w0.2.1.1) hN; omega) (Nat.zero_le _)).trans ?_
  refine (tf_Start.L1.law _ _ _ _ 0 _ (by simp; omega) (by simpa using hlen)).trans ?_
  simp only [List.drop_zero]
  refine (tf_Start.L2.rng (N := N) _ (w0.2.2.1) _ N 0 _ (by have := le_fuel (w0.2.2.1) hN; omega) (Nat.zero_le _)).trans ?_
  refine (tf_Start.L2.law _ _ _ _ _ (by simp; omega) (by simpa using hv.big)).trans ?_
  rfl
 ·
  rfl
theorem tf_Start.ok : FentOk P 25 tf_Start.fent := fentOk_of (by kernel_rfl) fun ds hk => by
 obtain ⟨a0, l0, rfl, h0⟩ := ds_cons hk
 obtain ⟨a1, l1, rfl, h1⟩ := ds_cons h0
 obtain rfl := ds0 h1
 exact ⟨true, [.dat (.st (.pr (.str) (.pr (.sl (.st (.pr (.str) (.pr (.int .i64) (.int .i64))))) (.sl (.st (.pr (.str) (.pr (.sl (.st (.pr (.int .i64) (.int .i64)))) (.pr (.sl (.st (.pr (.int .i64) (.int .i64)))) (.pr (.sl (.st (.pr (.int .i64) (.int .i64)))) (.int .i64)))))))))) (tf_Start.spec a0 a1).1, .dat (.int .i64) (tf_Start.spec a0 a1).2], fun h hw => tf_Start.calls 18446744073709551616 a0 a1 (tf_Start.law (Nat.le_refl _) a0 a1 hw.1 hw.2.1 _), fun α k => rfl⟩
end Go.VI
namespace Go.VI
open Go Go.Proofs
namespace tf_shift
def an65 : Ann := [(3, [1, 5, 10, 11], [5])]
def L0.sh : Sh := { sl := [(1, SV.a (SA.d (K.int IntKind.i64))), (5, SV.a (SA.fx (Atom.sl 0 0 none))), (10, SV.a (SA.d (K.int IntKind.i64))), (11, SV.a (SA.d (K.int IntKind.i64)))], os := [(0, SO.row ((K.int IntKind.i64).pr (K.int IntKind.i64)).st 0)], nx := 1 }
def L0.x0 : Sh := { sl := [(5, SV.a (SA.fx (Atom.sl 0 0 none)))], os := [(0, SO.row ((K.int IntKind.i64).pr (K.int IntKind.i64)).st 0)], nx := 1 }
def L0.st {α : Type} (N : Nat) (x0 : Int) (x1 : Int) (φ : (Int → (List (Int × Int)) → Option α)) (x2 : Int) (x3 : (List (Int × Int))) (k0 : ((List (Int × Int)) → Option α)) : Option α :=
 cond (decide (x2 < x1)) (cond (decide (0 ≤ x2) && decide (x2 < (↑x3.length : Int))) (cond (decide (0 ≤ x2) && decide (x2 < (↑x3.length : Int))) (φ (IntKind.i64.wrap (x2 + 1)) (x3.set (0 + x2.toNat) (IntKind.i64.wrap ((x3.getD (0 + x2.toNat) ((0 : Int), (0 : Int))).fst + x0), (x3.getD (0 + x2.toNat) ((0 : Int), (0 : Int))).snd))) (none)) (none)) (k0 (x3))
def L0.f {α : Type} (N : Nat) (c0 : Int) (c1 : Int) : Nat → Int → (List (Int × Int)) → ((List (Int × Int)) → Option α) → Option α
 | 0, _, _, _ => none
 | n + 1, d0, d1, k0 => L0.st N c0 c1 (fun e0 e1 => L0.f N c0 c1 n e0 e1 k0) d0 d1 k0
def L0.up (d : L0.sh.T) (e0 : Int) (e1 : (List (Int × Int))) : L0.sh.T := ((d.1.1, ((), (d.1.2.2.1, (e0, ())))), (e1, ()))
def L0.k0 {α : Type} (d : L0.sh.T) (K : Cont α) : ((List (Int × Int)) → Option α) := fun y0 => K (Exit.exit 0) (L0.x0.enc (((), ()), (y0, ())))
def L0.F {α : Type} (N : Nat) (d : L0.sh.T) (K : Cont α) : Option α := L0.f N d.1.1 d.1.2.2.1 N d.1.2.2.2.1 d.2.1 (L0.k0 d K)
def ents65 {α : Type} (N : Nat) : List (SmE α) := [⟨0, 50, 3, [⟨L0.sh, L0.F N⟩]⟩]
def C (N : Nat) : Ctx := ⟨tys, [(72, tf_clone.fent)], [], N⟩
def L0.B {α : Type} (N : Nat) : Env → Cont α → Option α := evC tys 25 0 (evCall (C N) 50) (evCallQ (C N)) N an65 (smL (ents65 N) 0 50) (loopOf 3 Tryd.f65)
theorem L0.r {α : Type} (N : Nat) (φ : Env → Option α) (K : Cont α) (d : L0.sh.T) : L0.B N (L0.sh.enc d) (contL φ K (Env.norm 0 [1, 5, 10, 11]) (Env.norm 0 [5])) = L0.st N d.1.1 d.1.2.2.1 (fun e0 e1 => φ (L0.sh.enc (L0.up d e0 e1))) d.1.2.2.2.1 d.2.1 (L0.k0 d K) := by kernel_rfl
theorem L0.e {α : Type} (N : Nat) : ∀ (n : Nat) (d : L0.sh.T) (K : Cont α), evL (L0.B N) (Env.norm 0 [1, 5, 10, 11]) (Env.norm 0 [5]) n (L0.sh.enc d) K = L0.f N d.1.1 d.1.2.2.1 n d.1.2.2.2.1 d.2.1 (L0.k0 d K)
 | 0, d, K => rfl
 | n + 1, d, K => evL_contL.trans ((L0.r N _ K d).trans (congrArg (fun φ => L0.st N d.1.1 d.1.2.2.1 φ d.1.2.2.2.1 d.2.1 (L0.k0 d K)) (funext fun e0 => funext fun e1 => L0.e N n (L0.up d e0 e1) K)))
theorem ents65_ok {α : Type} (N : Nat) : AllP (EntOk (C N) Tryd.f65 an65 (ents65 (α := α) N)) (ents65 N) := ⟨entOk_of (b0 := loopOf 3 Tryd.f65) (li0 := [1, 5, 10, 11]) (lx0 := [5]) (by kernel_rfl) (by kernel_rfl) ⟨fun d K => L0.e N N d K, trivial⟩, trivial⟩
def g {α : Type} (N : Nat) (a0 : List (Int × Int)) (a1 : Int) (kr : ((List (Int × Int)) → Option α)) : Option α :=
 cond (tf_clone.pre a0) (L0.f N (a1) ((↑(tf_clone.spec a0).length : Int)) N (0) ((tf_clone.spec a0)) (fun x4 => kr (x4))) (none)
theorem eq (N : Nat) (a0 : List (Int × Int)) (a1 : Int) : evF (C N) 50 Tryd.f65 an65 (smL (ents65 N) 0 50) [(((.st (.pr (.int .i64) (.int .i64))) : K), true)] [⟨.sl (.st (.pr (.int .i64) (.int .i64))), a0⟩, ⟨.int .i64, a1⟩] = g N a0 a1 (fun r0 => some [.own (((K.int IntKind.i64).pr (K.int IntKind.i64)).st) r0]) := by kernel_rfl
theorem ctxOk (N : Nat) : CtxOk P (C N) := ctxOk_of tysOk mixedOk ⟨tf_clone.ok, trivial⟩ trivial
theorem calls (N : Nat) (a0 : List (Int × Int)) (a1 : Int) {rs : List Rs} (h : g N a0 a1 (fun r0 => some [.own (((K.int IntKind.i64).pr (K.int IntKind.i64)).st) r0]) = some rs) : CallsTo P 65 [⟨.sl (.st (.pr (.int .i64) (.int .i64))), a0⟩, ⟨.int .i64, a1⟩] rs := evF_calls' (ctxOk N) (by rfl) (ents65_ok N) ((eq N a0 a1).trans h)
end tf_shift
theorem tf_shift.L0.law {α : Type} {N : Nat} (k : Int) (k0 : List (Int × Int) → Option α) : ∀ (l acc : List (Int × Int)) (n : Nat), l.length < n → acc.length + l.length ≤ 1073741824 →
  tf_shift.L0.f N k ((acc.length + l.length : Nat) : Int) n ((acc.length : Nat) : Int) (shiftL acc k ++ l) k0 = k0 (shiftL (acc ++ l) k)
 | l, acc, 0, h, _ => by omega
 | [], acc, n + 1, h, h2 => by
  rw [tf_shift.L0.f, tf_shift.L0.st, decide_eq_false (by simp), cond_false, List.append_nil, List.append_nil]
 | x :: l, acc, n + 1, h, h2 => by
  simp only [List.length_cons] at h h2
  have hl : (shiftL acc k).length = acc.length := by simp [shiftL]
  have e1 : decide (((acc.length : Nat) : Int) < ((acc.length + (x :: l).length : Nat) : Int)) = true := decide_eq_true (by simp only [List.length_cons]; omega)
  have e2 : decide (0 ≤ ((acc.length : Nat) : Int)) = true := d_0 _
  have e3 : decide (((acc.length : Nat) : Int) < (((shiftL acc k ++ x :: l).length : Nat) : Int)) = true := decide_eq_true (by rw [List.length_append, hl]; simp only [List.length_cons]; omega)
  rw [tf_shift.L0.f, tf_shift.L0.st, e1, e2, e3]
  simp only [cond_true, Bool.and_self]
  rw [Int.toNat_natCast, Nat.zero_add]
  have hg : (shiftL acc k ++ x :: l).getD acc.length (0, 0) = x := by
   rw [List.getD_eq_getElem?_getD, List.getElem?_append_right (by omega), hl]
   simp
  have hs : ∀ y, (shiftL acc k ++ x :: l).set acc.length y = shiftL acc k ++ y :: l := fun y => set_mid _ _ _ _ hl
  rw [hg, hs, wrap_i64 (inI_i64.2 (by omega : -9223372036854775808 ≤ ((acc.length : Nat) : Int) + 1 ∧ ((acc.length : Nat) : Int) + 1 ≤ 9223372036854775807))]
  have := tf_shift.L0.law (N := N) k k0 l (acc ++ [x]) n (by omega) (by simp; omega)
  have e5 : shiftL (acc ++ [x]) k ++ l = shiftL acc k ++ (IntKind.i64.wrap (x.1 + k), x.2) :: l := by simp [shiftL]
  rw [e5, List.append_assoc, List.singleton_append] at this
  rw [← this]
  have e6 : (((acc ++ [x]).length + l.length : Nat) : Int) = ((acc.length + (x :: l).length : Nat) : Int) := by simp; omega
  have e7 : (((acc ++ [x]).length : Nat) : Int) = ((acc.length : Nat) : Int) + 1 := by simp
  rw [e6, e7]
theorem tf_shift.law {α : Type} {N : Nat} (hN : 18446744073709551616 ≤ N) (a0 : List (Int × Int)) (a1 : Int) (w0 : K.wf (.sl (.st (.pr (.int .i64) (.int .i64)))) a0) (w1 : K.wf (.int .i64) a1) (hp : tf_shift.pre a0 a1 = true) (kr : ((List (Int × Int)) → Option α)) : tf_shift.g N a0 a1 kr = kr (tf_shift.spec a0 a1) := by
 have hp' : a0.length ≤ 1073741824 := of_decide_eq_true hp
 unfold tf_shift.g tf_shift.spec
 rw [show tf_clone.pre a0 = true from hp, cond_true]
 have := tf_shift.L0.law (N := N) a1 (fun x => kr x) a0 [] N (by have := le_fuel w0.1 hN; omega) (by simpa using hp')
 simpa [shiftL, tf_clone.spec] using this
theorem tf_shift.ok : FentOk P 65 tf_shift.fent := fentOk_of (by kernel_rfl) fun ds hk => by
 obtain ⟨a0, l0, rfl, h0⟩ := ds_cons hk
 obtain ⟨a1, l1, rfl, h1⟩ := ds_cons h0
 obtain rfl := ds0 h1
 exact ⟨tf_shift.pre a0 a1, [.own (.st (.pr (.int .i64) (.int .i64))) (tf_shift.spec a0 a1)], fun h hw => tf_shift.calls 18446744073709551616 a0 a1 (tf_shift.law (Nat.le_refl _) a0 a1 hw.1 hw.2.1 h _), fun α k => rfl⟩
end Go.VI
namespace Go.VI
open Go Go.Proofs
namespace net_Place
def an62 : Ann := [(4, [1, 11, 12, 13], [4])]
def L0.sh : Sh := { sl := [(1, SV.a (SA.d K.str)), (11, SV.a (SA.d (K.str.pr ((K.int IntKind.i64).pr (K.int IntKind.i64))).st.sl)), (12, SV.a (SA.d (K.int IntKind.i64))), (13, SV.a (SA.d (K.int IntKind.i64)))], os := [], nx := 0 }
def L0.x0 : Sh := { sl := [(4, SV.a (SA.d (K.int IntKind.i64)))], os := [], nx := 0 }
def L0.x1 : Sh := { sl := [(4, SV.j)], os := [], nx := 0 }
def L0.st {α : Type} (N : Nat) (x0 : BA) (x1 : (List (BA × Int × Int))) (x2 : Int) (φ : (Int → Option α)) (x3 : Int) (k0 : (Int → Option α)) (k1 : Option α) : Option α :=
 cond (decide (x3 < x2)) (cond (decide (0 ≤ x3) && decide (x3 < (↑x1.length : Int))) (cond (sEq (x1.getD x3.toNat (eBA, 0, 0)).fst x0) (k0 (x3)) (φ (IntKind.i64.wrap (x3 + 1)))) (none)) (k1 )
def L0.f {α : Type} (N : Nat) (c0 : BA) (c1 : (List (BA × Int × Int))) (c2 : Int) : Nat → Int → (Int → Option α) → Option α → Option α
 | 0, _, _, _ => none
 | n + 1, d0, k0, k1 => L0.st N c0 c1 c2 (fun e0 => L0.f N c0 c1 c2 n e0 k0 k1) d0 k0 k1
def L0.up (d : L0.sh.T) (e0 : Int) : L0.sh.T := ((d.1.1, (d.1.2.1, (d.1.2.2.1, (e0, ())))), ())
def L0.k0 {α : Type} (d : L0.sh.T) (K : Cont α) : (Int → Option α) := fun y0 => K (Exit.ret) (L0.x0.enc ((y0, ()), ()))
def L0.k1 {α : Type} (d : L0.sh.T) (K : Cont α) : Option α := K (Exit.exit 0) (L0.x1.enc (((), ()), ()))
def L0.F {α : Type} (N : Nat) (d : L0.sh.T) (K : Cont α) : Option α := L0.f N d.1.1 d.1.2.1 d.1.2.2.1 N d.1.2.2.2.1 (L0.k0 d K) (L0.k1 d K)
def ents62 {α : Type} (N : Nat) : List (SmE α) := [⟨0, 50, 4, [⟨L0.sh, L0.F N⟩]⟩]
def C (N : Nat) : Ctx := ⟨tys, [(85, net_valid.fent)], [], N⟩
def L0.B {α : Type} (N : Nat) : Env → Cont α → Option α := evC tys 24 0 (evCall (C N) 50) (evCallQ (C N)) N an62 (smL (ents62 N) 0 50) (loopOf 4 Tryd.f62)
theorem L0.r {α : Type} (N : Nat) (φ : Env → Option α) (K : Cont α) (d : L0.sh.T) : L0.B N (L0.sh.enc d) (contL φ K (Env.norm 0 [1, 11, 12, 13]) (Env.norm 0 [4])) = L0.st N d.1.1 d.1.2.1 d.1.2.2.1 (fun e0 => φ (L0.sh.enc (L0.up d e0))) d.1.2.2.2.1 (L0.k0 d K) (L0.k1 d K) := by kernel_rfl
theorem L0.e {α : Type} (N : Nat) : ∀ (n : Nat) (d : L0.sh.T) (K : Cont α), evL (L0.B N) (Env.norm 0 [1, 11, 12, 13]) (Env.norm 0 [4]) n (L0.sh.enc d) K = L0.f N d.1.1 d.1.2.1 d.1.2.2.1 n d.1.2.2.2.1 (L0.k0 d K) (L0.k1 d K)
 | 0, d, K => rfl
 | n + 1, d, K => evL_contL.trans ((L0.r N _ K d).trans (congrArg (fun φ => L0.st N d.1.1 d.1.2.1 d.1.2.2.1 φ d.1.2.2.2.1 (L0.k0 d K) (L0.k1 d K)) (funext fun e0 => L0.e N n (L0.up d e0) K)))
theorem ents62_ok {α : Type} (N : Nat) : AllP (EntOk (C N) Tryd.f62 an62 (ents62 (α := α) N)) (ents62 N) := ⟨entOk_of (b0 := loopOf 4 Tryd.f62) (li0 := [1, 11, 12, 13]) (lx0 := [4]) (by kernel_rfl) (by kernel_rfl) ⟨fun d K => L0.e N N d K, trivial⟩, trivial⟩
def g {α : Type} (N : Nat) (a0 : BA × List (BA × Int × Int) × List (BA × List (Int × Int) × List (Int × Int) × List (Int × Int) × Int)) (a1 : BA) (kr : (Int → Option α)) : Option α :=
 cond (!(net_valid.spec a0)) (kr (-1)) (L0.f N (a1) (a0.snd.fst) ((↑(List.length a0.snd.fst) : Int)) N (0) (fun x4 => kr (x4)) (kr (-1)))
theorem eq (N : Nat) (a0 : BA × List (BA × Int × Int) × List (BA × List (Int × Int) × List (Int × Int) × List (Int × Int) × Int)) (a1 : BA) : evF (C N) 50 Tryd.f62 an62 (smL (ents62 N) 0 50) [((.int .i64 : K), false)] [⟨.st (.pr (.str) (.pr (.sl (.st (.pr (.str) (.pr (.int .i64) (.int .i64))))) (.sl (.st (.pr (.str) (.pr (.sl (.st (.pr (.int .i64) (.int .i64)))) (.pr (.sl (.st (.pr (.int .i64) (.int .i64)))) (.pr (.sl (.st (.pr (.int .i64) (.int .i64)))) (.int .i64))))))))), a0⟩, ⟨.str, a1⟩] = g N a0 a1 (fun r0 => some [.dat (K.int IntKind.i64) r0]) := by kernel_rfl
theorem ctxOk (N : Nat) : CtxOk P (C N) := ctxOk_of tysOk mixedOk ⟨net_valid.ok, trivial⟩ trivial
theorem calls (N : Nat) (a0 : BA × List (BA × Int × Int) × List (BA × List (Int × Int) × List (Int × Int) × List (Int × Int) × Int)) (a1 : BA) {rs : List Rs} (h : g N a0 a1 (fun r0 => some [.dat (K.int IntKind.i64) r0]) = some rs) : CallsTo P 62 [⟨.st (.pr (.str) (.pr (.sl (.st (.pr (.str) (.pr (.int .i64) (.int .i64))))) (.sl (.st (.pr (.str) (.pr (.sl (.st (.pr (.int .i64) (.int .i64)))) (.pr (.sl (.st (.pr (.int .i64) (.int .i64)))) (.pr (.sl (.st (.pr (.int .i64) (.int .i64)))) (.int .i64))))))))), a0⟩, ⟨.str, a1⟩] rs := evF_calls' (ctxOk N) (by rfl) (ents62_ok N) ((eq N a0 a1).trans h)
def L0.l {α : Type} (N : Nat) (x0 : BA) (x1 : (List (BA × Int × Int))) (k0 : (Int → Option α)) (k1 : Option α) : List (BA × Int × Int) → Int → Option α
 | [], x3 => k1 
 | x :: l, x3 => (cond (sEq x.fst x0) (k0 (x3)) (L0.l N x0 x1 k0 k1 l (x3 + 1)))
theorem L0.rng {α : Type} {N : Nat} (x0 : BA) (x1 : (List (BA × Int × Int))) (hl : x1.length ≤ maxLen) (k0 : (Int → Option α)) (k1 : Option α) : ∀ (n j : Nat), x1.length < n + j → j ≤ x1.length → L0.f N x0 x1 (x1.length : Int) n (j : Int) k0 k1 = L0.l N x0 x1 k0 k1 (x1.drop j) (j : Int) :=
 rng0 x1 hl (fun n i => L0.f N x0 x1 (x1.length : Int) n i k0 k1) (fun l i => L0.l N x0 x1 k0 k1 l i) (fun n j hj h ih => by simp only [L0.f, L0.st, L0.l, h.a, h.b, h.c, h.d, h.e, Bool.true_and, Bool.and_true, Bool.and_self, cond_true, ih] <;> rfl) (fun n j h => by simp only [L0.f, L0.st, L0.l, h, cond_false])
end net_Place
theorem net_Place.L0.law {α : Type} {N : Nat} (s : BA) (xs : List (BA × Int × Int)) (k0 : Int → Option α) : ∀ (l : List (BA × Int × Int)) (i : Int),
  net_Place.L0.l N s xs k0 (k0 (-1)) l i = k0 (firstI (fun p => sEq p.1 s) i l)
 | [], i => rfl
 | x :: l, i => by
  rw [net_Place.L0.l, net_Place.L0.law s xs k0 l, firstI]
  cases sEq x.1 s <;> rfl
theorem net_Place.law {α : Type} {N : Nat} (hN : 18446744073709551616 ≤ N) (a0 : BA × (List (BA × Int × Int)) × List (BA × (List (Int × Int)) × (List (Int × Int)) × (List (Int × Int)) × Int)) (a1 : BA) (w0 : K.wf (.st (.pr (.str) (.pr (.sl (.st (.pr (.str) (.pr (.int .i64) (.int .i64))))) (.sl (.st (.pr (.str) (.pr (.sl (.st (.pr (.int .i64) (.int .i64)))) (.pr (.sl (.st (.pr (.int .i64) (.int .i64)))) (.pr (.sl (.st (.pr (.int .i64) (.int .i64)))) (.int .i64)))))))))) a0) (w1 : K.wf (.str) a1) (kr : (Int → Option α)) : net_Place.g N a0 a1 kr = kr (net_Place.spec a0 a1) := by
 unfold net_Place.g net_Place.spec placeI
 simp only [net_valid.spec]
 cases (checkN a0).1 == 0
 ·
  rfl
 ·
  simp only [cond_true]
  refine (net_Place.L0.rng (N := N) a1 a0.2.1 w0.2.1.1 (fun x => kr x) (kr (-1)) N 0 (by have := le_fuel w0.2.1.1 hN; omega) (Nat.zero_le _)).trans ?_
  rw [List.drop_zero]
  exact net_Place.L0.law a1 a0.2.1 (fun x => kr x) a0.2.1 0
theorem net_Place.ok : FentOk P 62 net_Place.fent := fentOk_of (by kernel_rfl) fun ds hk => by
 obtain ⟨a0, l0, rfl, h0⟩ := ds_cons hk
 obtain ⟨a1, l1, rfl, h1⟩ := ds_cons h0
 obtain rfl := ds0 h1
 exact ⟨true, [.dat (.int .i64) (net_Place.spec a0 a1)], fun h hw => net_Place.calls 18446744073709551616 a0 a1 (net_Place.law (Nat.le_refl _) a0 a1 hw.1 hw.2.1 _), fun α k => rfl⟩
end Go.VI
namespace Go.VI
open Go Go.Proofs
namespace net_Trans
def an63 : Ann := [(4, [1, 11, 12, 13], [4])]
def L0.sh : Sh := { sl := [(1, SV.a (SA.d K.str)), (11, SV.a (SA.d (K.str.pr (((K.int IntKind.i64).pr (K.int IntKind.i64)).st.sl.pr (((K.int IntKind.i64).pr (K.int IntKind.i64)).st.sl.pr (((K.int IntKind.i64).pr (K.int IntKind.i64)).st.sl.pr (K.int IntKind.i64))))).st.sl)), (12, SV.a (SA.d (K.int IntKind.i64))), (13, SV.a (SA.d (K.int IntKind.i64)))], os := [], nx := 0 }
def L0.x0 : Sh := { sl := [(4, SV.a (SA.d (K.int IntKind.i64)))], os := [], nx := 0 }
def L0.x1 : Sh := { sl := [(4, SV.j)], os := [], nx := 0 }
def L0.st {α : Type} (N : Nat) (x0 : BA) (x1 : (List (BA × List (Int × Int) × List (Int × Int) × List (Int × Int) × Int))) (x2 : Int) (φ : (Int → Option α)) (x3 : Int) (k0 : (Int → Option α)) (k1 : Option α) : Option α :=
 cond (decide (x3 < x2)) (cond (decide (0 ≤ x3) && decide (x3 < (↑x1.length : Int))) (cond (sEq (x1.getD x3.toNat (eBA, [], [], [], 0)).fst x0) (k0 (x3)) (φ (IntKind.i64.wrap (x3 + 1)))) (none)) (k1 )
def L0.f {α : Type} (N : Nat) (c0 : BA) (c1 : (List (BA × List (Int × Int) × List (Int × Int) × List (Int × Int) × Int))) (c2 : Int) : Nat → Int → (Int → Option α) → Option α → Option α
 | 0, _, _, _ => none
 | n + 1, d0, k0, k1 => L0.st N c0 c1 c2 (fun e0 => L0.f N c0 c1 c2 n e0 k0 k1) d0 k0 k1
def L0.up (d : L0.sh.T) (e0 : Int) : L0.sh.T := ((d.1.1, (d.1.2.1, (d.1.2.2.1, (e0, ())))), ())
def L0.k0 {α : Type} (d : L0.sh.T) (K : Cont α) : (Int → Option α) := fun y0 => K (Exit.ret) (L0.x0.enc ((y0, ()), ()))
def L0.k1 {α : Type} (d : L0.sh.T) (K : Cont α) : Option α := K (Exit.exit 0) (L0.x1.enc (((), ()), ()))
def L0.F {α : Type} (N : Nat) (d : L0.sh.T) (K : Cont α) : Option α := L0.f N d.1.1 d.1.2.1 d.1.2.2.1 N d.1.2.2.2.1 (L0.k0 d K) (L0.k1 d K)
def ents63 {α : Type} (N : Nat) : List (SmE α) := [⟨0, 50, 4, [⟨L0.sh, L0.F N⟩]⟩]
def C (N : Nat) : Ctx := ⟨tys, [(85, net_valid.fent)], [], N⟩
def L0.B {α : Type} (N : Nat) : Env → Cont α → Option α := evC tys 24 0 (evCall (C N) 50) (evCallQ (C N)) N an63 (smL (ents63 N) 0 50) (loopOf 4 Tryd.f63)
theorem L0.r {α : Type} (N : Nat) (φ : Env → Option α) (K : Cont α) (d : L0.sh.T) : L0.B N (L0.sh.enc d) (contL φ K (Env.norm 0 [1, 11, 12, 13]) (Env.norm 0 [4])) = L0.st N d.1.1 d.1.2.1 d.1.2.2.1 (fun e0 => φ (L0.sh.enc (L0.up d e0))) d.1.2.2.2.1 (L0.k0 d K) (L0.k1 d K) := by kernel_rfl
theorem L0.e {α : Type} (N : Nat) : ∀ (n : Nat) (d : L0.sh.T) (K : Cont α), evL (L0.B N) (Env.norm 0 [1, 11, 12, 13]) (Env.norm 0 [4]) n (L0.sh.enc d) K = L0.f N d.1.1 d.1.2.1 d.1.2.2.1 n d.1.2.2.2.1 (L0.k0 d K) (L0.k1 d K)
 | 0, d, K => rfl
 | n + 1, d, K => evL_contL.trans ((L0.r N _ K d).trans (congrArg (fun φ => L0.st N d.1.1 d.1.2.1 d.1.2.2.1 φ d.1.2.2.2.1 (L0.k0 d K) (L0.k1 d K)) (funext fun e0 => L0.e N n (L0.up d e0) K)))
theorem ents63_ok {α : Type} (N : Nat) : AllP (EntOk (C N) Tryd.f63 an63 (ents63 (α := α) N)) (ents63 N) := ⟨entOk_of (b0 := loopOf 4 Tryd.f63) (li0 := [1, 11, 12, 13]) (lx0 := [4]) (by kernel_rfl) (by kernel_rfl) ⟨fun d K => L0.e N N d K, trivial⟩, trivial⟩
def g {α : Type} (N : Nat) (a0 : BA × List (BA × Int × Int) × List (BA × List (Int × Int) × List (Int × Int) × List (Int × Int) × Int)) (a1 : BA) (kr : (Int → Option α)) : Option α :=
 cond (!(net_valid.spec a0)) (kr (-1)) (L0.f N (a1) (a0.snd.snd) ((↑(List.length a0.snd.snd) : Int)) N (0) (fun x4 => kr (x4)) (kr (-1)))
theorem eq (N : Nat) (a0 : BA × List (BA × Int × Int) × List (BA × List (Int × Int) × List (Int × Int) × List (Int × Int) × Int)) (a1 : BA) : evF (C N) 50 Tryd.f63 an63 (smL (ents63 N) 0 50) [((.int .i64 : K), false)] [⟨.st (.pr (.str) (.pr (.sl (.st (.pr (.str) (.pr (.int .i64) (.int .i64))))) (.sl (.st (.pr (.str) (.pr (.sl (.st (.pr (.int .i64) (.int .i64)))) (.pr (.sl (.st (.pr (.int .i64) (.int .i64)))) (.pr (.sl (.st (.pr (.int .i64) (.int .i64)))) (.int .i64))))))))), a0⟩, ⟨.str, a1⟩] = g N a0 a1 (fun r0 => some [.dat (K.int IntKind.i64) r0]) := by kernel_rfl
theorem ctxOk (N : Nat) : CtxOk P (C N) := ctxOk_of tysOk mixedOk ⟨net_valid.ok, trivial⟩ trivial
theorem calls (N : Nat) (a0 : BA × List (BA × Int × Int) × List (BA × List (Int × Int) × List (Int × Int) × List (Int × Int) × Int)) (a1 : BA) {rs : List Rs} (h : g N a0 a1 (fun r0 => some [.dat (K.int IntKind.i64) r0]) = some rs) : CallsTo P 63 [⟨.st (.pr (.str) (.pr (.sl (.st (.pr (.str) (.pr (.int .i64) (.int .i64))))) (.sl (.st (.pr (.str) (.pr (.sl (.st (.pr (.int .i64) (.int .i64)))) (.pr (.sl (.st (.pr (.int .i64) (.int .i64)))) (.pr (.sl (.st (.pr (.int .i64) (.int .i64)))) (.int .i64))))))))), a0⟩, ⟨.str, a1⟩] rs := evF_calls' (ctxOk N) (by rfl) (ents63_ok N) ((eq N a0 a1).trans h)
def L0.l {α : Type} (N : Nat) (x0 : BA) (x1 : (List (BA × List (Int × Int) × List (Int × Int) × List (Int × Int) × Int))) (k0 : (Int → Option α)) (k1 : Option α) : List (BA × List (Int × Int) × List (Int × Int) × List (Int × Int) × Int) → Int → Option α
 | [], x3 => k1 
 | x :: l, x3 => (cond (sEq x.fst x0) (k0 (x3)) (L0.l N x0 x1 k0 k1 l (x3 + 1)))
theorem L0.rng {α : Type} {N : Nat} (x0 : BA) (x1 : (List (BA × List (Int × Int) × List (Int × Int) × List (Int × Int) × Int))) (hl : x1.length ≤ maxLen) (k0 : (Int → Option α)) (k1 : Option α) : ∀ (n j : Nat), x1.length < n + j → j ≤ x1.length → L0.f N x0 x1 (x1.length : Int) n (j : Int) k0 k1 = L0.l N x0 x1 k0 k1 (x1.drop j) (j : Int) :=
 rng0 x1 hl (fun n i => L0.f N x0 x1 (x1.length : Int) n i k0 k1) (fun l i => L0.l N x0 x1 k0 k1 l i) (fun n j hj h ih => by simp only [L0.f, L0.st, L0.l, h.a, h.b, h.c, h.d, h.e, Bool.true_and, Bool.and_true, Bool.and_self, cond_true, ih] <;> rfl) (fun n j h => by simp only [L0.f, L0.st, L0.l, h, cond_false])
end net_Trans
theorem net_Trans.L0.law {α : Type} {N : Nat} (s : BA) (xs : List TransT) (k0 : Int → Option α) : ∀ (l : List TransT) (i : Int),
  net_Trans.L0.l N s xs k0 (k0 (-1)) l i = k0 (firstI (fun p => sEq p.1 s) i l)
 | [], i => rfl
 | x :: l, i => by
  rw [net_Trans.L0.l, net_Trans.L0.law s xs k0 l, firstI]
  cases sEq x.1 s <;> rfl
theorem net_Trans.law {α : Type} {N : Nat} (hN : 18446744073709551616 ≤ N) (a0 : BA × (List (BA × Int × Int)) × List (BA × (List (Int × Int)) × (List (Int × Int)) × (List (Int × Int)) × Int)) (a1 : BA) (w0 : K.wf (.st (.pr (.str) (.pr (.sl (.st (.pr (.str) (.pr (.int .i64) (.int .i64))))) (.sl (.st (.pr (.str) (.pr (.sl (.st (.pr (.int .i64) (.int .i64)))) (.pr (.sl (.st (.pr (.int .i64) (.int .i64)))) (.pr (.sl (.st (.pr (.int .i64) (.int .i64)))) (.int .i64)))))))))) a0) (w1 : K.wf (.str) a1) (kr : (Int → Option α)) : net_Trans.g N a0 a1 kr = kr (net_Trans.spec a0 a1) := by
 unfold net_Trans.g net_Trans.spec transI
 simp only [net_valid.spec]
 cases (checkN a0).1 == 0
 ·
  rfl
 ·
  simp only [cond_true]
  refine (net_Trans.L0.rng (N := N) a1 a0.2.2 w0.2.2.1 (fun x => kr x) (kr (-1)) N 0 (by have := le_fuel w0.2.2.1 hN; omega) (Nat.zero_le _)).trans ?_
  rw [List.drop_zero]
  exact net_Trans.L0.law a1 a0.2.2 (fun x => kr x) a0.2.2 0
theorem net_Trans.ok : FentOk P 63 net_Trans.fent := fentOk_of (by kernel_rfl) fun ds hk => by
 obtain ⟨a0, l0, rfl, h0⟩ := ds_cons hk
 obtain ⟨a1, l1, rfl, h1⟩ := ds_cons h0
 obtain rfl := ds0 h1
 exact ⟨true, [.dat (.int .i64) (net_Trans.spec a0 a1)], fun h hw => net_Trans.calls 18446744073709551616 a0 a1 (net_Trans.law (Nat.le_refl _) a0 a1 hw.1 hw.2.1 _), fun α k => rfl⟩
end Go.VI
namespace Go.VI
open Go Go.Proofs
namespace tf_Union_1
def an61 : Ann := []
def ents61 {α : Type} (N : Nat) : List (SmE α) := []
def C (N : Nat) : Ctx := ⟨tys, [(62, net_Place.fent), (63, net_Trans.fent)], [], N⟩
theorem ents61_ok {α : Type} (N : Nat) : AllP (EntOk (C N) Tryd.f61 an61 (ents61 (α := α) N)) (ents61 N) := trivial
def g {α : Type} (N : Nat) (a0 : BA) (a1 : BA × List (BA × Int × Int) × List (BA × List (Int × Int) × List (Int × Int) × List (Int × Int) × Int)) (kr : (Bool → Option α)) : Option α :=
 cond (decide (0 ≤ (net_Place.spec a1 a0))) (kr (true)) (kr (decide (0 ≤ (net_Trans.spec a1 a0))))
theorem eq (N : Nat) (a0 : BA) (a1 : BA × List (BA × Int × Int) × List (BA × List (Int × Int) × List (Int × Int) × List (Int × Int) × Int)) : evF (C N) 50 Tryd.f61 an61 (smL (ents61 N) 0 50) [((.bool : K), false)] [⟨.str, a0⟩, ⟨.ref (.st (.pr (.str) (.pr (.sl (.st (.pr (.str) (.pr (.int .i64) (.int .i64))))) (.sl (.st (.pr (.str) (.pr (.sl (.st (.pr (.int .i64) (.int .i64)))) (.pr (.sl (.st (.pr (.int .i64) (.int .i64)))) (.pr (.sl (.st (.pr (.int .i64) (.int .i64)))) (.int .i64)))))))))), a1⟩] = g N a0 a1 (fun r0 => some [.dat (K.bool) r0]) := by kernel_rfl
theorem ctxOk (N : Nat) : CtxOk P (C N) := ctxOk_of tysOk mixedOk ⟨net_Place.ok, net_Trans.ok, trivial⟩ trivial
theorem calls (N : Nat) (a0 : BA) (a1 : BA × List (BA × Int × Int) × List (BA × List (Int × Int) × List (Int × Int) × List (Int × Int) × Int)) {rs : List Rs} (h : g N a0 a1 (fun r0 => some [.dat (K.bool) r0]) = some rs) : CallsTo P 61 [⟨.str, a0⟩, ⟨.ref (.st (.pr (.str) (.pr (.sl (.st (.pr (.str) (.pr (.int .i64) (.int .i64))))) (.sl (.st (.pr (.str) (.pr (.sl (.st (.pr (.int .i64) (.int .i64)))) (.pr (.sl (.st (.pr (.int .i64) (.int .i64)))) (.pr (.sl (.st (.pr (.int .i64) (.int .i64)))) (.int .i64)))))))))), a1⟩] rs := evF_calls' (ctxOk N) (by rfl) (ents61_ok N) ((eq N a0 a1).trans h)
end tf_Union_1
theorem firstI_nn {α : Type} (f : α → Bool) : ∀ (l : List α) (i : Int), 0 ≤ i → decide (0 ≤ firstI f i l) = l.any f
 | [], i, _ => rfl
 | x :: l, i, h => by
  rw [firstI, List.any_cons]
  cases f x
  ·
   exact firstI_nn f l (i + 1) (by omega)
  ·
   simp only [cond_true, Bool.true_or]
   exact decide_eq_true h
theorem tf_Union_1.law {α : Type} {N : Nat} (hN : 18446744073709551616 ≤ N) (a0 : BA) (a1 : BA × (List (BA × Int × Int)) × List (BA × (List (Int × Int)) × (List (Int × Int)) × (List (Int × Int)) × Int)) (w0 : K.wf (.str) a0) (w1 : K.wf (.ref (.st (.pr (.str) (.pr (.sl (.st (.pr (.str) (.pr (.int .i64) (.int .i64))))) (.sl (.st (.pr (.str) (.pr (.sl (.st (.pr (.int .i64) (.int .i64)))) (.pr (.sl (.st (.pr (.int .i64) (.int .i64)))) (.pr (.sl (.st (.pr (.int .i64) (.int .i64)))) (.int .i64))))))))))) a1) (kr : (Bool → Option α)) : tf_Union_1.g N a0 a1 kr = kr (tf_Union_1.spec a0 a1) := by
 unfold tf_Union_1.g tf_Union_1.spec knownN
 show cond (decide (0 ≤ placeI a1 a0)) (kr true) (kr (decide (0 ≤ transI a1 a0))) = _
 unfold placeI transI
 cases (checkN a1).1 == 0
 ·
  rfl
 ·
  simp only [cond_true, Bool.true_and]
  rw [firstI_nn _ _ _ (by decide), firstI_nn _ _ _ (by decide)]
  cases List.any a1.2.1 _ <;> rfl
theorem tf_Union_1.ok : FentOk P 61 tf_Union_1.fent := fentOk_of (by kernel_rfl) fun ds hk => by
 obtain ⟨a0, l0, rfl, h0⟩ := ds_cons hk
 obtain ⟨a1, l1, rfl, h1⟩ := ds_cons h0
 obtain rfl := ds0 h1
 exact ⟨true, [.dat (.bool) (tf_Union_1.spec a0 a1)], fun h hw => tf_Union_1.calls 18446744073709551616 a0 a1 (tf_Union_1.law (Nat.le_refl _) a0 a1 hw.1 hw.2.1 _), fun α k => rfl⟩
end Go.VI
namespace Go.VI
open Go Go.Proofs
namespace tf_Union_2
def an64 : Ann := []
def ents64 {α : Type} (N : Nat) : List (SmE α) := []
def C (N : Nat) : Ctx := ⟨tys, [], [], N⟩
theorem ents64_ok {α : Type} (N : Nat) : AllP (EntOk (C N) Tryd.f64 an64 (ents64 (α := α) N)) (ents64 N) := trivial
def g {α : Type} (N : Nat) (a0 : BA × List (Int × Int) × List (Int × Int) × List (Int × Int) × Int) (kr : ((BA × List (Int × Int) × List (Int × Int) × List (Int × Int) × Int) → Option α)) : Option α :=
 kr (a0)
theorem eq (N : Nat) (a0 : BA × List (Int × Int) × List (Int × Int) × List (Int × Int) × Int) : evF (C N) 50 Tryd.f64 an64 (smL (ents64 N) 0 50) [((.st (.pr (.str) (.pr (.sl (.st (.pr (.int .i64) (.int .i64)))) (.pr (.sl (.st (.pr (.int .i64) (.int .i64)))) (.pr (.sl (.st (.pr (.int .i64) (.int .i64)))) (.int .i64))))) : K), false)] [⟨.st (.pr (.str) (.pr (.sl (.st (.pr (.int .i64) (.int .i64)))) (.pr (.sl (.st (.pr (.int .i64) (.int .i64)))) (.pr (.sl (.st (.pr (.int .i64) (.int .i64)))) (.int .i64))))), a0⟩] = g N a0 (fun r0 => some [.dat ((K.str.pr (((K.int IntKind.i64).pr (K.int IntKind.i64)).st.sl.pr (((K.int IntKind.i64).pr (K.int IntKind.i64)).st.sl.pr (((K.int IntKind.i64).pr (K.int IntKind.i64)).st.sl.pr (K.int IntKind.i64))))).st) r0]) := by kernel_rfl
theorem ctxOk (N : Nat) : CtxOk P (C N) := ctxOk_of tysOk mixedOk trivial trivial
theorem calls (N : Nat) (a0 : BA × List (Int × Int) × List (Int × Int) × List (Int × Int) × Int) {rs : List Rs} (h : g N a0 (fun r0 => some [.dat ((K.str.pr (((K.int IntKind.i64).pr (K.int IntKind.i64)).st.sl.pr (((K.int IntKind.i64).pr (K.int IntKind.i64)).st.sl.pr (((K.int IntKind.i64).pr (K.int IntKind.i64)).st.sl.pr (K.int IntKind.i64))))).st) r0]) = some rs) : CallsTo P 64 [⟨.st (.pr (.str) (.pr (.sl (.st (.pr (.int .i64) (.int .i64)))) (.pr (.sl (.st (.pr (.int .i64) (.int .i64)))) (.pr (.sl (.st (.pr (.int .i64) (.int .i64)))) (.int .i64))))), a0⟩] rs := evF_calls' (ctxOk N) (by rfl) (ents64_ok N) ((eq N a0).trans h)
end tf_Union_2
theorem tf_Union_2.law {α : Type} {N : Nat} (hN : 18446744073709551616 ≤ N) (a0 : BA × (List (Int × Int)) × (List (Int × Int)) × (List (Int × Int)) × Int) (w0 : K.wf (.st (.pr (.str) (.pr (.sl (.st (.pr (.int .i64) (.int .i64)))) (.pr (.sl (.st (.pr (.int .i64) (.int .i64)))) (.pr (.sl (.st (.pr (.int .i64) (.int .i64)))) (.int .i64)))))) a0) (kr : ((BA × (List (Int × Int)) × (List (Int × Int)) × (List (Int × Int)) × Int) → Option α)) : tf_Union_2.g N a0 kr = kr (tf_Union_2.spec a0) := by
 rfl
theorem tf_Union_2.ok : FentOk P 64 tf_Union_2.fent := fentOk_of (by kernel_rfl) fun ds hk => by
 obtain ⟨a0, l0, rfl, h0⟩ := ds_cons hk
 obtain rfl := ds0 h0
 exact ⟨true, [.dat (.st (.pr (.str) (.pr (.sl (.st (.pr (.int .i64) (.int .i64)))) (.pr (.sl (.st (.pr (.int .i64) (.int .i64)))) (.pr (.sl (.st (.pr (.int .i64) (.int .i64)))) (.int .i64)))))) (tf_Union_2.spec a0)], fun h hw => tf_Union_2.calls 18446744073709551616 a0 (tf_Union_2.law (Nat.le_refl _) a0 hw.1 _), fun α k => rfl⟩
end Go.VI
namespace Go.VI
open Go Go.Proofs
namespace tf_Union
def an27 : Ann := [(12, [2, 3, 4, 8, 9, 54, 55, 56], [2, 3, 4, 5, 8, 9]), (20, [4, 8, 9, 12, 76, 77, 78], [4, 5, 9])]
def an35 : Ann := [(3, [1, 2, 3, 6, 7, 16, 17, 18], [2, 3, 6, 7]), (8, [2, 6, 7, 34, 35, 36], [6, 7])]
def L0.sh : Sh := { sl := [(1, SV.a (SA.fx (Atom.fn 49 []))), (2, SV.a (SA.fx (Atom.fn 64 []))), (3, SV.a (SA.fx (Atom.box 5 0))), (6, SV.a (SA.fx (Atom.box 6 0))), (7, SV.a (SA.fx (Atom.box 7 0))), (16, SV.a (SA.d (K.str.pr ((K.int IntKind.i64).pr (K.int IntKind.i64))).st.sl)), (17, SV.a (SA.d (K.int IntKind.i64))), (18, SV.a (SA.d (K.int IntKind.i64)))], os := [(5, SO.box [SA.d K.str, SA.d (K.str.pr ((K.int IntKind.i64).pr (K.int IntKind.i64))).st.sl, SA.d (K.str.pr (((K.int IntKind.i64).pr (K.int IntKind.i64)).st.sl.pr (((K.int IntKind.i64).pr (K.int IntKind.i64)).st.sl.pr (((K.int IntKind.i64).pr (K.int IntKind.i64)).st.sl.pr (K.int IntKind.i64))))).st.sl]), (6, SO.box [SA.d K.str, SA.fx (Atom.sl 10 0 none), SA.fx (Atom.sl 11 0 none)]), (7, SO.box [SA.d K.str, SA.fx (Atom.sl 12 0 none), SA.fx (Atom.sl 13 0 none)]), (8, SO.row (K.str.pr ((K.int IntKind.i64).pr (K.int IntKind.i64))).st 0), (9, SO.row (K.str.pr (((K.int IntKind.i64).pr (K.int IntKind.i64)).st.sl.pr (((K.int IntKind.i64).pr (K.int IntKind.i64)).st.sl.pr (((K.int IntKind.i64).pr (K.int IntKind.i64)).st.sl.pr (K.int IntKind.i64))))).st 0), (10, SO.row (K.str.pr ((K.int IntKind.i64).pr (K.int IntKind.i64))).st 0), (11, SO.row (K.str.pr (((K.int IntKind.i64).pr (K.int IntKind.i64)).st.sl.pr (((K.int IntKind.i64).pr (K.int IntKind.i64)).st.sl.pr (((K.int IntKind.i64).pr (K.int IntKind.i64)).st.sl.pr (K.int IntKind.i64))))).st 0), (12, SO.row (K.str.pr ((K.int IntKind.i64).pr (K.int IntKind.i64))).st 0), (13, SO.row (K.str.pr (((K.int IntKind.i64).pr (K.int IntKind.i64)).st.sl.pr (((K.int IntKind.i64).pr (K.int IntKind.i64)).st.sl.pr (((K.int IntKind.i64).pr (K.int IntKind.i64)).st.sl.pr (K.int IntKind.i64))))).st 0), (4, SO.box [SA.d (K.int IntKind.i64), SA.d (K.int IntKind.i64)]), (3, SO.box [SA.d (K.int IntKind.i64), SA.d (K.int IntKind.i64)]), (2, SO.box [SA.d K.str, SA.fx (Atom.sl 8 0 none), SA.fx (Atom.sl 9 0 none)]), (1, SO.box [SA.d K.str, SA.d (K.str.pr ((K.int IntKind.i64).pr (K.int IntKind.i64))).st.sl, SA.d (K.str.pr (((K.int IntKind.i64).pr (K.int IntKind.i64)).st.sl.pr (((K.int IntKind.i64).pr (K.int IntKind.i64)).st.sl.pr (((K.int IntKind.i64).pr (K.int IntKind.i64)).st.sl.pr (K.int IntKind.i64))))).st.sl]), (0, SO.box [SA.d K.str, SA.d (K.str.pr ((K.int IntKind.i64).pr (K.int IntKind.i64))).st.sl, SA.d (K.str.pr (((K.int IntKind.i64).pr (K.int IntKind.i64)).st.sl.pr (((K.int IntKind.i64).pr (K.int IntKind.i64)).st.sl.pr (((K.int IntKind.i64).pr (K.int IntKind.i64)).st.sl.pr (K.int IntKind.i64))))).st.sl])], nx := 14 }
def L0.x0 : Sh := { sl := [(2, SV.a (SA.fx (Atom.fn 64 []))), (3, SV.a (SA.fx (Atom.box 5 0))), (6, SV.a (SA.fx (Atom.box 6 0))), (7, SV.a (SA.fx (Atom.box 7 0)))], os := [(5, SO.box [SA.d K.str, SA.d (K.str.pr ((K.int IntKind.i64).pr (K.int IntKind.i64))).st.sl, SA.d (K.str.pr (((K.int IntKind.i64).pr (K.int IntKind.i64)).st.sl.pr (((K.int IntKind.i64).pr (K.int IntKind.i64)).st.sl.pr (((K.int IntKind.i64).pr (K.int IntKind.i64)).st.sl.pr (K.int IntKind.i64))))).st.sl]), (6, SO.box [SA.d K.str, SA.fx (Atom.sl 10 0 none), SA.fx (Atom.sl 11 0 none)]), (7, SO.box [SA.d K.str, SA.fx (Atom.sl 12 0 none), SA.fx (Atom.sl 13 0 none)]), (8, SO.row (K.str.pr ((K.int IntKind.i64).pr (K.int IntKind.i64))).st 0), (9, SO.row (K.str.pr (((K.int IntKind.i64).pr (K.int IntKind.i64)).st.sl.pr (((K.int IntKind.i64).pr (K.int IntKind.i64)).st.sl.pr (((K.int IntKind.i64).pr (K.int IntKind.i64)).st.sl.pr (K.int IntKind.i64))))).st 0), (10, SO.row (K.str.pr ((K.int IntKind.i64).pr (K.int IntKind.i64))).st 0), (11, SO.row (K.str.pr (((K.int IntKind.i64).pr (K.int IntKind.i64)).st.sl.pr (((K.int IntKind.i64).pr (K.int IntKind.i64)).st.sl.pr (((K.int IntKind.i64).pr (K.int IntKind.i64)).st.sl.pr (K.int IntKind.i64))))).st 0), (12, SO.row (K.str.pr ((K.int IntKind.i64).pr (K.int IntKind.i64))).st 0), (13, SO.row (K.str.pr (((K.int IntKind.i64).pr (K.int IntKind.i64)).st.sl.pr (((K.int IntKind.i64).pr (K.int IntKind.i64)).st.sl.pr (((K.int IntKind.i64).pr (K.int IntKind.i64)).st.sl.pr (K.int IntKind.i64))))).st 0), (4, SO.box [SA.d (K.int IntKind.i64), SA.d (K.int IntKind.i64)]), (3, SO.box [SA.d (K.int IntKind.i64), SA.d (K.int IntKind.i64)]), (2, SO.box [SA.d K.str, SA.fx (Atom.sl 8 0 none), SA.fx (Atom.sl 9 0 none)]), (1, SO.box [SA.d K.str, SA.d (K.str.pr ((K.int IntKind.i64).pr (K.int IntKind.i64))).st.sl, SA.d (K.str.pr (((K.int IntKind.i64).pr (K.int IntKind.i64)).st.sl.pr (((K.int IntKind.i64).pr (K.int IntKind.i64)).st.sl.pr (((K.int IntKind.i64).pr (K.int IntKind.i64)).st.sl.pr (K.int IntKind.i64))))).st.sl]), (0, SO.box [SA.d K.str, SA.d (K.str.pr ((K.int IntKind.i64).pr (K.int IntKind.i64))).st.sl, SA.d (K.str.pr (((K.int IntKind.i64).pr (K.int IntKind.i64)).st.sl.pr (((K.int IntKind.i64).pr (K.int IntKind.i64)).st.sl.pr (((K.int IntKind.i64).pr (K.int IntKind.i64)).st.sl.pr (K.int IntKind.i64))))).st.sl])], nx := 14 }
def L0.st {α : Type} (N : Nat) (x0 : (List (BA × Int × Int))) (x1 : Int) (φ : (Int → (List (BA × Int × Int)) → Option α)) (x2 : Int) (x12 : (List (BA × Int × Int))) (k0 : ((List (BA × Int × Int)) → Option α)) : Option α :=
 cond (decide (x2 < x1)) (cond (decide (0 ≤ x2) && decide (x2 < (↑x0.length : Int))) (cond ((x12.length + 1).ble mxl) (cond ((x12.length + 1).ble mxl) (φ (IntKind.i64.wrap (x2 + 1)) (x12 ++ [(tf_samePlace.spec x2 (x0.getD x2.toNat (eBA, 0, 0)))])) (none)) (none)) (none)) (k0 (x12))
def L0.f {α : Type} (N : Nat) (c0 : (List (BA × Int × Int))) (c1 : Int) : Nat → Int → (List (BA × Int × Int)) → ((List (BA × Int × Int)) → Option α) → Option α
 | 0, _, _, _ => none
 | n + 1, d0, d1, k0 => L0.st N c0 c1 (fun e0 e1 => L0.f N c0 c1 n e0 e1 k0) d0 d1 k0
def L0.up (d : L0.sh.T) (e0 : Int) (e1 : (List (BA × Int × Int))) : L0.sh.T := (((), ((), ((), ((), ((), (d.1.2.2.2.2.2.1, (d.1.2.2.2.2.2.2.1, (e0, ())))))))), ((d.2.1.1, (d.2.1.2.1, (d.2.1.2.2.1, ()))), ((d.2.2.1.1, ((), ((), ()))), ((d.2.2.2.1.1, ((), ((), ()))), (d.2.2.2.2.1, (d.2.2.2.2.2.1, (d.2.2.2.2.2.2.1, (d.2.2.2.2.2.2.2.1, (e1, (d.2.2.2.2.2.2.2.2.2.1, ((d.2.2.2.2.2.2.2.2.2.2.1.1, (d.2.2.2.2.2.2.2.2.2.2.1.2.1, ())), ((d.2.2.2.2.2.2.2.2.2.2.2.1.1, (d.2.2.2.2.2.2.2.2.2.2.2.1.2.1, ())), ((d.2.2.2.2.2.2.2.2.2.2.2.2.1.1, ((), ((), ()))), ((d.2.2.2.2.2.2.2.2.2.2.2.2.2.1.1, (d.2.2.2.2.2.2.2.2.2.2.2.2.2.1.2.1, (d.2.2.2.2.2.2.2.2.2.2.2.2.2.1.2.2.1, ()))), ((d.2.2.2.2.2.2.2.2.2.2.2.2.2.2.1.1, (d.2.2.2.2.2.2.2.2.2.2.2.2.2.2.1.2.1, (d.2.2.2.2.2.2.2.2.2.2.2.2.2.2.1.2.2.1, ()))), ())))))))))))))))
def L0.k0 {α : Type} (d : L0.sh.T) (K : Cont α) : ((List (BA × Int × Int)) → Option α) := fun y0 => K (Exit.exit 0) (L0.x0.enc (((), ((), ((), ((), ())))), ((d.2.1.1, (d.2.1.2.1, (d.2.1.2.2.1, ()))), ((d.2.2.1.1, ((), ((), ()))), ((d.2.2.2.1.1, ((), ((), ()))), (d.2.2.2.2.1, (d.2.2.2.2.2.1, (d.2.2.2.2.2.2.1, (d.2.2.2.2.2.2.2.1, (y0, (d.2.2.2.2.2.2.2.2.2.1, ((d.2.2.2.2.2.2.2.2.2.2.1.1, (d.2.2.2.2.2.2.2.2.2.2.1.2.1, ())), ((d.2.2.2.2.2.2.2.2.2.2.2.1.1, (d.2.2.2.2.2.2.2.2.2.2.2.1.2.1, ())), ((d.2.2.2.2.2.2.2.2.2.2.2.2.1.1, ((), ((), ()))), ((d.2.2.2.2.2.2.2.2.2.2.2.2.2.1.1, (d.2.2.2.2.2.2.2.2.2.2.2.2.2.1.2.1, (d.2.2.2.2.2.2.2.2.2.2.2.2.2.1.2.2.1, ()))), ((d.2.2.2.2.2.2.2.2.2.2.2.2.2.2.1.1, (d.2.2.2.2.2.2.2.2.2.2.2.2.2.2.1.2.1, (d.2.2.2.2.2.2.2.2.2.2.2.2.2.2.1.2.2.1, ()))), ()))))))))))))))))
def L0.F {α : Type} (N : Nat) (d : L0.sh.T) (K : Cont α) : Option α := L0.f N d.1.2.2.2.2.2.1 d.1.2.2.2.2.2.2.1 N d.1.2.2.2.2.2.2.2.1 d.2.2.2.2.2.2.2.2.1 (L0.k0 d K)
def L1.sh : Sh := { sl := [(2, SV.a (SA.fx (Atom.fn 64 []))), (6, SV.a (SA.fx (Atom.box 5 0))), (7, SV.a (SA.fx (Atom.box 6 0))), (34, SV.a (SA.d (K.str.pr (((K.int IntKind.i64).pr (K.int IntKind.i64)).st.sl.pr (((K.int IntKind.i64).pr (K.int IntKind.i64)).st.sl.pr (((K.int IntKind.i64).pr (K.int IntKind.i64)).st.sl.pr (K.int IntKind.i64))))).st.sl)), (35, SV.a (SA.d (K.int IntKind.i64))), (36, SV.a (SA.d (K.int IntKind.i64)))], os := [(5, SO.box [SA.d K.str, SA.fx (Atom.sl 9 0 none), SA.fx (Atom.sl 10 0 none)]), (6, SO.box [SA.d K.str, SA.fx (Atom.sl 11 0 none), SA.fx (Atom.sl 12 0 none)]), (7, SO.row (K.str.pr ((K.int IntKind.i64).pr (K.int IntKind.i64))).st 0), (8, SO.row (K.str.pr (((K.int IntKind.i64).pr (K.int IntKind.i64)).st.sl.pr (((K.int IntKind.i64).pr (K.int IntKind.i64)).st.sl.pr (((K.int IntKind.i64).pr (K.int IntKind.i64)).st.sl.pr (K.int IntKind.i64))))).st 0), (9, SO.row (K.str.pr ((K.int IntKind.i64).pr (K.int IntKind.i64))).st 0), (10, SO.row (K.str.pr (((K.int IntKind.i64).pr (K.int IntKind.i64)).st.sl.pr (((K.int IntKind.i64).pr (K.int IntKind.i64)).st.sl.pr (((K.int IntKind.i64).pr (K.int IntKind.i64)).st.sl.pr (K.int IntKind.i64))))).st 0), (11, SO.row (K.str.pr ((K.int IntKind.i64).pr (K.int IntKind.i64))).st 0), (12, SO.row (K.str.pr (((K.int IntKind.i64).pr (K.int IntKind.i64)).st.sl.pr (((K.int IntKind.i64).pr (K.int IntKind.i64)).st.sl.pr (((K.int IntKind.i64).pr (K.int IntKind.i64)).st.sl.pr (K.int IntKind.i64))))).st 0), (4, SO.box [SA.d (K.int IntKind.i64), SA.d (K.int IntKind.i64)]), (3, SO.box [SA.d (K.int IntKind.i64), SA.d (K.int IntKind.i64)]), (2, SO.box [SA.d K.str, SA.fx (Atom.sl 7 0 none), SA.fx (Atom.sl 8 0 none)]), (1, SO.box [SA.d K.str, SA.d (K.str.pr ((K.int IntKind.i64).pr (K.int IntKind.i64))).st.sl, SA.d (K.str.pr (((K.int IntKind.i64).pr (K.int IntKind.i64)).st.sl.pr (((K.int IntKind.i64).pr (K.int IntKind.i64)).st.sl.pr (((K.int IntKind.i64).pr (K.int IntKind.i64)).st.sl.pr (K.int IntKind.i64))))).st.sl]), (0, SO.box [SA.d K.str, SA.d (K.str.pr ((K.int IntKind.i64).pr (K.int IntKind.i64))).st.sl, SA.d (K.str.pr (((K.int IntKind.i64).pr (K.int IntKind.i64)).st.sl.pr (((K.int IntKind.i64).pr (K.int IntKind.i64)).st.sl.pr (((K.int IntKind.i64).pr (K.int IntKind.i64)).st.sl.pr (K.int IntKind.i64))))).st.sl])], nx := 13 }
def L1.x0 : Sh := { sl := [(6, SV.a (SA.fx (Atom.box 5 0))), (7, SV.a (SA.fx (Atom.box 6 0)))], os := [(5, SO.box [SA.d K.str, SA.fx (Atom.sl 9 0 none), SA.fx (Atom.sl 10 0 none)]), (6, SO.box [SA.d K.str, SA.fx (Atom.sl 11 0 none), SA.fx (Atom.sl 12 0 none)]), (7, SO.row (K.str.pr ((K.int IntKind.i64).pr (K.int IntKind.i64))).st 0), (8, SO.row (K.str.pr (((K.int IntKind.i64).pr (K.int IntKind.i64)).st.sl.pr (((K.int IntKind.i64).pr (K.int IntKind.i64)).st.sl.pr (((K.int IntKind.i64).pr (K.int IntKind.i64)).st.sl.pr (K.int IntKind.i64))))).st 0), (9, SO.row (K.str.pr ((K.int IntKind.i64).pr (K.int IntKind.i64))).st 0), (10, SO.row (K.str.pr (((K.int IntKind.i64).pr (K.int IntKind.i64)).st.sl.pr (((K.int IntKind.i64).pr (K.int IntKind.i64)).st.sl.pr (((K.int IntKind.i64).pr (K.int IntKind.i64)).st.sl.pr (K.int IntKind.i64))))).st 0), (11, SO.row (K.str.pr ((K.int IntKind.i64).pr (K.int IntKind.i64))).st 0), (12, SO.row (K.str.pr (((K.int IntKind.i64).pr (K.int IntKind.i64)).st.sl.pr (((K.int IntKind.i64).pr (K.int IntKind.i64)).st.sl.pr (((K.int IntKind.i64).pr (K.int IntKind.i64)).st.sl.pr (K.int IntKind.i64))))).st 0), (4, SO.box [SA.d (K.int IntKind.i64), SA.d (K.int IntKind.i64)]), (3, SO.box [SA.d (K.int IntKind.i64), SA.d (K.int IntKind.i64)]), (2, SO.box [SA.d K.str, SA.fx (Atom.sl 7 0 none), SA.fx (Atom.sl 8 0 none)]), (1, SO.box [SA.d K.str, SA.d (K.str.pr ((K.int IntKind.i64).pr (K.int IntKind.i64))).st.sl, SA.d (K.str.pr (((K.int IntKind.i64).pr (K.int IntKind.i64)).st.sl.pr (((K.int IntKind.i64).pr (K.int IntKind.i64)).st.sl.pr (((K.int IntKind.i64).pr (K.int IntKind.i64)).st.sl.pr (K.int IntKind.i64))))).st.sl]), (0, SO.box [SA.d K.str, SA.d (K.str.pr ((K.int IntKind.i64).pr (K.int IntKind.i64))).st.sl, SA.d (K.str.pr (((K.int IntKind.i64).pr (K.int IntKind.i64)).st.sl.pr (((K.int IntKind.i64).pr (K.int IntKind.i64)).st.sl.pr (((K.int IntKind.i64).pr (K.int IntKind.i64)).st.sl.pr (K.int IntKind.i64))))).st.sl])], nx := 13 }
def L1.st {α : Type} (N : Nat) (x26 : (List (BA × List (Int × Int) × List (Int × Int) × List (Int × Int) × Int))) (x27 : Int) (φ : (Int → (List (BA × List (Int × Int) × List (Int × Int) × List (Int × Int) × Int)) → Option α)) (x28 : Int) (x36 : (List (BA × List (Int × Int) × List (Int × Int) × List (Int × Int) × Int))) (k0 : ((List (BA × List (Int × Int) × List (Int × Int) × List (Int × Int) × Int)) → Option α)) : Option α :=
 cond (decide (x28 < x27)) (cond (decide (0 ≤ x28) && decide (x28 < (↑x26.length : Int))) (cond (tf_clone.pre (x26.getD x28.toNat (eBA, [], [], [], 0)).snd.fst) (cond (tf_clone.pre (x26.getD x28.toNat (eBA, [], [], [], 0)).snd.snd.fst) (cond (tf_clone.pre (x26.getD x28.toNat (eBA, [], [], [], 0)).snd.snd.snd.fst) (cond (tf_clone.pre (x26.getD x28.toNat (eBA, [], [], [], 0)).snd.fst) (cond (tf_clone.pre (x26.getD x28.toNat (eBA, [], [], [], 0)).snd.snd.fst) (cond (tf_clone.pre (x26.getD x28.toNat (eBA, [], [], [], 0)).snd.snd.snd.fst) (cond ((x36.length + 1).ble mxl) (cond ((x36.length + 1).ble mxl) (φ (IntKind.i64.wrap (x28 + 1)) (x36 ++ [(tf_Union_2.spec ((x26.getD x28.toNat (eBA, [], [], [], 0)).fst, (tf_clone.spec (x26.getD x28.toNat (eBA, [], [], [], 0)).snd.fst), (tf_clone.spec (x26.getD x28.toNat (eBA, [], [], [], 0)).snd.snd.fst), (tf_clone.spec (x26.getD x28.toNat (eBA, [], [], [], 0)).snd.snd.snd.fst), (x26.getD x28.toNat (eBA, [], [], [], 0)).snd.snd.snd.snd))])) (none)) (none)) (none)) (none)) (none)) (none)) (none)) (none)) (none)) (k0 (x36))
def L1.f {α : Type} (N : Nat) (c0 : (List (BA × List (Int × Int) × List (Int × Int) × List (Int × Int) × Int))) (c1 : Int) : Nat → Int → (List (BA × List (Int × Int) × List (Int × Int) × List (Int × Int) × Int)) → ((List (BA × List (Int × Int) × List (Int × Int) × List (Int × Int) × Int)) → Option α) → Option α
 | 0, _, _, _ => none
 | n + 1, d0, d1, k0 => L1.st N c0 c1 (fun e0 e1 => L1.f N c0 c1 n e0 e1 k0) d0 d1 k0
def L1.up (d : L1.sh.T) (e0 : Int) (e1 : (List (BA × List (Int × Int) × List (Int × Int) × List (Int × Int) × Int))) : L1.sh.T := (((), ((), ((), (d.1.2.2.2.1, (d.1.2.2.2.2.1, (e0, ())))))), ((d.2.1.1, ((), ((), ()))), ((d.2.2.1.1, ((), ((), ()))), (d.2.2.2.1, (d.2.2.2.2.1, (d.2.2.2.2.2.1, (d.2.2.2.2.2.2.1, (d.2.2.2.2.2.2.2.1, (e1, ((d.2.2.2.2.2.2.2.2.2.1.1, (d.2.2.2.2.2.2.2.2.2.1.2.1, ())), ((d.2.2.2.2.2.2.2.2.2.2.1.1, (d.2.2.2.2.2.2.2.2.2.2.1.2.1, ())), ((d.2.2.2.2.2.2.2.2.2.2.2.1.1, ((), ((), ()))), ((d.2.2.2.2.2.2.2.2.2.2.2.2.1.1, (d.2.2.2.2.2.2.2.2.2.2.2.2.1.2.1, (d.2.2.2.2.2.2.2.2.2.2.2.2.1.2.2.1, ()))), ((d.2.2.2.2.2.2.2.2.2.2.2.2.2.1.1, (d.2.2.2.2.2.2.2.2.2.2.2.2.2.1.2.1, (d.2.2.2.2.2.2.2.2.2.2.2.2.2.1.2.2.1, ()))), ()))))))))))))))
def L1.k0 {α : Type} (d : L1.sh.T) (K : Cont α) : ((List (BA × List (Int × Int) × List (Int × Int) × List (Int × Int) × Int)) → Option α) := fun y0 => K (Exit.exit 2) (L1.x0.enc (((), ((), ())), ((d.2.1.1, ((), ((), ()))), ((d.2.2.1.1, ((), ((), ()))), (d.2.2.2.1, (d.2.2.2.2.1, (d.2.2.2.2.2.1, (d.2.2.2.2.2.2.1, (d.2.2.2.2.2.2.2.1, (y0, ((d.2.2.2.2.2.2.2.2.2.1.1, (d.2.2.2.2.2.2.2.2.2.1.2.1, ())), ((d.2.2.2.2.2.2.2.2.2.2.1.1, (d.2.2.2.2.2.2.2.2.2.2.1.2.1, ())), ((d.2.2.2.2.2.2.2.2.2.2.2.1.1, ((), ((), ()))), ((d.2.2.2.2.2.2.2.2.2.2.2.2.1.1, (d.2.2.2.2.2.2.2.2.2.2.2.2.1.2.1, (d.2.2.2.2.2.2.2.2.2.2.2.2.1.2.2.1, ()))), ((d.2.2.2.2.2.2.2.2.2.2.2.2.2.1.1, (d.2.2.2.2.2.2.2.2.2.2.2.2.2.1.2.1, (d.2.2.2.2.2.2.2.2.2.2.2.2.2.1.2.2.1, ()))), ())))))))))))))))
def L1.F {α : Type} (N : Nat) (d : L1.sh.T) (K : Cont α) : Option α := L1.f N d.1.2.2.2.1 d.1.2.2.2.2.1 N d.1.2.2.2.2.2.1 d.2.2.2.2.2.2.2.2.1 (L1.k0 d K)
def L2.sh : Sh := { sl := [(2, SV.a (SA.fx (Atom.box 0 0))), (3, SV.a (SA.fx (Atom.box 1 0))), (4, SV.a (SA.fx (Atom.box 2 0))), (8, SV.a (SA.fx (Atom.fn 61 [0]))), (9, SV.a (SA.fx (Atom.box 3 0))), (54, SV.a (SA.d (K.str.pr ((K.int IntKind.i64).pr (K.int IntKind.i64))).st.sl)), (55, SV.a (SA.d (K.int IntKind.i64))), (56, SV.a (SA.d (K.int IntKind.i64)))], os := [(0, SO.box [SA.d K.str, SA.d (K.str.pr ((K.int IntKind.i64).pr (K.int IntKind.i64))).st.sl, SA.d (K.str.pr (((K.int IntKind.i64).pr (K.int IntKind.i64)).st.sl.pr (((K.int IntKind.i64).pr (K.int IntKind.i64)).st.sl.pr (((K.int IntKind.i64).pr (K.int IntKind.i64)).st.sl.pr (K.int IntKind.i64))))).st.sl]), (1, SO.box [SA.d K.str, SA.d (K.str.pr ((K.int IntKind.i64).pr (K.int IntKind.i64))).st.sl, SA.d (K.str.pr (((K.int IntKind.i64).pr (K.int IntKind.i64)).st.sl.pr (((K.int IntKind.i64).pr (K.int IntKind.i64)).st.sl.pr (((K.int IntKind.i64).pr (K.int IntKind.i64)).st.sl.pr (K.int IntKind.i64))))).st.sl]), (2, SO.box [SA.d K.str, SA.fx (Atom.sl 4 0 none), SA.fx (Atom.sl 5 0 none)]), (3, SO.box [SA.d K.str, SA.fx (Atom.sl 6 0 none), SA.fx (Atom.sl 7 0 none)]), (4, SO.row (K.str.pr ((K.int IntKind.i64).pr (K.int IntKind.i64))).st 0), (5, SO.row (K.str.pr (((K.int IntKind.i64).pr (K.int IntKind.i64)).st.sl.pr (((K.int IntKind.i64).pr (K.int IntKind.i64)).st.sl.pr (((K.int IntKind.i64).pr (K.int IntKind.i64)).st.sl.pr (K.int IntKind.i64))))).st 0), (6, SO.row (K.str.pr ((K.int IntKind.i64).pr (K.int IntKind.i64))).st 0), (7, SO.row (K.str.pr (((K.int IntKind.i64).pr (K.int IntKind.i64)).st.sl.pr (((K.int IntKind.i64).pr (K.int IntKind.i64)).st.sl.pr (((K.int IntKind.i64).pr (K.int IntKind.i64)).st.sl.pr (K.int IntKind.i64))))).st 0)], nx := 8 }
def L2.x0 : Sh := { sl := [(2, SV.a (SA.fx (Atom.box 0 0))), (3, SV.a (SA.fx (Atom.box 1 0))), (4, SV.a (SA.fx (Atom.box 2 0))), (5, SV.a (SA.d (K.int IntKind.i64))), (8, SV.a (SA.fx (Atom.fn 61 [0]))), (9, SV.a (SA.fx (Atom.box 3 0)))], os := [(0, SO.box [SA.d K.str, SA.d (K.str.pr ((K.int IntKind.i64).pr (K.int IntKind.i64))).st.sl, SA.d (K.str.pr (((K.int IntKind.i64).pr (K.int IntKind.i64)).st.sl.pr (((K.int IntKind.i64).pr (K.int IntKind.i64)).st.sl.pr (((K.int IntKind.i64).pr (K.int IntKind.i64)).st.sl.pr (K.int IntKind.i64))))).st.sl]), (1, SO.box [SA.d K.str, SA.d (K.str.pr ((K.int IntKind.i64).pr (K.int IntKind.i64))).st.sl, SA.d (K.str.pr (((K.int IntKind.i64).pr (K.int IntKind.i64)).st.sl.pr (((K.int IntKind.i64).pr (K.int IntKind.i64)).st.sl.pr (((K.int IntKind.i64).pr (K.int IntKind.i64)).st.sl.pr (K.int IntKind.i64))))).st.sl]), (2, SO.box [SA.d K.str, SA.fx (Atom.sl 4 0 none), SA.fx (Atom.sl 5 0 none)]), (3, SO.box [SA.d K.str, SA.fx (Atom.sl 6 0 none), SA.fx (Atom.sl 7 0 none)]), (4, SO.row (K.str.pr ((K.int IntKind.i64).pr (K.int IntKind.i64))).st 0), (5, SO.row (K.str.pr (((K.int IntKind.i64).pr (K.int IntKind.i64)).st.sl.pr (((K.int IntKind.i64).pr (K.int IntKind.i64)).st.sl.pr (((K.int IntKind.i64).pr (K.int IntKind.i64)).st.sl.pr (K.int IntKind.i64))))).st 0), (6, SO.row (K.str.pr ((K.int IntKind.i64).pr (K.int IntKind.i64))).st 0), (7, SO.row (K.str.pr (((K.int IntKind.i64).pr (K.int IntKind.i64)).st.sl.pr (((K.int IntKind.i64).pr (K.int IntKind.i64)).st.sl.pr (((K.int IntKind.i64).pr (K.int IntKind.i64)).st.sl.pr (K.int IntKind.i64))))).st 0)], nx := 8 }
def L2.x1 : Sh := { sl := [(2, SV.a (SA.fx (Atom.box 0 0))), (3, SV.a (SA.fx (Atom.box 1 0))), (4, SV.a (SA.fx (Atom.box 2 0))), (5, SV.j), (8, SV.a (SA.fx (Atom.fn 61 [0]))), (9, SV.a (SA.fx (Atom.box 3 0)))], os := [(0, SO.box [SA.d K.str, SA.d (K.str.pr ((K.int IntKind.i64).pr (K.int IntKind.i64))).st.sl, SA.d (K.str.pr (((K.int IntKind.i64).pr (K.int IntKind.i64)).st.sl.pr (((K.int IntKind.i64).pr (K.int IntKind.i64)).st.sl.pr (((K.int IntKind.i64).pr (K.int IntKind.i64)).st.sl.pr (K.int IntKind.i64))))).st.sl]), (1, SO.box [SA.d K.str, SA.d (K.str.pr ((K.int IntKind.i64).pr (K.int IntKind.i64))).st.sl, SA.d (K.str.pr (((K.int IntKind.i64).pr (K.int IntKind.i64)).st.sl.pr (((K.int IntKind.i64).pr (K.int IntKind.i64)).st.sl.pr (((K.int IntKind.i64).pr (K.int IntKind.i64)).st.sl.pr (K.int IntKind.i64))))).st.sl]), (2, SO.box [SA.d K.str, SA.fx (Atom.sl 4 0 none), SA.fx (Atom.sl 5 0 none)]), (3, SO.box [SA.d K.str, SA.fx (Atom.sl 6 0 none), SA.fx (Atom.sl 7 0 none)]), (4, SO.row (K.str.pr ((K.int IntKind.i64).pr (K.int IntKind.i64))).st 0), (5, SO.row (K.str.pr (((K.int IntKind.i64).pr (K.int IntKind.i64)).st.sl.pr (((K.int IntKind.i64).pr (K.int IntKind.i64)).st.sl.pr (((K.int IntKind.i64).pr (K.int IntKind.i64)).st.sl.pr (K.int IntKind.i64))))).st 0), (6, SO.row (K.str.pr ((K.int IntKind.i64).pr (K.int IntKind.i64))).st 0), (7, SO.row (K.str.pr (((K.int IntKind.i64).pr (K.int IntKind.i64)).st.sl.pr (((K.int IntKind.i64).pr (K.int IntKind.i64)).st.sl.pr (((K.int IntKind.i64).pr (K.int IntKind.i64)).st.sl.pr (K.int IntKind.i64))))).st 0)], nx := 8 }
def L2.st {α : Type} (N : Nat) (x49 : (List (BA × Int × Int))) (x50 : Int) (x52 : BA) (x53 : (List (BA × Int × Int))) (x54 : (List (BA × List (Int × Int) × List (Int × Int) × List (Int × Int) × Int))) (φ : (Int → (List (BA × Int × Int)) → Option α)) (x51 : Int) (x62 : (List (BA × Int × Int))) (k0 : (Int → BA → (List (BA × Int × Int)) → (List (BA × List (Int × Int) × List (Int × Int) × List (Int × Int) × Int)) → (List (BA × Int × Int)) → Option α)) (k1 : ((List (BA × Int × Int)) → Option α)) : Option α :=
 cond (decide (x51 < x50)) (cond (decide (0 ≤ x51) && decide (x51 < (↑x49.length : Int))) (cond ((tf_Union_1.spec (x49.getD x51.toNat (eBA, 0, 0)).fst (x52, x53, x54))) (k0 (6) ((ByteArray.mk (#[]))) ([]) ([]) (x62)) (cond ((x62.length + 1).ble mxl) (φ (IntKind.i64.wrap (x51 + 1)) (x62 ++ [x49.getD x51.toNat (eBA, 0, 0)])) (none))) (none)) (k1 (x62))
def L2.f {α : Type} (N : Nat) (c0 : (List (BA × Int × Int))) (c1 : Int) (c2 : BA) (c3 : (List (BA × Int × Int))) (c4 : (List (BA × List (Int × Int) × List (Int × Int) × List (Int × Int) × Int))) : Nat → Int → (List (BA × Int × Int)) → (Int → BA → (List (BA × Int × Int)) → (List (BA × List (Int × Int) × List (Int × Int) × List (Int × Int) × Int)) → (List (BA × Int × Int)) → Option α) → ((List (BA × Int × Int)) → Option α) → Option α
 | 0, _, _, _, _ => none
 | n + 1, d0, d1, k0, k1 => L2.st N c0 c1 c2 c3 c4 (fun e0 e1 => L2.f N c0 c1 c2 c3 c4 n e0 e1 k0 k1) d0 d1 k0 k1
def L2.up (d : L2.sh.T) (e0 : Int) (e1 : (List (BA × Int × Int))) : L2.sh.T := (((), ((), ((), ((), ((), (d.1.2.2.2.2.2.1, (d.1.2.2.2.2.2.2.1, (e0, ())))))))), ((d.2.1.1, (d.2.1.2.1, (d.2.1.2.2.1, ()))), ((d.2.2.1.1, (d.2.2.1.2.1, (d.2.2.1.2.2.1, ()))), ((d.2.2.2.1.1, ((), ((), ()))), ((d.2.2.2.2.1.1, ((), ((), ()))), (d.2.2.2.2.2.1, (d.2.2.2.2.2.2.1, (e1, (d.2.2.2.2.2.2.2.2.1, ())))))))))
def L2.k0 {α : Type} (d : L2.sh.T) (K : Cont α) : (Int → BA → (List (BA × Int × Int)) → (List (BA × List (Int × Int) × List (Int × Int) × List (Int × Int) × Int)) → (List (BA × Int × Int)) → Option α) := fun y0 y1 y2 y3 y4 => K (Exit.ret) (L2.x0.enc (((), ((), ((), (y0, ((), ((), ())))))), ((d.2.1.1, (d.2.1.2.1, (d.2.1.2.2.1, ()))), ((d.2.2.1.1, (d.2.2.1.2.1, (d.2.2.1.2.2.1, ()))), ((y1, ((), ((), ()))), ((d.2.2.2.2.1.1, ((), ((), ()))), (y2, (y3, (y4, (d.2.2.2.2.2.2.2.2.1, ()))))))))))
def L2.k1 {α : Type} (d : L2.sh.T) (K : Cont α) : ((List (BA × Int × Int)) → Option α) := fun y0 => K (Exit.exit 0) (L2.x1.enc (((), ((), ((), ((), ((), ((), ())))))), ((d.2.1.1, (d.2.1.2.1, (d.2.1.2.2.1, ()))), ((d.2.2.1.1, (d.2.2.1.2.1, (d.2.2.1.2.2.1, ()))), ((d.2.2.2.1.1, ((), ((), ()))), ((d.2.2.2.2.1.1, ((), ((), ()))), (d.2.2.2.2.2.1, (d.2.2.2.2.2.2.1, (y0, (d.2.2.2.2.2.2.2.2.1, ()))))))))))
def L2.F {α : Type} (N : Nat) (d : L2.sh.T) (K : Cont α) : Option α := L2.f N d.1.2.2.2.2.2.1 d.1.2.2.2.2.2.2.1 d.2.1.1 d.2.1.2.1 d.2.1.2.2.1 N d.1.2.2.2.2.2.2.2.1 d.2.2.2.2.2.2.2.1 (L2.k0 d K) (L2.k1 d K)
def L3.sh : Sh := { sl := [(4, SV.a (SA.fx (Atom.box 0 0))), (8, SV.a (SA.fx (Atom.fn 61 [1]))), (9, SV.a (SA.fx (Atom.box 2 0))), (12, SV.a (SA.d (K.int IntKind.i64))), (76, SV.a (SA.d (K.str.pr (((K.int IntKind.i64).pr (K.int IntKind.i64)).st.sl.pr (((K.int IntKind.i64).pr (K.int IntKind.i64)).st.sl.pr (((K.int IntKind.i64).pr (K.int IntKind.i64)).st.sl.pr (K.int IntKind.i64))))).st.sl)), (77, SV.a (SA.d (K.int IntKind.i64))), (78, SV.a (SA.d (K.int IntKind.i64)))], os := [(0, SO.box [SA.d K.str, SA.fx (Atom.sl 3 0 none), SA.fx (Atom.sl 4 0 none)]), (1, SO.box [SA.d K.str, SA.d (K.str.pr ((K.int IntKind.i64).pr (K.int IntKind.i64))).st.sl, SA.d (K.str.pr (((K.int IntKind.i64).pr (K.int IntKind.i64)).st.sl.pr (((K.int IntKind.i64).pr (K.int IntKind.i64)).st.sl.pr (((K.int IntKind.i64).pr (K.int IntKind.i64)).st.sl.pr (K.int IntKind.i64))))).st.sl]), (2, SO.box [SA.d K.str, SA.fx (Atom.sl 5 0 none), SA.fx (Atom.sl 6 0 none)]), (3, SO.row (K.str.pr ((K.int IntKind.i64).pr (K.int IntKind.i64))).st 0), (4, SO.row (K.str.pr (((K.int IntKind.i64).pr (K.int IntKind.i64)).st.sl.pr (((K.int IntKind.i64).pr (K.int IntKind.i64)).st.sl.pr (((K.int IntKind.i64).pr (K.int IntKind.i64)).st.sl.pr (K.int IntKind.i64))))).st 0), (5, SO.row (K.str.pr ((K.int IntKind.i64).pr (K.int IntKind.i64))).st 0), (6, SO.row (K.str.pr (((K.int IntKind.i64).pr (K.int IntKind.i64)).st.sl.pr (((K.int IntKind.i64).pr (K.int IntKind.i64)).st.sl.pr (((K.int IntKind.i64).pr (K.int IntKind.i64)).st.sl.pr (K.int IntKind.i64))))).st 0)], nx := 7 }
def L3.x0 : Sh := { sl := [(4, SV.a (SA.fx (Atom.box 0 0))), (5, SV.a (SA.d (K.int IntKind.i64))), (9, SV.a (SA.fx (Atom.box 1 0)))], os := [(0, SO.box [SA.d K.str, SA.fx (Atom.sl 2 0 none), SA.fx (Atom.sl 3 0 none)]), (1, SO.box [SA.d K.str, SA.fx (Atom.sl 4 0 none), SA.fx (Atom.sl 5 0 none)]), (2, SO.row (K.str.pr ((K.int IntKind.i64).pr (K.int IntKind.i64))).st 0), (3, SO.row (K.str.pr (((K.int IntKind.i64).pr (K.int IntKind.i64)).st.sl.pr (((K.int IntKind.i64).pr (K.int IntKind.i64)).st.sl.pr (((K.int IntKind.i64).pr (K.int IntKind.i64)).st.sl.pr (K.int IntKind.i64))))).st 0), (4, SO.row (K.str.pr ((K.int IntKind.i64).pr (K.int IntKind.i64))).st 0), (5, SO.row (K.str.pr (((K.int IntKind.i64).pr (K.int IntKind.i64)).st.sl.pr (((K.int IntKind.i64).pr (K.int IntKind.i64)).st.sl.pr (((K.int IntKind.i64).pr (K.int IntKind.i64)).st.sl.pr (K.int IntKind.i64))))).st 0)], nx := 6 }
def L3.x1 : Sh := { sl := [(4, SV.a (SA.fx (Atom.box 0 0))), (5, SV.j), (9, SV.a (SA.fx (Atom.box 1 0)))], os := [(0, SO.box [SA.d K.str, SA.fx (Atom.sl 2 0 none), SA.fx (Atom.sl 3 0 none)]), (1, SO.box [SA.d K.str, SA.fx (Atom.sl 4 0 none), SA.fx (Atom.sl 5 0 none)]), (2, SO.row (K.str.pr ((K.int IntKind.i64).pr (K.int IntKind.i64))).st 0), (3, SO.row (K.str.pr (((K.int IntKind.i64).pr (K.int IntKind.i64)).st.sl.pr (((K.int IntKind.i64).pr (K.int IntKind.i64)).st.sl.pr (((K.int IntKind.i64).pr (K.int IntKind.i64)).st.sl.pr (K.int IntKind.i64))))).st 0), (4, SO.row (K.str.pr ((K.int IntKind.i64).pr (K.int IntKind.i64))).st 0), (5, SO.row (K.str.pr (((K.int IntKind.i64).pr (K.int IntKind.i64)).st.sl.pr (((K.int IntKind.i64).pr (K.int IntKind.i64)).st.sl.pr (((K.int IntKind.i64).pr (K.int IntKind.i64)).st.sl.pr (K.int IntKind.i64))))).st 0)], nx := 6 }
def L3.st {α : Type} (N : Nat) (x70 : Int) (x71 : (List (BA × List (Int × Int) × List (Int × Int) × List (Int × Int) × Int))) (x72 : Int) (x75 : BA) (x76 : (List (BA × Int × Int))) (x77 : (List (BA × List (Int × Int) × List (Int × Int) × List (Int × Int) × Int))) (φ : (Int → (List (BA × List (Int × Int) × List (Int × Int) × List (Int × Int) × Int)) → Option α)) (x73 : Int) (x82 : (List (BA × List (Int × Int) × List (Int × Int) × List (Int × Int) × Int))) (k0 : (Int → BA → (List (BA × Int × Int)) → (List (BA × List (Int × Int) × List (Int × Int) × List (Int × Int) × Int)) → (List (BA × List (Int × Int) × List (Int × Int) × List (Int × Int) × Int)) → Option α)) (k1 : ((List (BA × List (Int × Int) × List (Int × Int) × List (Int × Int) × Int)) → Option α)) : Option α :=
 cond (decide (x73 < x72)) (cond (decide (0 ≤ x73) && decide (x73 < (↑x71.length : Int))) (cond ((tf_Union_1.spec (x71.getD x73.toNat (eBA, [], [], [], 0)).fst (x75, x76, x77))) (k0 (6) ((ByteArray.mk (#[]))) ([]) ([]) (x82)) (cond (tf_shift.pre (x71.getD x73.toNat (eBA, [], [], [], 0)).snd.fst x70) (cond (tf_shift.pre (x71.getD x73.toNat (eBA, [], [], [], 0)).snd.snd.fst x70) (cond (tf_shift.pre (x71.getD x73.toNat (eBA, [], [], [], 0)).snd.snd.snd.fst x70) (cond (tf_shift.pre (x71.getD x73.toNat (eBA, [], [], [], 0)).snd.fst x70) (cond (tf_shift.pre (x71.getD x73.toNat (eBA, [], [], [], 0)).snd.snd.fst x70) (cond (tf_shift.pre (x71.getD x73.toNat (eBA, [], [], [], 0)).snd.snd.snd.fst x70) (cond ((x82.length + 1).ble mxl) (φ (IntKind.i64.wrap (x73 + 1)) (x82 ++ [((x71.getD x73.toNat (eBA, [], [], [], 0)).fst, (tf_shift.spec (x71.getD x73.toNat (eBA, [], [], [], 0)).snd.fst x70), (tf_shift.spec (x71.getD x73.toNat (eBA, [], [], [], 0)).snd.snd.fst x70), (tf_shift.spec (x71.getD x73.toNat (eBA, [], [], [], 0)).snd.snd.snd.fst x70), (x71.getD x73.toNat (eBA, [], [], [], 0)).snd.snd.snd.snd)])) (none)) (none)) (none)) (none)) (none)) (none)) (none))) (none)) (k1 (x82))
def L3.f {α : Type} (N : Nat) (c0 : Int) (c1 : (List (BA × List (Int × Int) × List (Int × Int) × List (Int × Int) × Int))) (c2 : Int) (c4 : BA) (c5 : (List (BA × Int × Int))) (c6 : (List (BA × List (Int × Int) × List (Int × Int) × List (Int × Int) × Int))) : Nat → Int → (List (BA × List (Int × Int) × List (Int × Int) × List (Int × Int) × Int)) → (Int → BA → (List (BA × Int × Int)) → (List (BA × List (Int × Int) × List (Int × Int) × List (Int × Int) × Int)) → (List (BA × List (Int × Int) × List (Int × Int) × List (Int × Int) × Int)) → Option α) → ((List (BA × List (Int × Int) × List (Int × Int) × List (Int × Int) × Int)) → Option α) → Option α
 | 0, _, _, _, _ => none
 | n + 1, d0, d1, k0, k1 => L3.st N c0 c1 c2 c4 c5 c6 (fun e0 e1 => L3.f N c0 c1 c2 c4 c5 c6 n e0 e1 k0 k1) d0 d1 k0 k1
def L3.up (d : L3.sh.T) (e0 : Int) (e1 : (List (BA × List (Int × Int) × List (Int × Int) × List (Int × Int) × Int))) : L3.sh.T := (((), ((), ((), (d.1.2.2.2.1, (d.1.2.2.2.2.1, (d.1.2.2.2.2.2.1, (e0, ()))))))), ((d.2.1.1, ((), ((), ()))), ((d.2.2.1.1, (d.2.2.1.2.1, (d.2.2.1.2.2.1, ()))), ((d.2.2.2.1.1, ((), ((), ()))), (d.2.2.2.2.1, (d.2.2.2.2.2.1, (d.2.2.2.2.2.2.1, (e1, ()))))))))
def L3.k0 {α : Type} (d : L3.sh.T) (K : Cont α) : (Int → BA → (List (BA × Int × Int)) → (List (BA × List (Int × Int) × List (Int × Int) × List (Int × Int) × Int)) → (List (BA × List (Int × Int) × List (Int × Int) × List (Int × Int) × Int)) → Option α) := fun y0 y1 y2 y3 y4 => K (Exit.ret) (L3.x0.enc (((), (y0, ((), ()))), ((y1, ((), ((), ()))), ((d.2.2.2.1.1, ((), ((), ()))), (y2, (y3, (d.2.2.2.2.2.2.1, (y4, ()))))))))
def L3.k1 {α : Type} (d : L3.sh.T) (K : Cont α) : ((List (BA × List (Int × Int) × List (Int × Int) × List (Int × Int) × Int)) → Option α) := fun y0 => K (Exit.exit 2) (L3.x1.enc (((), ((), ((), ()))), ((d.2.1.1, ((), ((), ()))), ((d.2.2.2.1.1, ((), ((), ()))), (d.2.2.2.2.1, (d.2.2.2.2.2.1, (d.2.2.2.2.2.2.1, (y0, ()))))))))
def L3.F {α : Type} (N : Nat) (d : L3.sh.T) (K : Cont α) : Option α := L3.f N d.1.2.2.2.1 d.1.2.2.2.2.1 d.1.2.2.2.2.2.1 d.2.2.1.1 d.2.2.1.2.1 d.2.2.1.2.2.1 N d.1.2.2.2.2.2.2.1 d.2.2.2.2.2.2.2.1 (L3.k0 d K) (L3.k1 d K)
def ents27 {α : Type} (N : Nat) : List (SmE α) := [⟨0, 50, 12, [⟨L2.sh, L2.F N⟩]⟩, ⟨0, 50, 20, [⟨L3.sh, L3.F N⟩]⟩]
def ents35 {α : Type} (N : Nat) : List (SmE α) := [⟨5, 49, 3, [⟨L0.sh, L0.F N⟩]⟩, ⟨5, 49, 8, [⟨L1.sh, L1.F N⟩]⟩]
def C (N : Nat) : Ctx := ⟨tys, [(49, tf_samePlace.fent), (53, net_Check.fent), (65, tf_shift.fent), (61, tf_Union_1.fent), (64, tf_Union_2.fent), (72, tf_clone.fent)], [(35, ⟨Tryd.f35, an35, fun α lo d r => smL (ents35 N) lo d r⟩)], N⟩
def L0.B {α : Type} (N : Nat) : Env → Cont α → Option α := evC tys 62 5 (evCall (C N) 49) (evCallQ (C N)) N an35 (smL (ents35 N) 5 49) (loopOf 3 Tryd.f35)
theorem L0.r {α : Type} (N : Nat) (φ : Env → Option α) (K : Cont α) (d : L0.sh.T) : L0.B N (L0.sh.enc d) (contL φ K (Env.norm 5 [1, 2, 3, 6, 7, 16, 17, 18]) (Env.norm 5 [2, 3, 6, 7])) = L0.st N d.1.2.2.2.2.2.1 d.1.2.2.2.2.2.2.1 (fun e0 e1 => φ (L0.sh.enc (L0.up d e0 e1))) d.1.2.2.2.2.2.2.2.1 d.2.2.2.2.2.2.2.2.1 (L0.k0 d K) := by kernel_rfl
theorem L0.e {α : Type} (N : Nat) : ∀ (n : Nat) (d : L0.sh.T) (K : Cont α), evL (L0.B N) (Env.norm 5 [1, 2, 3, 6, 7, 16, 17, 18]) (Env.norm 5 [2, 3, 6, 7]) n (L0.sh.enc d) K = L0.f N d.1.2.2.2.2.2.1 d.1.2.2.2.2.2.2.1 n d.1.2.2.2.2.2.2.2.1 d.2.2.2.2.2.2.2.2.1 (L0.k0 d K)
 | 0, d, K => rfl
 | n + 1, d, K => evL_contL.trans ((L0.r N _ K d).trans (congrArg (fun φ => L0.st N d.1.2.2.2.2.2.1 d.1.2.2.2.2.2.2.1 φ d.1.2.2.2.2.2.2.2.1 d.2.2.2.2.2.2.2.2.1 (L0.k0 d K)) (funext fun e0 => funext fun e1 => L0.e N n (L0.up d e0 e1) K)))
def L1.B {α : Type} (N : Nat) : Env → Cont α → Option α := evC tys 62 5 (evCall (C N) 49) (evCallQ (C N)) N an35 (smL (ents35 N) 5 49) (loopOf 8 Tryd.f35)
theorem L1.r {α : Type} (N : Nat) (φ : Env → Option α) (K : Cont α) (d : L1.sh.T) : L1.B N (L1.sh.enc d) (contL φ K (Env.norm 5 [2, 6, 7, 34, 35, 36]) (Env.norm 5 [6, 7])) = L1.st N d.1.2.2.2.1 d.1.2.2.2.2.1 (fun e0 e1 => φ (L1.sh.enc (L1.up d e0 e1))) d.1.2.2.2.2.2.1 d.2.2.2.2.2.2.2.2.1 (L1.k0 d K) := by kernel_rfl
theorem L1.e {α : Type} (N : Nat) : ∀ (n : Nat) (d : L1.sh.T) (K : Cont α), evL (L1.B N) (Env.norm 5 [2, 6, 7, 34, 35, 36]) (Env.norm 5 [6, 7]) n (L1.sh.enc d) K = L1.f N d.1.2.2.2.1 d.1.2.2.2.2.1 n d.1.2.2.2.2.2.1 d.2.2.2.2.2.2.2.2.1 (L1.k0 d K)
 | 0, d, K => rfl
 | n + 1, d, K => evL_contL.trans ((L1.r N _ K d).trans (congrArg (fun φ => L1.st N d.1.2.2.2.1 d.1.2.2.2.2.1 φ d.1.2.2.2.2.2.1 d.2.2.2.2.2.2.2.2.1 (L1.k0 d K)) (funext fun e0 => funext fun e1 => L1.e N n (L1.up d e0 e1) K)))
def L2.B {α : Type} (N : Nat) : Env → Cont α → Option α := evC tys 110 0 (evCall (C N) 50) (evCallQ (C N)) N an27 (smL (ents27 N) 0 50) (loopOf 12 Tryd.f27)
theorem L2.r {α : Type} (N : Nat) (φ : Env → Option α) (K : Cont α) (d : L2.sh.T) : L2.B N (L2.sh.enc d) (contL φ K (Env.norm 0 [2, 3, 4, 8, 9, 54, 55, 56]) (Env.norm 0 [2, 3, 4, 5, 8, 9])) = L2.st N d.1.2.2.2.2.2.1 d.1.2.2.2.2.2.2.1 d.2.1.1 d.2.1.2.1 d.2.1.2.2.1 (fun e0 e1 => φ (L2.sh.enc (L2.up d e0 e1))) d.1.2.2.2.2.2.2.2.1 d.2.2.2.2.2.2.2.1 (L2.k0 d K) (L2.k1 d K) := by kernel_rfl
theorem L2.e {α : Type} (N : Nat) : ∀ (n : Nat) (d : L2.sh.T) (K : Cont α), evL (L2.B N) (Env.norm 0 [2, 3, 4, 8, 9, 54, 55, 56]) (Env.norm 0 [2, 3, 4, 5, 8, 9]) n (L2.sh.enc d) K = L2.f N d.1.2.2.2.2.2.1 d.1.2.2.2.2.2.2.1 d.2.1.1 d.2.1.2.1 d.2.1.2.2.1 n d.1.2.2.2.2.2.2.2.1 d.2.2.2.2.2.2.2.1 (L2.k0 d K) (L2.k1 d K)
 | 0, d, K => rfl
 | n + 1, d, K => evL_contL.trans ((L2.r N _ K d).trans (congrArg (fun φ => L2.st N d.1.2.2.2.2.2.1 d.1.2.2.2.2.2.2.1 d.2.1.1 d.2.1.2.1 d.2.1.2.2.1 φ d.1.2.2.2.2.2.2.2.1 d.2.2.2.2.2.2.2.1 (L2.k0 d K) (L2.k1 d K)) (funext fun e0 => funext fun e1 => L2.e N n (L2.up d e0 e1) K)))
def L3.B {α : Type} (N : Nat) : Env → Cont α → Option α := evC tys 110 0 (evCall (C N) 50) (evCallQ (C N)) N an27 (smL (ents27 N) 0 50) (loopOf 20 Tryd.f27)
theorem L3.r {α : Type} (N : Nat) (φ : Env → Option α) (K : Cont α) (d : L3.sh.T) : L3.B N (L3.sh.enc d) (contL φ K (Env.norm 0 [4, 8, 9, 12, 76, 77, 78]) (Env.norm 0 [4, 5, 9])) = L3.st N d.1.2.2.2.1 d.1.2.2.2.2.1 d.1.2.2.2.2.2.1 d.2.2.1.1 d.2.2.1.2.1 d.2.2.1.2.2.1 (fun e0 e1 => φ (L3.sh.enc (L3.up d e0 e1))) d.1.2.2.2.2.2.2.1 d.2.2.2.2.2.2.2.1 (L3.k0 d K) (L3.k1 d K) := by kernel_rfl
theorem L3.e {α : Type} (N : Nat) : ∀ (n : Nat) (d : L3.sh.T) (K : Cont α), evL (L3.B N) (Env.norm 0 [4, 8, 9, 12, 76, 77, 78]) (Env.norm 0 [4, 5, 9]) n (L3.sh.enc d) K = L3.f N d.1.2.2.2.1 d.1.2.2.2.2.1 d.1.2.2.2.2.2.1 d.2.2.1.1 d.2.2.1.2.1 d.2.2.1.2.2.1 n d.1.2.2.2.2.2.2.1 d.2.2.2.2.2.2.2.1 (L3.k0 d K) (L3.k1 d K)
 | 0, d, K => rfl
 | n + 1, d, K => evL_contL.trans ((L3.r N _ K d).trans (congrArg (fun φ => L3.st N d.1.2.2.2.1 d.1.2.2.2.2.1 d.1.2.2.2.2.2.1 d.2.2.1.1 d.2.2.1.2.1 d.2.2.1.2.2.1 φ d.1.2.2.2.2.2.2.1 d.2.2.2.2.2.2.2.1 (L3.k0 d K) (L3.k1 d K)) (funext fun e0 => funext fun e1 => L3.e N n (L3.up d e0 e1) K)))
theorem ents27_ok {α : Type} (N : Nat) : AllP (EntOk (C N) Tryd.f27 an27 (ents27 (α := α) N)) (ents27 N) := ⟨entOk_of (b0 := loopOf 12 Tryd.f27) (li0 := [2, 3, 4, 8, 9, 54, 55, 56]) (lx0 := [2, 3, 4, 5, 8, 9]) (by kernel_rfl) (by kernel_rfl) ⟨fun d K => L2.e N N d K, trivial⟩, entOk_of (b0 := loopOf 20 Tryd.f27) (li0 := [4, 8, 9, 12, 76, 77, 78]) (lx0 := [4, 5, 9]) (by kernel_rfl) (by kernel_rfl) ⟨fun d K => L3.e N N d K, trivial⟩, trivial⟩
theorem ents35_ok {α : Type} (N : Nat) : AllP (EntOk (C N) Tryd.f35 an35 (ents35 (α := α) N)) (ents35 N) := ⟨entOk_of (b0 := loopOf 3 Tryd.f35) (li0 := [1, 2, 3, 6, 7, 16, 17, 18]) (lx0 := [2, 3, 6, 7]) (by kernel_rfl) (by kernel_rfl) ⟨fun d K => L0.e N N d K, trivial⟩, entOk_of (b0 := loopOf 8 Tryd.f35) (li0 := [2, 6, 7, 34, 35, 36]) (lx0 := [6, 7]) (by kernel_rfl) (by kernel_rfl) ⟨fun d K => L1.e N N d K, trivial⟩, trivial⟩
def g {α : Type} (N : Nat) (a0 : BA × List (BA × Int × Int) × List (BA × List (Int × Int) × List (Int × Int) × List (Int × Int) × Int)) (a1 : BA × List (BA × Int × Int) × List (BA × List (Int × Int) × List (Int × Int) × List (Int × Int) × Int)) (kr : ((BA × List (BA × Int × Int) × List (BA × List (Int × Int) × List (Int × Int) × List (Int × Int) × Int)) → Int → Option α)) : Option α :=
 cond ((net_Check.spec a0).fst != 0) (kr (((ByteArray.mk (#[])), [], [])) ((net_Check.spec a0).fst)) (cond ((net_Check.spec a1).fst != 0) (kr (((ByteArray.mk (#[])), [], [])) ((net_Check.spec a1).fst)) (cond (decide (24 < IntKind.i64.wrap ((↑(List.length a0.snd.fst) : Int) + (↑(List.length a1.snd.fst) : Int)))) (kr (((ByteArray.mk (#[])), [], [])) (2)) (cond (decide (24 < IntKind.i64.wrap ((↑(List.length a0.snd.snd) : Int) + (↑(List.length a1.snd.snd) : Int)))) (kr (((ByteArray.mk (#[])), [], [])) (2)) (L0.f N (a0.snd.fst) ((↑(List.length a0.snd.fst) : Int)) N (0) ([]) (fun x25 => L1.f N (a0.snd.snd) ((↑(List.length a0.snd.snd) : Int)) N (0) ([]) (fun x48 => L2.f N (a1.snd.fst) ((↑(List.length a1.snd.fst) : Int)) (a0.fst) (a0.snd.fst) (a0.snd.snd) N (0) (x25) (fun x64 x65 x66 x67 x68 => kr ((x65, x66, x67)) (x64)) (fun x69 => L3.f N ((↑(List.length a0.snd.fst) : Int)) (a1.snd.snd) ((↑(List.length a1.snd.snd) : Int)) (a0.fst) (a0.snd.fst) (a0.snd.snd) N (0) (x48) (fun x83 x84 x85 x86 x87 => kr ((x84, x85, x86)) (x83)) (fun x88 => kr ((a0.fst, x69, x88)) (0)))))))))
theorem eq (N : Nat) (a0 : BA × List (BA × Int × Int) × List (BA × List (Int × Int) × List (Int × Int) × List (Int × Int) × Int)) (a1 : BA × List (BA × Int × Int) × List (BA × List (Int × Int) × List (Int × Int) × List (Int × Int) × Int)) : evF (C N) 50 Tryd.f27 an27 (smL (ents27 N) 0 50) [((.st (.pr (.str) (.pr (.sl (.st (.pr (.str) (.pr (.int .i64) (.int .i64))))) (.sl (.st (.pr (.str) (.pr (.sl (.st (.pr (.int .i64) (.int .i64)))) (.pr (.sl (.st (.pr (.int .i64) (.int .i64)))) (.pr (.sl (.st (.pr (.int .i64) (.int .i64)))) (.int .i64))))))))) : K), false), ((.int .i64 : K), false)] [⟨.st (.pr (.str) (.pr (.sl (.st (.pr (.str) (.pr (.int .i64) (.int .i64))))) (.sl (.st (.pr (.str) (.pr (.sl (.st (.pr (.int .i64) (.int .i64)))) (.pr (.sl (.st (.pr (.int .i64) (.int .i64)))) (.pr (.sl (.st (.pr (.int .i64) (.int .i64)))) (.int .i64))))))))), a0⟩, ⟨.st (.pr (.str) (.pr (.sl (.st (.pr (.str) (.pr (.int .i64) (.int .i64))))) (.sl (.st (.pr (.str) (.pr (.sl (.st (.pr (.int .i64) (.int .i64)))) (.pr (.sl (.st (.pr (.int .i64) (.int .i64)))) (.pr (.sl (.st (.pr (.int .i64) (.int .i64)))) (.int .i64))))))))), a1⟩] = g N a0 a1 (fun r0 r1 => some [.dat ((K.str.pr ((K.str.pr ((K.int IntKind.i64).pr (K.int IntKind.i64))).st.sl.pr (K.str.pr (((K.int IntKind.i64).pr (K.int IntKind.i64)).st.sl.pr (((K.int IntKind.i64).pr (K.int IntKind.i64)).st.sl.pr (((K.int IntKind.i64).pr (K.int IntKind.i64)).st.sl.pr (K.int IntKind.i64))))).st.sl)).st) r0, .dat (K.int IntKind.i64) r1]) := by kernel_rfl
theorem ctxOk (N : Nat) : CtxOk P (C N) := ctxOk_of tysOk mixedOk ⟨tf_samePlace.ok, net_Check.ok, tf_shift.ok, tf_Union_1.ok, tf_Union_2.ok, tf_clone.ok, trivial⟩ ⟨⟨⟨by rfl, by kernel_rfl⟩, fun α lo d c hc => smL_ok (ents35_ok N) lo d hc⟩, trivial⟩
theorem calls (N : Nat) (a0 : BA × List (BA × Int × Int) × List (BA × List (Int × Int) × List (Int × Int) × List (Int × Int) × Int)) (a1 : BA × List (BA × Int × Int) × List (BA × List (Int × Int) × List (Int × Int) × List (Int × Int) × Int)) {rs : List Rs} (h : g N a0 a1 (fun r0 r1 => some [.dat ((K.str.pr ((K.str.pr ((K.int IntKind.i64).pr (K.int IntKind.i64))).st.sl.pr (K.str.pr (((K.int IntKind.i64).pr (K.int IntKind.i64)).st.sl.pr (((K.int IntKind.i64).pr (K.int IntKind.i64)).st.sl.pr (((K.int IntKind.i64).pr (K.int IntKind.i64)).st.sl.pr (K.int IntKind.i64))))).st.sl)).st) r0, .dat (K.int IntKind.i64) r1]) = some rs) : CallsTo P 27 [⟨.st (.pr (.str) (.pr (.sl (.st (.pr (.str) (.pr (.int .i64) (.int .i64))))) (.sl (.st (.pr (.str) (.pr (.sl (.st (.pr (.int .i64) (.int .i64)))) (.pr (.sl (.st (.pr (.int .i64) (.int .i64)))) (.pr (.sl (.st (.pr (.int .i64) (.int .i64)))) (.int .i64))))))))), a0⟩, ⟨.st (.pr (.str) (.pr (.sl (.st (.pr (.str) (.pr (.int .i64) (.int .i64))))) (.sl (.st (.pr (.str) (.pr (.sl (.st (.pr (.int .i64) (.int .i64)))) (.pr (.sl (.st (.pr (.int .i64) (.int .i64)))) (.pr (.sl (.st (.pr (.int .i64) (.int .i64)))) (.int .i64))))))))), a1⟩] rs := evF_calls' (ctxOk N) (by rfl) (ents27_ok N) ((eq N a0 a1).trans h)
def L0.l {α : Type} (N : Nat) (x0 : (List (BA × Int × Int))) (k0 : ((List (BA × Int × Int)) → Option α)) : List (BA × Int × Int) → Int → (List (BA × Int × Int)) → Option α
 | [], x2, x12 => k0 (x12)
 | x :: l, x2, x12 => (cond ((x12.length + 1).ble mxl) (cond ((x12.length + 1).ble mxl) (L0.l N x0 k0 l (x2 + 1) (x12 ++ [(tf_samePlace.spec x2 x)])) (none)) (none))
theorem L0.rng {α : Type} {N : Nat} (x0 : (List (BA × Int × Int))) (hl : x0.length ≤ maxLen) (k0 : ((List (BA × Int × Int)) → Option α)) : ∀ (n j : Nat) (x12 : (List (BA × Int × Int))), x0.length < n + j → j ≤ x0.length → L0.f N x0 (x0.length : Int) n (j : Int) x12 k0 = L0.l N x0 k0 (x0.drop j) (j : Int) x12 :=
 rng1 x0 hl (fun n i x12 => L0.f N x0 (x0.length : Int) n i x12 k0) (fun l i x12 => L0.l N x0 k0 l i x12) (fun n j hj h ih x12 => by simp only [L0.f, L0.st, L0.l, h.a, h.b, h.c, h.d, h.e, Bool.true_and, Bool.and_true, Bool.and_self, cond_true, ih] <;> rfl) (fun n j h x12 => by simp only [L0.f, L0.st, L0.l, h, cond_false])
def L1.l {α : Type} (N : Nat) (x26 : (List (BA × List (Int × Int) × List (Int × Int) × List (Int × Int) × Int))) (k0 : ((List (BA × List (Int × Int) × List (Int × Int) × List (Int × Int) × Int)) → Option α)) : List (BA × List (Int × Int) × List (Int × Int) × List (Int × Int) × Int) → Int → (List (BA × List (Int × Int) × List (Int × Int) × List (Int × Int) × Int)) → Option α
 | [], x28, x36 => k0 (x36)
 | x :: l, x28, x36 => (cond (tf_clone.pre x.snd.fst) (cond (tf_clone.pre x.snd.snd.fst) (cond (tf_clone.pre x.snd.snd.snd.fst) (cond (tf_clone.pre x.snd.fst) (cond (tf_clone.pre x.snd.snd.fst) (cond (tf_clone.pre x.snd.snd.snd.fst) (cond ((x36.length + 1).ble mxl) (cond ((x36.length + 1).ble mxl) (L1.l N x26 k0 l (x28 + 1) (x36 ++ [(tf_Union_2.spec (x.fst, (tf_clone.spec x.snd.fst), (tf_clone.spec x.snd.snd.fst), (tf_clone.spec x.snd.snd.snd.fst), x.snd.snd.snd.snd))])) (none)) (none)) (none)) (none)) (none)) (none)) (none)) (none))
theorem L1.rng {α : Type} {N : Nat} (x26 : (List (BA × List (Int × Int) × List (Int × Int) × List (Int × Int) × Int))) (hl : x26.length ≤ maxLen) (k0 : ((List (BA × List (Int × Int) × List (Int × Int) × List (Int × Int) × Int)) → Option α)) : ∀ (n j : Nat) (x36 : (List (BA × List (Int × Int) × List (Int × Int) × List (Int × Int) × Int))), x26.length < n + j → j ≤ x26.length → L1.f N x26 (x26.length : Int) n (j : Int) x36 k0 = L1.l N x26 k0 (x26.drop j) (j : Int) x36 :=
 rng1 x26 hl (fun n i x36 => L1.f N x26 (x26.length : Int) n i x36 k0) (fun l i x36 => L1.l N x26 k0 l i x36) (fun n j hj h ih x36 => by simp only [L1.f, L1.st, L1.l, h.a, h.b, h.c, h.d, h.e, Bool.true_and, Bool.and_true, Bool.and_self, cond_true, ih] <;> rfl) (fun n j h x36 => by simp only [L1.f, L1.st, L1.l, h, cond_false])
def L2.l {α : Type} (N : Nat) (x49 : (List (BA × Int × Int))) (x52 : BA) (x53 : (List (BA × Int × Int))) (x54 : (List (BA × List (Int × Int) × List (Int × Int) × List (Int × Int) × Int))) (k0 : (Int → BA → (List (BA × Int × Int)) → (List (BA × List (Int × Int) × List (Int × Int) × List (Int × Int) × Int)) → (List (BA × Int × Int)) → Option α)) (k1 : ((List (BA × Int × Int)) → Option α)) : List (BA × Int × Int) → Int → (List (BA × Int × Int)) → Option α
 | [], x51, x62 => k1 (x62)
 | x :: l, x51, x62 => (cond ((tf_Union_1.spec x.fst (x52, x53, x54))) (k0 (6) ((ByteArray.mk (#[]))) ([]) ([]) (x62)) (cond ((x62.length + 1).ble mxl) (L2.l N x49 x52 x53 x54 k0 k1 l (x51 + 1) (x62 ++ [x])) (none)))
theorem L2.rng {α : Type} {N : Nat} (x49 : (List (BA × Int × Int))) (x52 : BA) (x53 : (List (BA × Int × Int))) (x54 : (List (BA × List (Int × Int) × List (Int × Int) × List (Int × Int) × Int))) (hl : x49.length ≤ maxLen) (k0 : (Int → BA → (List (BA × Int × Int)) → (List (BA × List (Int × Int) × List (Int × Int) × List (Int × Int) × Int)) → (List (BA × Int × Int)) → Option α)) (k1 : ((List (BA × Int × Int)) → Option α)) : ∀ (n j : Nat) (x62 : (List (BA × Int × Int))), x49.length < n + j → j ≤ x49.length → L2.f N x49 (x49.length : Int) x52 x53 x54 n (j : Int) x62 k0 k1 = L2.l N x49 x52 x53 x54 k0 k1 (x49.drop j) (j : Int) x62 :=
 rng1 x49 hl (fun n i x62 => L2.f N x49 (x49.length : Int) x52 x53 x54 n i x62 k0 k1) (fun l i x62 => L2.l N x49 x52 x53 x54 k0 k1 l i x62) (fun n j hj h ih x62 => by simp only [L2.f, L2.st, L2.l, h.a, h.b, h.c, h.d, h.e, Bool.true_and, Bool.and_true, Bool.and_self, cond_true, ih] <;> rfl) (fun n j h x62 => by simp only [L2.f, L2.st, L2.l, h, cond_false])
def L3.l {α : Type} (N : Nat) (x70 : Int) (x71 : (List (BA × List (Int × Int) × List (Int × Int) × List (Int × Int) × Int))) (x75 : BA) (x76 : (List (BA × Int × Int))) (x77 : (List (BA × List (Int × Int) × List (Int × Int) × List (Int × Int) × Int))) (k0 : (Int → BA → (List (BA × Int × Int)) → (List (BA × List (Int × Int) × List (Int × Int) × List (Int × Int) × Int)) → (List (BA × List (Int × Int) × List (Int × Int) × List (Int × Int) × Int)) → Option α)) (k1 : ((List (BA × List (Int × Int) × List (Int × Int) × List (Int × Int) × Int)) → Option α)) : List (BA × List (Int × Int) × List (Int × Int) × List (Int × Int) × Int) → Int → (List (BA × List (Int × Int) × List (Int × Int) × List (Int × Int) × Int)) → Option α
 | [], x73, x82 => k1 (x82)
 | x :: l, x73, x82 => (cond ((tf_Union_1.spec x.fst (x75, x76, x77))) (k0 (6) ((ByteArray.mk (#[]))) ([]) ([]) (x82)) (cond (tf_shift.pre x.snd.fst x70) (cond (tf_shift.pre x.snd.snd.fst x70) (cond (tf_shift.pre x.snd.snd.snd.fst x70) (cond (tf_shift.pre x.snd.fst x70) (cond (tf_shift.pre x.snd.snd.fst x70) (cond (tf_shift.pre x.snd.snd.snd.fst x70) (cond ((x82.length + 1).ble mxl) (L3.l N x70 x71 x75 x76 x77 k0 k1 l (x73 + 1) (x82 ++ [(x.fst, (tf_shift.spec x.snd.fst x70), (tf_shift.spec x.snd.snd.fst x70), (tf_shift.spec x.snd.snd.snd.fst x70), x.snd.snd.snd.snd)])) (none)) (none)) (none)) (none)) (none)) (none)) (none)))
theorem L3.rng {α : Type} {N : Nat} (x70 : Int) (x71 : (List (BA × List (Int × Int) × List (Int × Int) × List (Int × Int) × Int))) (x75 : BA) (x76 : (List (BA × Int × Int))) (x77 : (List (BA × List (Int × Int) × List (Int × Int) × List (Int × Int) × Int))) (hl : x71.length ≤ maxLen) (k0 : (Int → BA → (List (BA × Int × Int)) → (List (BA × List (Int × Int) × List (Int × Int) × List (Int × Int) × Int)) → (List (BA × List (Int × Int) × List (Int × Int) × List (Int × Int) × Int)) → Option α)) (k1 : ((List (BA × List (Int × Int) × List (Int × Int) × List (Int × Int) × Int)) → Option α)) : ∀ (n j : Nat) (x82 : (List (BA × List (Int × Int) × List (Int × Int) × List (Int × Int) × Int))), x71.length < n + j → j ≤ x71.length → L3.f N x70 x71 (x71.length : Int) x75 x76 x77 n (j : Int) x82 k0 k1 = L3.l N x70 x71 x75 x76 x77 k0 k1 (x71.drop j) (j : Int) x82 :=
 rng1 x71 hl (fun n i x82 => L3.f N x70 x71 (x71.length : Int) x75 x76 x77 n i x82 k0 k1) (fun l i x82 => L3.l N x70 x71 x75 x76 x77 k0 k1 l i x82) (fun n j hj h ih x82 => by simp only [L3.f, L3.st, L3.l, h.a, h.b, h.c, h.d, h.e, Bool.true_and, Bool.and_true, Bool.and_self, cond_true, ih] <;> rfl) (fun n j h x82 => by simp only [L3.f, L3.st, L3.l, h, cond_false])
end tf_Union
theorem tf_Union.L0.law {α : Type} {N : Nat} (x0 : (List (BA × Int × Int))) (k0 : ((List (BA × Int × Int)) → Option α)) : ∀ (l : List PlaceT) (j : Int) (acc : List PlaceT), acc.length + l.length ≤ 1000 → tf_Union.L0.l N x0 k0 l j acc = k0 (acc ++ l)
 | [], j, acc, _ => by rw [tf_Union.L0.l, List.append_nil]
 | x :: l, j, acc, h0 => by
  simp only [List.length_cons] at h0
  rw [tf_Union.L0.l, ble1 _ (by omega)]
  simp only [cond_true]
  rw [tf_Union.L0.law _ _ l _ _ (by simp; omega), List.append_assoc]
  rfl
theorem tf_Union.L1.law {α : Type} {N : Nat} (x26 : (List (BA × List (Int × Int) × List (Int × Int) × List (Int × Int) × Int))) (k0 : ((List (BA × List (Int × Int) × List (Int × Int) × List (Int × Int) × Int)) → Option α)) : ∀ (l : List TransT) (j : Int) (acc : List TransT), acc.length + l.length ≤ 1000 → (∀ t ∈ l, BigT t) → tf_Union.L1.l N x26 k0 l j acc = k0 (acc ++ l)
 | [], j, acc, _, h => by rw [tf_Union.L1.l, List.append_nil]
 | x :: l, j, acc, h0, h => by
  simp only [List.length_cons] at h0
  obtain ⟨h1, h2, h3⟩ := h x (by simp)
  rw [tf_Union.L1.l]
  simp only [tf_clone.pre, h1, h2, h3, cond_true]
  rw [ble1 _ (by omega)]
  simp only [cond_true]
  rw [tf_Union.L1.law _ _ l _ _ (by simp; omega) (fun t ht => h t (by simp [ht])), List.append_assoc]
  rfl
theorem tf_Union.L2.law {α : Type} {N : Nat} (x49 : (List (BA × Int × Int))) (x52 : BA) (x53 : (List (BA × Int × Int))) (x54 : (List (BA × List (Int × Int) × List (Int × Int) × List (Int × Int) × Int))) (k0 : (Int → BA → (List (BA × Int × Int)) → (List (BA × List (Int × Int) × List (Int × Int) × List (Int × Int) × Int)) → (List (BA × Int × Int)) → Option α)) (k1 : ((List (BA × Int × Int)) → Option α)) (r : Option α) (hr : ∀ z, k0 6 ⟨#[]⟩ [] [] z = r) (hv : (checkN (x52, x53, x54)).1 = 0) : ∀ (l : List PlaceT) (j : Int) (acc : List PlaceT), acc.length + l.length ≤ 1000 → tf_Union.L2.l N x49 x52 x53 x54 k0 k1 l j acc = cond (l.any fun p => knownN (x52, x53, x54) p.1) r (k1 (acc ++ l))
 | [], j, acc, _ => by rw [tf_Union.L2.l, List.append_nil]; rfl
 | x :: l, j, acc, h0 => by
  simp only [List.length_cons] at h0
  rw [tf_Union.L2.l, show tf_Union_1.spec x.1 (x52, x53, x54) = knownN (x52, x53, x54) x.1 by unfold tf_Union_1.spec; rw [hv]; rfl, List.any_cons]
  cases knownN (x52, x53, x54) x.1
  ·
   simp only [cond_false, Bool.false_or]
   rw [ble1 _ (by omega), cond_true, tf_Union.L2.law _ _ _ _ _ _ r hr hv l _ _ (by simp; omega), List.append_assoc]
   rfl
  ·
   simp only [cond_true, Bool.true_or]
   exact hr _
theorem tf_Union.L3.law {α : Type} {N : Nat} (x70 : Int) (x71 : (List (BA × List (Int × Int) × List (Int × Int) × List (Int × Int) × Int))) (x75 : BA) (x76 : (List (BA × Int × Int))) (x77 : (List (BA × List (Int × Int) × List (Int × Int) × List (Int × Int) × Int))) (k0 : (Int → BA → (List (BA × Int × Int)) → (List (BA × List (Int × Int) × List (Int × Int) × List (Int × Int) × Int)) → (List (BA × List (Int × Int) × List (Int × Int) × List (Int × Int) × Int)) → Option α)) (k1 : ((List (BA × List (Int × Int) × List (Int × Int) × List (Int × Int) × Int)) → Option α)) (r : Option α) (hr : ∀ z, k0 6 ⟨#[]⟩ [] [] z = r) (hv : (checkN (x75, x76, x77)).1 = 0) : ∀ (l : List TransT) (j : Int) (acc : List TransT), acc.length + l.length ≤ 1000 → (∀ t ∈ l, BigT t) → tf_Union.L3.l N x70 x71 x75 x76 x77 k0 k1 l j acc = cond (l.any fun p => knownN (x75, x76, x77) p.1) r (k1 (acc ++ l.map (shiftT x70)))
 | [], j, acc, _, _ => by rw [tf_Union.L3.l, List.map_nil, List.append_nil]; rfl
 | x :: l, j, acc, h0, h => by
  simp only [List.length_cons] at h0
  obtain ⟨h1, h2, h3⟩ := h x (by simp)
  rw [tf_Union.L3.l, show tf_Union_1.spec x.1 (x75, x76, x77) = knownN (x75, x76, x77) x.1 by unfold tf_Union_1.spec; rw [hv]; rfl, List.any_cons]
  cases knownN (x75, x76, x77) x.1
  ·
   simp only [tf_shift.pre, h1, h2, h3, cond_false, cond_true, Bool.false_or]
   rw [ble1 _ (by omega), cond_true, tf_Union.L3.law _ _ _ _ _ _ _ r hr hv l _ _ (by simp; omega) (fun t ht => h t (by simp [ht])), List.append_assoc]
   rfl
  ·
   simp only [cond_true, Bool.true_or]
   exact hr _
theorem tf_Union.law {α : Type} {N : Nat} (hN : 18446744073709551616 ≤ N) (a0 : BA × (List (BA × Int × Int)) × List (BA × (List (Int × Int)) × (List (Int × Int)) × (List (Int × Int)) × Int)) (a1 : BA × (List (BA × Int × Int)) × List (BA × (List (Int × Int)) × (List (Int × Int)) × (List (Int × Int)) × Int)) (w0 : K.wf (.st (.pr (.str) (.pr (.sl (.st (.pr (.str) (.pr (.int .i64) (.int .i64))))) (.sl (.st (.pr (.str) (.pr (.sl (.st (.pr (.int .i64) (.int .i64)))) (.pr (.sl (.st (.pr (.int .i64) (.int .i64)))) (.pr (.sl (.st (.pr (.int .i64) (.int .i64)))) (.int .i64)))))))))) a0) (w1 : K.wf (.st (.pr (.str) (.pr (.sl (.st (.pr (.str) (.pr (.int .i64) (.int .i64))))) (.sl (.st (.pr (.str) (.pr (.sl (.st (.pr (.int .i64) (.int .i64)))) (.pr (.sl (.st (.pr (.int .i64) (.int .i64)))) (.pr (.sl (.st (.pr (.int .i64) (.int .i64)))) (.int .i64)))))))))) a1) (kr : ((BA × (List (BA × Int × Int)) × List (BA × (List (Int × Int)) × (List (Int × Int)) × (List (Int × Int)) × Int)) → Int → Option α)) : tf_Union.g N a0 a1 kr = kr (tf_Union.spec a0 a1).1 (tf_Union.spec a0 a1).2 := by
 unfold tf_Union.g tf_Union.spec unionE
 simp only [net_Check.spec, bne, checkN_eta]
 cases hc : (checkN a0).1 == 0
 ·
  rfl
 cases hd : (checkN a1).1 == 0
 ·
  rfl
 have hv := checkN_t.1 hc
 have hv' := checkN_t.1 hd
 have hnp := hv.np
 have hnt := hv.nt
 have hnp' := hv'.np
 have hnt' := hv'.nt
 simp only [Bool.not_true, cond_false, cond_true]
 rw [wrap_i64 (inI_i64.2 (by omega : -9223372036854775808 ≤ ((List.length a0.2.1 : Nat) : Int) + ((List.length a1.2.1 : Nat) : Int) ∧ ((List.length a0.2.1 : Nat) : Int) + ((List.length a1.2.1 : Nat) : Int) ≤ 9223372036854775807)),
  wrap_i64 (inI_i64.2 (by omega : -9223372036854775808 ≤ ((List.length a0.2.2 : Nat) : Int) + ((List.length a1.2.2 : Nat) : Int) ∧ ((List.length a0.2.2 : Nat) : Int) + ((List.length a1.2.2 : Nat) : Int) ≤ 9223372036854775807))]
 by_cases h1 : 24 < a0.2.1.length + a1.2.1.length
 ·
  rw [decide_eq_true h1, decide_eq_true (by omega : (24 : Int) < ((List.length a0.2.1 : Nat) : Int) + ((List.length a1.2.1 : Nat) : Int))]
  rfl
 rw [decide_eq_false h1, decide_eq_false (by omega : ¬ (24 : Int) < ((List.length a0.2.1 : Nat) : Int) + ((List.length a1.2.1 : Nat) : Int))]
 by_cases h2 : 24 < a0.2.2.length + a1.2.2.length
 ·
  rw [decide_eq_true h2, decide_eq_true (by omega : (24 : Int) < ((List.length a0.2.2 : Nat) : Int) + ((List.length a1.2.2 : Nat) : Int))]
  rfl
 rw [decide_eq_false h2, decide_eq_false (by omega : ¬ (24 : Int) < ((List.length a0.2.2 : Nat) : Int) + ((List.length a1.2.2 : Nat) : Int))]
 simp only [Bool.or_self, cond_false]
 refine (tf_Union.L0.rng (N := N) _ (w0.2.1.1) _ N 0 _ (by have := le_fuel (w0.2.1.1) hN; omega) (Nat.zero_le _)).trans ?_
 refine (tf_Union.L0.law _ _ _ _ _ (by simp; omega)).trans ?_
 simp only [List.drop_zero, List.nil_append]
 refine (tf_Union.L1.rng (N := N) _ (w0.2.2.1) _ N 0 _ (by have := le_fuel (w0.2.2.1) hN; omega) (Nat.zero_le _)).trans ?_
 refine (tf_Union.L1.law _ _ _ _ _ (by simp; omega) (by simpa using hv.big)).trans ?_
 simp only [List.drop_zero, List.nil_append]
 refine (tf_Union.L2.rng (N := N) _ _ _ _ (w1.2.1.1) _ _ N 0 _ (by have := le_fuel (w1.2.1.1) hN; omega) (Nat.zero_le _)).trans ?_
 refine (tf_Union.L2.law _ _ _ _ _ _ (kr (noNet) 6) (fun _ => rfl) (by rw [checkN_eta]; exact beq0.1 hc) _ _ _ (by simp; omega)).trans ?_
 simp only [List.drop_zero, List.nil_append]
 rw [show (fun p : PlaceT => knownN (a0.1, a0.2.1, a0.2.2) p.1) = fun p => knownN a0 p.1 from rfl]
 cases List.any a1.2.1 _
 ·
  simp only [cond_false, Bool.false_or]
  refine (tf_Union.L3.rng (N := N) _ _ _ _ _ (w1.2.2.1) _ _ N 0 _ (by have := le_fuel (w1.2.2.1) hN; omega) (Nat.zero_le _)).trans ?_
  refine (tf_Union.L3.law _ _ _ _ _ _ _ (kr (noNet) 6) (fun _ => rfl) (by rw [checkN_eta]; exact beq0.1 hc) _ _ _ (by simp; omega) (by simpa using hv'.big)).trans ?_
  simp only [List.drop_zero]
  rw [show (fun p : TransT => knownN (a0.1, a0.2.1, a0.2.2) p.1) = fun p => knownN a0 p.1 from rfl]
  cases List.any a1.2.2 _ <;> rfl
 ·
  rfl
theorem tf_Union.ok : FentOk P 27 tf_Union.fent := fentOk_of (by kernel_rfl) fun ds hk => by
 obtain ⟨a0, l0, rfl, h0⟩ := ds_cons hk
 obtain ⟨a1, l1, rfl, h1⟩ := ds_cons h0
 obtain rfl := ds0 h1
 exact ⟨true, [.dat (.st (.pr (.str) (.pr (.sl (.st (.pr (.str) (.pr (.int .i64) (.int .i64))))) (.sl (.st (.pr (.str) (.pr (.sl (.st (.pr (.int .i64) (.int .i64)))) (.pr (.sl (.st (.pr (.int .i64) (.int .i64)))) (.pr (.sl (.st (.pr (.int .i64) (.int .i64)))) (.int .i64)))))))))) (tf_Union.spec a0 a1).1, .dat (.int .i64) (tf_Union.spec a0 a1).2], fun h hw => tf_Union.calls 18446744073709551616 a0 a1 (tf_Union.law (Nat.le_refl _) a0 a1 hw.1 hw.2.1 _), fun α k => rfl⟩
end Go.VI
namespace Go.VI
open Go Go.Proofs
namespace strconv_Itoa
def an39 : Ann := []
def an73 : Ann := []
def an91 : Ann := []
def an96 : Ann := []
def an97 : Ann := []
def an98 : Ann := [(1, [0, 1, 4], [0, 1, 4])]
def an99 : Ann := [(11, [0, 1, 3, 4, 10, 11, 12, 13, 14, 15, 16], [0, 1, 3, 4, 10, 11, 12, 13]), (18, [0, 1, 3, 4, 10, 11, 12, 13, 17], [0, 1, 3, 4, 10, 11, 12, 13])]
def an100 : Ann := []
def an101 : Ann := []
def an102 : Ann := []
def an103 : Ann := []
def an104 : Ann := []
def an105 : Ann := []
def an106 : Ann := []
def ents39 {α : Type} (N : Nat) : List (SmE α) := []
def ents73 {α : Type} (N : Nat) : List (SmE α) := []
def ents91 {α : Type} (N : Nat) : List (SmE α) := []
def ents96 {α : Type} (N : Nat) : List (SmE α) := []
def ents97 {α : Type} (N : Nat) : List (SmE α) := []
def ents98 {α : Type} (N : Nat) : List (SmE α) := []
def ents99 {α : Type} (N : Nat) : List (SmE α) := []
def ents100 {α : Type} (N : Nat) : List (SmE α) := []
def ents101 {α : Type} (N : Nat) : List (SmE α) := []
def ents102 {α : Type} (N : Nat) : List (SmE α) := []
def ents103 {α : Type} (N : Nat) : List (SmE α) := []
def ents104 {α : Type} (N : Nat) : List (SmE α) := []
def ents105 {α : Type} (N : Nat) : List (SmE α) := []
def ents106 {α : Type} (N : Nat) : List (SmE α) := []
def C (N : Nat) : Ctx := ⟨tys, [], [(73, ⟨Tryd.f73, an73, fun α lo d r => smL (ents73 N) lo d r⟩), (91, ⟨Tryd.f91, an91, fun α lo d r => smL (ents91 N) lo d r⟩), (96, ⟨Tryd.f96, an96, fun α lo d r => smL (ents96 N) lo d r⟩), (97, ⟨Tryd.f97, an97, fun α lo d r => smL (ents97 N) lo d r⟩), (98, ⟨Tryd.f98, an98, fun α lo d r => smL (ents98 N) lo d r⟩), (99, ⟨Tryd.f99, an99, fun α lo d r => smL (ents99 N) lo d r⟩), (100, ⟨Tryd.f100, an100, fun α lo d r => smL (ents100 N) lo d r⟩), (101, ⟨Tryd.f101, an101, fun α lo d r => smL (ents101 N) lo d r⟩), (102, ⟨Tryd.f102, an102, fun α lo d r => smL (ents102 N) lo d r⟩), (103, ⟨Tryd.f103, an103, fun α lo d r => smL (ents103 N) lo d r⟩), (104, ⟨Tryd.f104, an104, fun α lo d r => smL (ents104 N) lo d r⟩), (105, ⟨Tryd.f105, an105, fun α lo d r => smL (ents105 N) lo d r⟩), (106, ⟨Tryd.f106, an106, fun α lo d r => smL (ents106 N) lo d r⟩)], N⟩
theorem ents39_ok {α : Type} (N : Nat) : AllP (EntOk (C N) Tryd.f39 an39 (ents39 (α := α) N)) (ents39 N) := trivial
theorem ents73_ok {α : Type} (N : Nat) : AllP (EntOk (C N) Tryd.f73 an73 (ents73 (α := α) N)) (ents73 N) := trivial
theorem ents91_ok {α : Type} (N : Nat) : AllP (EntOk (C N) Tryd.f91 an91 (ents91 (α := α) N)) (ents91 N) := trivial
theorem ents96_ok {α : Type} (N : Nat) : AllP (EntOk (C N) Tryd.f96 an96 (ents96 (α := α) N)) (ents96 N) := trivial
theorem ents97_ok {α : Type} (N : Nat) : AllP (EntOk (C N) Tryd.f97 an97 (ents97 (α := α) N)) (ents97 N) := trivial
theorem ents98_ok {α : Type} (N : Nat) : AllP (EntOk (C N) Tryd.f98 an98 (ents98 (α := α) N)) (ents98 N) := trivial
theorem ents99_ok {α : Type} (N : Nat) : AllP (EntOk (C N) Tryd.f99 an99 (ents99 (α := α) N)) (ents99 N) := trivial
theorem ents100_ok {α : Type} (N : Nat) : AllP (EntOk (C N) Tryd.f100 an100 (ents100 (α := α) N)) (ents100 N) := trivial
theorem ents101_ok {α : Type} (N : Nat) : AllP (EntOk (C N) Tryd.f101 an101 (ents101 (α := α) N)) (ents101 N) := trivial
theorem ents102_ok {α : Type} (N : Nat) : AllP (EntOk (C N) Tryd.f102 an102 (ents102 (α := α) N)) (ents102 N) := trivial
theorem ents103_ok {α : Type} (N : Nat) : AllP (EntOk (C N) Tryd.f103 an103 (ents103 (α := α) N)) (ents103 N) := trivial
theorem ents104_ok {α : Type} (N : Nat) : AllP (EntOk (C N) Tryd.f104 an104 (ents104 (α := α) N)) (ents104 N) := trivial
theorem ents105_ok {α : Type} (N : Nat) : AllP (EntOk (C N) Tryd.f105 an105 (ents105 (α := α) N)) (ents105 N) := trivial
theorem ents106_ok {α : Type} (N : Nat) : AllP (EntOk (C N) Tryd.f106 an106 (ents106 (α := α) N)) (ents106 N) := trivial
def g {α : Type} (N : Nat) (a0 : Int) (kr : (BA → Option α)) : Option α :=
 cond (decide (0 ≤ a0)) (cond (decide (a0 < 100)) (cond (decide (a0 < 10)) (cond (decide (0 ≤ a0) && decide (a0 ≤ IntKind.i64.wrap (a0 + 1)) && decide (IntKind.i64.wrap (a0 + 1) ≤ (↑(ByteArray.mk (#[48, 49, 50, 51, 52, 53, 54, 55, 56, 57, 97, 98, 99, 100, 101, 102, 103, 104, 105, 106, 107, 108, 109, 110, 111, 112, 113, 114, 115, 116, 117, 118, 119, 120, 121, 122])).data.toList.length : Int))) (kr ((ByteArray.mk ((Array.mk (List.drop a0.toNat (List.take (IntKind.i64.wrap (a0 + 1)).toNat (ByteArray.mk (#[48, 49, 50, 51, 52, 53, 54, 55, 56, 57, 97, 98, 99, 100, 101, 102, 103, 104, 105, 106, 107, 108, 109, 110, 111, 112, 113, 114, 115, 116, 117, 118, 119, 120, 121, 122])).data.toList))))))) (none)) (cond (decide (0 ≤ IntKind.i64.wrap (a0 * 2)) && decide (IntKind.i64.wrap (a0 * 2) ≤ IntKind.i64.wrap (IntKind.i64.wrap (a0 * 2) + 2)) && decide (IntKind.i64.wrap (IntKind.i64.wrap (a0 * 2) + 2) ≤ (↑(ByteArray.mk ((([48, 48, 48, 49, 48, 50, 48, 51, 48, 52, 48, 53, 48, 54, 48, 55, 48, 56, 48, 57, 49, 48, 49, 49, 49, 50, 49, 51, 49, 52, 49, 53, 49, 54, 49, 55, 49, 56, 49, 57, 50, 48, 50, 49, 50, 50, 50, 51, 50, 52].append [50, 53, 50, 54, 50, 55, 50, 56, 50, 57, 51, 48, 51, 49, 51, 50, 51, 51, 51, 52, 51, 53, 51, 54, 51, 55, 51, 56, 51, 57, 52, 48, 52, 49, 52, 50, 52, 51, 52, 52, 52, 53, 52, 54, 52, 55, 52, 56, 52, 57]).append ([53, 48, 53, 49, 53, 50, 53, 51, 53, 52, 53, 53, 53, 54, 53, 55, 53, 56, 53, 57, 54, 48, 54, 49, 54, 50, 54, 51, 54, 52, 54, 53, 54, 54, 54, 55, 54, 56, 54, 57, 55, 48, 55, 49, 55, 50, 55, 51, 55, 52].append [55, 53, 55, 54, 55, 55, 55, 56, 55, 57, 56, 48, 56, 49, 56, 50, 56, 51, 56, 52, 56, 53, 56, 54, 56, 55, 56, 56, 56, 57, 57, 48, 57, 49, 57, 50, 57, 51, 57, 52, 57, 53, 57, 54, 57, 55, 57, 56, 57, 57])).toArray)).data.toList.length : Int))) (kr ((ByteArray.mk ((Array.mk (List.drop (IntKind.i64.wrap (a0 * 2)).toNat (List.take (IntKind.i64.wrap (IntKind.i64.wrap (a0 * 2) + 2)).toNat (ByteArray.mk ((([48, 48, 48, 49, 48, 50, 48, 51, 48, 52, 48, 53, 48, 54, 48, 55, 48, 56, 48, 57, 49, 48, 49, 49, 49, 50, 49, 51, 49, 52, 49, 53, 49, 54, 49, 55, 49, 56, 49, 57, 50, 48, 50, 49, 50, 50, 50, 51, 50, 52].append [50, 53, 50, 54, 50, 55, 50, 56, 50, 57, 51, 48, 51, 49, 51, 50, 51, 51, 51, 52, 51, 53, 51, 54, 51, 55, 51, 56, 51, 57, 52, 48, 52, 49, 52, 50, 52, 51, 52, 52, 52, 53, 52, 54, 52, 55, 52, 56, 52, 57]).append ([53, 48, 53, 49, 53, 50, 53, 51, 53, 52, 53, 53, 53, 54, 53, 55, 53, 56, 53, 57, 54, 48, 54, 49, 54, 50, 54, 51, 54, 52, 54, 53, 54, 54, 54, 55, 54, 56, 54, 57, 55, 48, 55, 49, 55, 50, 55, 51, 55, 52].append [55, 53, 55, 54, 55, 55, 55, 56, 55, 57, 56, 48, 56, 49, 56, 50, 56, 51, 56, 52, 56, 53, 56, 54, 56, 55, 56, 56, 56, 57, 57, 48, 57, 49, 57, 50, 57, 51, 57, 52, 57, 53, 57, 54, 57, 55, 57, 56, 57, 57])).toArray)).data.toList))))))) (none))) (cond (decide (a0 < 0)) (cond (decide (4294967296 ≤ IntKind.u64.wrap (0 - IntKind.u64.wrap a0))) (cond (decide (65536 ≤ (IntKind.u64.wrap (0 - IntKind.u64.wrap a0)).fdiv (2 ^ min (Int.toNat 32) IntKind.u64.bits))) (cond (decide (256 ≤ ((IntKind.u64.wrap (0 - IntKind.u64.wrap a0)).fdiv (2 ^ min (Int.toNat 32) IntKind.u64.bits)).fdiv (2 ^ min (Int.toNat 16) IntKind.u64.bits))) (cond (decide (0 ≤ IntKind.u8.wrap ((((IntKind.u64.wrap (0 - IntKind.u64.wrap a0)).fdiv (2 ^ min (Int.toNat 32) IntKind.u64.bits)).fdiv (2 ^ min (Int.toNat 16) IntKind.u64.bits)).fdiv (2 ^ min (Int.toNat 8) IntKind.u64.bits))) && decide (IntKind.u8.wrap ((((IntKind.u64.wrap (0 - IntKind.u64.wrap a0)).fdiv (2 ^ min (Int.toNat 32) IntKind.u64.bits)).fdiv (2 ^ min (Int.toNat 16) IntKind.u64.bits)).fdiv (2 ^ min (Int.toNat 8) IntKind.u64.bits)) < (↑(ByteArray.mk ((([0, 1, 2, 2, 3, 3, 3, 3, 4, 4, 4, 4, 4, 4, 4, 4, 5, 5, 5, 5, 5, 5, 5, 5, 5, 5, 5, 5, 5, 5, 5, 5, 6, 6, 6, 6, 6, 6, 6, 6, 6, 6, 6, 6, 6, 6, 6, 6, 6, 6, 6, 6, 6, 6, 6, 6, 6, 6, 6, 6, 6, 6, 6, 6].append [7, 7, 7, 7, 7, 7, 7, 7, 7, 7, 7, 7, 7, 7, 7, 7, 7, 7, 7, 7, 7, 7, 7, 7, 7, 7, 7, 7, 7, 7, 7, 7, 7, 7, 7, 7, 7, 7, 7, 7, 7, 7, 7, 7, 7, 7, 7, 7, 7, 7, 7, 7, 7, 7, 7, 7, 7, 7, 7, 7, 7, 7, 7, 7]).append ([8, 8, 8, 8, 8, 8, 8, 8, 8, 8, 8, 8, 8, 8, 8, 8, 8, 8, 8, 8, 8, 8, 8, 8, 8, 8, 8, 8, 8, 8, 8, 8, 8, 8, 8, 8, 8, 8, 8, 8, 8, 8, 8, 8, 8, 8, 8, 8, 8, 8, 8, 8, 8, 8, 8, 8, 8, 8, 8, 8, 8, 8, 8, 8].append [8, 8, 8, 8, 8, 8, 8, 8, 8, 8, 8, 8, 8, 8, 8, 8, 8, 8, 8, 8, 8, 8, 8, 8, 8, 8, 8, 8, 8, 8, 8, 8, 8, 8, 8, 8, 8, 8, 8, 8, 8, 8, 8, 8, 8, 8, 8, 8, 8, 8, 8, 8, 8, 8, 8, 8, 8, 8, 8, 8, 8, 8, 8, 8])).toArray)).data.toList.length : Int))) (none) (none)) (cond (decide (0 ≤ IntKind.u8.wrap (((IntKind.u64.wrap (0 - IntKind.u64.wrap a0)).fdiv (2 ^ min (Int.toNat 32) IntKind.u64.bits)).fdiv (2 ^ min (Int.toNat 16) IntKind.u64.bits))) && decide (IntKind.u8.wrap (((IntKind.u64.wrap (0 - IntKind.u64.wrap a0)).fdiv (2 ^ min (Int.toNat 32) IntKind.u64.bits)).fdiv (2 ^ min (Int.toNat 16) IntKind.u64.bits)) < (↑(ByteArray.mk ((([0, 1, 2, 2, 3, 3, 3, 3, 4, 4, 4, 4, 4, 4, 4, 4, 5, 5, 5, 5, 5, 5, 5, 5, 5, 5, 5, 5, 5, 5, 5, 5, 6, 6, 6, 6, 6, 6, 6, 6, 6, 6, 6, 6, 6, 6, 6, 6, 6, 6, 6, 6, 6, 6, 6, 6, 6, 6, 6, 6, 6, 6, 6, 6].append [7, 7, 7, 7, 7, 7, 7, 7, 7, 7, 7, 7, 7, 7, 7, 7, 7, 7, 7, 7, 7, 7, 7, 7, 7, 7, 7, 7, 7, 7, 7, 7, 7, 7, 7, 7, 7, 7, 7, 7, 7, 7, 7, 7, 7, 7, 7, 7, 7, 7, 7, 7, 7, 7, 7, 7, 7, 7, 7, 7, 7, 7, 7, 7]).append ([8, 8, 8, 8, 8, 8, 8, 8, 8, 8, 8, 8, 8, 8, 8, 8, 8, 8, 8, 8, 8, 8, 8, 8, 8, 8, 8, 8, 8, 8, 8, 8, 8, 8, 8, 8, 8, 8, 8, 8, 8, 8, 8, 8, 8, 8, 8, 8, 8, 8, 8, 8, 8, 8, 8, 8, 8, 8, 8, 8, 8, 8, 8, 8].append [8, 8, 8, 8, 8, 8, 8, 8, 8, 8, 8, 8, 8, 8, 8, 8, 8, 8, 8, 8, 8, 8, 8, 8, 8, 8, 8, 8, 8, 8, 8, 8, 8, 8, 8, 8, 8, 8, 8, 8, 8, 8, 8, 8, 8, 8, 8, 8, 8, 8, 8, 8, 8, 8, 8, 8, 8, 8, 8, 8, 8, 8, 8, 8])).toArray)).data.toList.length : Int))) (none) (none))) (cond (decide (256 ≤ (IntKind.u64.wrap (0 - IntKind.u64.wrap a0)).fdiv (2 ^ min (Int.toNat 32) IntKind.u64.bits))) (cond (decide (0 ≤ IntKind.u8.wrap (((IntKind.u64.wrap (0 - IntKind.u64.wrap a0)).fdiv (2 ^ min (Int.toNat 32) IntKind.u64.bits)).fdiv (2 ^ min (Int.toNat 8) IntKind.u64.bits))) && decide (IntKind.u8.wrap (((IntKind.u64.wrap (0 - IntKind.u64.wrap a0)).fdiv (2 ^ min (Int.toNat 32) IntKind.u64.bits)).fdiv (2 ^ min (Int.toNat 8) IntKind.u64.bits)) < (↑(ByteArray.mk ((([0, 1, 2, 2, 3, 3, 3, 3, 4, 4, 4, 4, 4, 4, 4, 4, 5, 5, 5, 5, 5, 5, 5, 5, 5, 5, 5, 5, 5, 5, 5, 5, 6, 6, 6, 6, 6, 6, 6, 6, 6, 6, 6, 6, 6, 6, 6, 6, 6, 6, 6, 6, 6, 6, 6, 6, 6, 6, 6, 6, 6, 6, 6, 6].append [7, 7, 7, 7, 7, 7, 7, 7, 7, 7, 7, 7, 7, 7, 7, 7, 7, 7, 7, 7, 7, 7, 7, 7, 7, 7, 7, 7, 7, 7, 7, 7, 7, 7, 7, 7, 7, 7, 7, 7, 7, 7, 7, 7, 7, 7, 7, 7, 7, 7, 7, 7, 7, 7, 7, 7, 7, 7, 7, 7, 7, 7, 7, 7]).append ([8, 8, 8, 8, 8, 8, 8, 8, 8, 8, 8, 8, 8, 8, 8, 8, 8, 8, 8, 8, 8, 8, 8, 8, 8, 8, 8, 8, 8, 8, 8, 8, 8, 8, 8, 8, 8, 8, 8, 8, 8, 8, 8, 8, 8, 8, 8, 8, 8, 8, 8, 8, 8, 8, 8, 8, 8, 8, 8, 8, 8, 8, 8, 8].append [8, 8, 8, 8, 8, 8, 8, 8, 8, 8, 8, 8, 8, 8, 8, 8, 8, 8, 8, 8, 8, 8, 8, 8, 8, 8, 8, 8, 8, 8, 8, 8, 8, 8, 8, 8, 8, 8, 8, 8, 8, 8, 8, 8, 8, 8, 8, 8, 8, 8, 8, 8, 8, 8, 8, 8, 8, 8, 8, 8, 8, 8, 8, 8])).toArray)).data.toList.length : Int))) (none) (none)) (cond (decide (0 ≤ IntKind.u8.wrap ((IntKind.u64.wrap (0 - IntKind.u64.wrap a0)).fdiv (2 ^ min (Int.toNat 32) IntKind.u64.bits))) && decide (IntKind.u8.wrap ((IntKind.u64.wrap (0 - IntKind.u64.wrap a0)).fdiv (2 ^ min (Int.toNat 32) IntKind.u64.bits)) < (↑(ByteArray.mk ((([0, 1, 2, 2, 3, 3, 3, 3, 4, 4, 4, 4, 4, 4, 4, 4, 5, 5, 5, 5, 5, 5, 5, 5, 5, 5, 5, 5, 5, 5, 5, 5, 6, 6, 6, 6, 6, 6, 6, 6, 6, 6, 6, 6, 6, 6, 6, 6, 6, 6, 6, 6, 6, 6, 6, 6, 6, 6, 6, 6, 6, 6, 6, 6].append [7, 7, 7, 7, 7, 7, 7, 7, 7, 7, 7, 7, 7, 7, 7, 7, 7, 7, 7, 7, 7, 7, 7, 7, 7, 7, 7, 7, 7, 7, 7, 7, 7, 7, 7, 7, 7, 7, 7, 7, 7, 7, 7, 7, 7, 7, 7, 7, 7, 7, 7, 7, 7, 7, 7, 7, 7, 7, 7, 7, 7, 7, 7, 7]).append ([8, 8, 8, 8, 8, 8, 8, 8, 8, 8, 8, 8, 8, 8, 8, 8, 8, 8, 8, 8, 8, 8, 8, 8, 8, 8, 8, 8, 8, 8, 8, 8, 8, 8, 8, 8, 8, 8, 8, 8, 8, 8, 8, 8, 8, 8, 8, 8, 8, 8, 8, 8, 8, 8, 8, 8, 8, 8, 8, 8, 8, 8, 8, 8].append [8, 8, 8, 8, 8, 8, 8, 8, 8, 8, 8, 8, 8, 8, 8, 8, 8, 8, 8, 8, 8, 8, 8, 8, 8, 8, 8, 8, 8, 8, 8, 8, 8, 8, 8, 8, 8, 8, 8, 8, 8, 8, 8, 8, 8, 8, 8, 8, 8, 8, 8, 8, 8, 8, 8, 8, 8, 8, 8, 8, 8, 8, 8, 8])).toArray)).data.toList.length : Int))) (none) (none)))) (cond (decide (65536 ≤ IntKind.u64.wrap (0 - IntKind.u64.wrap a0))) (cond (decide (256 ≤ (IntKind.u64.wrap (0 - IntKind.u64.wrap a0)).fdiv (2 ^ min (Int.toNat 16) IntKind.u64.bits))) (cond (decide (0 ≤ IntKind.u8.wrap (((IntKind.u64.wrap (0 - IntKind.u64.wrap a0)).fdiv (2 ^ min (Int.toNat 16) IntKind.u64.bits)).fdiv (2 ^ min (Int.toNat 8) IntKind.u64.bits))) && decide (IntKind.u8.wrap (((IntKind.u64.wrap (0 - IntKind.u64.wrap a0)).fdiv (2 ^ min (Int.toNat 16) IntKind.u64.bits)).fdiv (2 ^ min (Int.toNat 8) IntKind.u64.bits)) < (↑(ByteArray.mk ((([0, 1, 2, 2, 3, 3, 3, 3, 4, 4, 4, 4, 4, 4, 4, 4, 5, 5, 5, 5, 5, 5, 5, 5, 5, 5, 5, 5, 5, 5, 5, 5, 6, 6, 6, 6, 6, 6, 6, 6, 6, 6, 6, 6, 6, 6, 6, 6, 6, 6, 6, 6, 6, 6, 6, 6, 6, 6, 6, 6, 6, 6, 6, 6].append [7, 7, 7, 7, 7, 7, 7, 7, 7, 7, 7, 7, 7, 7, 7, 7, 7, 7, 7, 7, 7, 7, 7, 7, 7, 7, 7, 7, 7, 7, 7, 7, 7, 7, 7, 7, 7, 7, 7, 7, 7, 7, 7, 7, 7, 7, 7, 7, 7, 7, 7, 7, 7, 7, 7, 7, 7, 7, 7, 7, 7, 7, 7, 7]).append ([8, 8, 8, 8, 8, 8, 8, 8, 8, 8, 8, 8, 8, 8, 8, 8, 8, 8, 8, 8, 8, 8, 8, 8, 8, 8, 8, 8, 8, 8, 8, 8, 8, 8, 8, 8, 8, 8, 8, 8, 8, 8, 8, 8, 8, 8, 8, 8, 8, 8, 8, 8, 8, 8, 8, 8, 8, 8, 8, 8, 8, 8, 8, 8].append [8, 8, 8, 8, 8, 8, 8, 8, 8, 8, 8, 8, 8, 8, 8, 8, 8, 8, 8, 8, 8, 8, 8, 8, 8, 8, 8, 8, 8, 8, 8, 8, 8, 8, 8, 8, 8, 8, 8, 8, 8, 8, 8, 8, 8, 8, 8, 8, 8, 8, 8, 8, 8, 8, 8, 8, 8, 8, 8, 8, 8, 8, 8, 8])).toArray)).data.toList.length : Int))) (none) (none)) (cond (decide (0 ≤ IntKind.u8.wrap ((IntKind.u64.wrap (0 - IntKind.u64.wrap a0)).fdiv (2 ^ min (Int.toNat 16) IntKind.u64.bits))) && decide (IntKind.u8.wrap ((IntKind.u64.wrap (0 - IntKind.u64.wrap a0)).fdiv (2 ^ min (Int.toNat 16) IntKind.u64.bits)) < (↑(ByteArray.mk ((([0, 1, 2, 2, 3, 3, 3, 3, 4, 4, 4, 4, 4, 4, 4, 4, 5, 5, 5, 5, 5, 5, 5, 5, 5, 5, 5, 5, 5, 5, 5, 5, 6, 6, 6, 6, 6, 6, 6, 6, 6, 6, 6, 6, 6, 6, 6, 6, 6, 6, 6, 6, 6, 6, 6, 6, 6, 6, 6, 6, 6, 6, 6, 6].append [7, 7, 7, 7, 7, 7, 7, 7, 7, 7, 7, 7, 7, 7, 7, 7, 7, 7, 7, 7, 7, 7, 7, 7, 7, 7, 7, 7, 7, 7, 7, 7, 7, 7, 7, 7, 7, 7, 7, 7, 7, 7, 7, 7, 7, 7, 7, 7, 7, 7, 7, 7, 7, 7, 7, 7, 7, 7, 7, 7, 7, 7, 7, 7]).append ([8, 8, 8, 8, 8, 8, 8, 8, 8, 8, 8, 8, 8, 8, 8, 8, 8, 8, 8, 8, 8, 8, 8, 8, 8, 8, 8, 8, 8, 8, 8, 8, 8, 8, 8, 8, 8, 8, 8, 8, 8, 8, 8, 8, 8, 8, 8, 8, 8, 8, 8, 8, 8, 8, 8, 8, 8, 8, 8, 8, 8, 8, 8, 8].append [8, 8, 8, 8, 8, 8, 8, 8, 8, 8, 8, 8, 8, 8, 8, 8, 8, 8, 8, 8, 8, 8, 8, 8, 8, 8, 8, 8, 8, 8, 8, 8, 8, 8, 8, 8, 8, 8, 8, 8, 8, 8, 8, 8, 8, 8, 8, 8, 8, 8, 8, 8, 8, 8, 8, 8, 8, 8, 8, 8, 8, 8, 8, 8])).toArray)).data.toList.length : Int))) (none) (none))) (cond (decide (256 ≤ IntKind.u64.wrap (0 - IntKind.u64.wrap a0))) (cond (decide (0 ≤ IntKind.u8.wrap ((IntKind.u64.wrap (0 - IntKind.u64.wrap a0)).fdiv (2 ^ min (Int.toNat 8) IntKind.u64.bits))) && decide (IntKind.u8.wrap ((IntKind.u64.wrap (0 - IntKind.u64.wrap a0)).fdiv (2 ^ min (Int.toNat 8) IntKind.u64.bits)) < (↑(ByteArray.mk ((([0, 1, 2, 2, 3, 3, 3, 3, 4, 4, 4, 4, 4, 4, 4, 4, 5, 5, 5, 5, 5, 5, 5, 5, 5, 5, 5, 5, 5, 5, 5, 5, 6, 6, 6, 6, 6, 6, 6, 6, 6, 6, 6, 6, 6, 6, 6, 6, 6, 6, 6, 6, 6, 6, 6, 6, 6, 6, 6, 6, 6, 6, 6, 6].append [7, 7, 7, 7, 7, 7, 7, 7, 7, 7, 7, 7, 7, 7, 7, 7, 7, 7, 7, 7, 7, 7, 7, 7, 7, 7, 7, 7, 7, 7, 7, 7, 7, 7, 7, 7, 7, 7, 7, 7, 7, 7, 7, 7, 7, 7, 7, 7, 7, 7, 7, 7, 7, 7, 7, 7, 7, 7, 7, 7, 7, 7, 7, 7]).append ([8, 8, 8, 8, 8, 8, 8, 8, 8, 8, 8, 8, 8, 8, 8, 8, 8, 8, 8, 8, 8, 8, 8, 8, 8, 8, 8, 8, 8, 8, 8, 8, 8, 8, 8, 8, 8, 8, 8, 8, 8, 8, 8, 8, 8, 8, 8, 8, 8, 8, 8, 8, 8, 8, 8, 8, 8, 8, 8, 8, 8, 8, 8, 8].append [8, 8, 8, 8, 8, 8, 8, 8, 8, 8, 8, 8, 8, 8, 8, 8, 8, 8, 8, 8, 8, 8, 8, 8, 8, 8, 8, 8, 8, 8, 8, 8, 8, 8, 8, 8, 8, 8, 8, 8, 8, 8, 8, 8, 8, 8, 8, 8, 8, 8, 8, 8, 8, 8, 8, 8, 8, 8, 8, 8, 8, 8, 8, 8])).toArray)).data.toList.length : Int))) (none) (none)) (cond (decide (0 ≤ IntKind.u8.wrap (IntKind.u64.wrap (0 - IntKind.u64.wrap a0))) && decide (IntKind.u8.wrap (IntKind.u64.wrap (0 - IntKind.u64.wrap a0)) < (↑(ByteArray.mk ((([0, 1, 2, 2, 3, 3, 3, 3, 4, 4, 4, 4, 4, 4, 4, 4, 5, 5, 5, 5, 5, 5, 5, 5, 5, 5, 5, 5, 5, 5, 5, 5, 6, 6, 6, 6, 6, 6, 6, 6, 6, 6, 6, 6, 6, 6, 6, 6, 6, 6, 6, 6, 6, 6, 6, 6, 6, 6, 6, 6, 6, 6, 6, 6].append [7, 7, 7, 7, 7, 7, 7, 7, 7, 7, 7, 7, 7, 7, 7, 7, 7, 7, 7, 7, 7, 7, 7, 7, 7, 7, 7, 7, 7, 7, 7, 7, 7, 7, 7, 7, 7, 7, 7, 7, 7, 7, 7, 7, 7, 7, 7, 7, 7, 7, 7, 7, 7, 7, 7, 7, 7, 7, 7, 7, 7, 7, 7, 7]).append ([8, 8, 8, 8, 8, 8, 8, 8, 8, 8, 8, 8, 8, 8, 8, 8, 8, 8, 8, 8, 8, 8, 8, 8, 8, 8, 8, 8, 8, 8, 8, 8, 8, 8, 8, 8, 8, 8, 8, 8, 8, 8, 8, 8, 8, 8, 8, 8, 8, 8, 8, 8, 8, 8, 8, 8, 8, 8, 8, 8, 8, 8, 8, 8].append [8, 8, 8, 8, 8, 8, 8, 8, 8, 8, 8, 8, 8, 8, 8, 8, 8, 8, 8, 8, 8, 8, 8, 8, 8, 8, 8, 8, 8, 8, 8, 8, 8, 8, 8, 8, 8, 8, 8, 8, 8, 8, 8, 8, 8, 8, 8, 8, 8, 8, 8, 8, 8, 8, 8, 8, 8, 8, 8, 8, 8, 8, 8, 8])).toArray)).data.toList.length : Int))) (none) (none))))) (cond (decide (4294967296 ≤ IntKind.u64.wrap a0)) (cond (decide (65536 ≤ (IntKind.u64.wrap a0).fdiv (2 ^ min (Int.toNat 32) IntKind.u64.bits))) (cond (decide (256 ≤ ((IntKind.u64.wrap a0).fdiv (2 ^ min (Int.toNat 32) IntKind.u64.bits)).fdiv (2 ^ min (Int.toNat 16) IntKind.u64.bits))) (cond (decide (0 ≤ IntKind.u8.wrap ((((IntKind.u64.wrap a0).fdiv (2 ^ min (Int.toNat 32) IntKind.u64.bits)).fdiv (2 ^ min (Int.toNat 16) IntKind.u64.bits)).fdiv (2 ^ min (Int.toNat 8) IntKind.u64.bits))) && decide (IntKind.u8.wrap ((((IntKind.u64.wrap a0).fdiv (2 ^ min (Int.toNat 32) IntKind.u64.bits)).fdiv (2 ^ min (Int.toNat 16) IntKind.u64.bits)).fdiv (2 ^ min (Int.toNat 8) IntKind.u64.bits)) < (↑(ByteArray.mk ((([0, 1, 2, 2, 3, 3, 3, 3, 4, 4, 4, 4, 4, 4, 4, 4, 5, 5, 5, 5, 5, 5, 5, 5, 5, 5, 5, 5, 5, 5, 5, 5, 6, 6, 6, 6, 6, 6, 6, 6, 6, 6, 6, 6, 6, 6, 6, 6, 6, 6, 6, 6, 6, 6, 6, 6, 6, 6, 6, 6, 6, 6, 6, 6].append [7, 7, 7, 7, 7, 7, 7, 7, 7, 7, 7, 7, 7, 7, 7, 7, 7, 7, 7, 7, 7, 7, 7, 7, 7, 7, 7, 7, 7, 7, 7, 7, 7, 7, 7, 7, 7, 7, 7, 7, 7, 7, 7, 7, 7, 7, 7, 7, 7, 7, 7, 7, 7, 7, 7, 7, 7, 7, 7, 7, 7, 7, 7, 7]).append ([8, 8, 8, 8, 8, 8, 8, 8, 8, 8, 8, 8, 8, 8, 8, 8, 8, 8, 8, 8, 8, 8, 8, 8, 8, 8, 8, 8, 8, 8, 8, 8, 8, 8, 8, 8, 8, 8, 8, 8, 8, 8, 8, 8, 8, 8, 8, 8, 8, 8, 8, 8, 8, 8, 8, 8, 8, 8, 8, 8, 8, 8, 8, 8].append [8, 8, 8, 8, 8, 8, 8, 8, 8, 8, 8, 8, 8, 8, 8, 8, 8, 8, 8, 8, 8, 8, 8, 8, 8, 8, 8, 8, 8, 8, 8, 8, 8, 8, 8, 8, 8, 8, 8, 8, 8, 8, 8, 8, 8, 8, 8, 8, 8, 8, 8, 8, 8, 8, 8, 8, 8, 8, 8, 8, 8, 8, 8, 8])).toArray)).data.toList.length : Int))) (none) (none)) (cond (decide (0 ≤ IntKind.u8.wrap (((IntKind.u64.wrap a0).fdiv (2 ^ min (Int.toNat 32) IntKind.u64.bits)).fdiv (2 ^ min (Int.toNat 16) IntKind.u64.bits))) && decide (IntKind.u8.wrap (((IntKind.u64.wrap a0).fdiv (2 ^ min (Int.toNat 32) IntKind.u64.bits)).fdiv (2 ^ min (Int.toNat 16) IntKind.u64.bits)) < (↑(ByteArray.mk ((([0, 1, 2, 2, 3, 3, 3, 3, 4, 4, 4, 4, 4, 4, 4, 4, 5, 5, 5, 5, 5, 5, 5, 5, 5, 5, 5, 5, 5, 5, 5, 5, 6, 6, 6, 6, 6, 6, 6, 6, 6, 6, 6, 6, 6, 6, 6, 6, 6, 6, 6, 6, 6, 6, 6, 6, 6, 6, 6, 6, 6, 6, 6, 6].append [7, 7, 7, 7, 7, 7, 7, 7, 7, 7, 7, 7, 7, 7, 7, 7, 7, 7, 7, 7, 7, 7, 7, 7, 7, 7, 7, 7, 7, 7, 7, 7, 7, 7, 7, 7, 7, 7, 7, 7, 7, 7, 7, 7, 7, 7, 7, 7, 7, 7, 7, 7, 7, 7, 7, 7, 7, 7, 7, 7, 7, 7, 7, 7]).append ([8, 8, 8, 8, 8, 8, 8, 8, 8, 8, 8, 8, 8, 8, 8, 8, 8, 8, 8, 8, 8, 8, 8, 8, 8, 8, 8, 8, 8, 8, 8, 8, 8, 8, 8, 8, 8, 8, 8, 8, 8, 8, 8, 8, 8, 8, 8, 8, 8, 8, 8, 8, 8, 8, 8, 8, 8, 8, 8, 8, 8, 8, 8, 8].append [8, 8, 8, 8, 8, 8, 8, 8, 8, 8, 8, 8, 8, 8, 8, 8, 8, 8, 8, 8, 8, 8, 8, 8, 8, 8, 8, 8, 8, 8, 8, 8, 8, 8, 8, 8, 8, 8, 8, 8, 8, 8, 8, 8, 8, 8, 8, 8, 8, 8, 8, 8, 8, 8, 8, 8, 8, 8, 8, 8, 8, 8, 8, 8])).toArray)).data.toList.length : Int))) (none) (none))) (cond (decide (256 ≤ (IntKind.u64.wrap a0).fdiv (2 ^ min (Int.toNat 32) IntKind.u64.bits))) (cond (decide (0 ≤ IntKind.u8.wrap (((IntKind.u64.wrap a0).fdiv (2 ^ min (Int.toNat 32) IntKind.u64.bits)).fdiv (2 ^ min (Int.toNat 8) IntKind.u64.bits))) && decide (IntKind.u8.wrap (((IntKind.u64.wrap a0).fdiv (2 ^ min (Int.toNat 32) IntKind.u64.bits)).fdiv (2 ^ min (Int.toNat 8) IntKind.u64.bits)) < (↑(ByteArray.mk ((([0, 1, 2, 2, 3, 3, 3, 3, 4, 4, 4, 4, 4, 4, 4, 4, 5, 5, 5, 5, 5, 5, 5, 5, 5, 5, 5, 5, 5, 5, 5, 5, 6, 6, 6, 6, 6, 6, 6, 6, 6, 6, 6, 6, 6, 6, 6, 6, 6, 6, 6, 6, 6, 6, 6, 6, 6, 6, 6, 6, 6, 6, 6, 6].append [7, 7, 7, 7, 7, 7, 7, 7, 7, 7, 7, 7, 7, 7, 7, 7, 7, 7, 7, 7, 7, 7, 7, 7, 7, 7, 7, 7, 7, 7, 7, 7, 7, 7, 7, 7, 7, 7, 7, 7, 7, 7, 7, 7, 7, 7, 7, 7, 7, 7, 7, 7, 7, 7, 7, 7, 7, 7, 7, 7, 7, 7, 7, 7]).append ([8, 8, 8, 8, 8, 8, 8, 8, 8, 8, 8, 8, 8, 8, 8, 8, 8, 8, 8, 8, 8, 8, 8, 8, 8, 8, 8, 8, 8, 8, 8, 8, 8, 8, 8, 8, 8, 8, 8, 8, 8, 8, 8, 8, 8, 8, 8, 8, 8, 8, 8, 8, 8, 8, 8, 8, 8, 8, 8, 8, 8, 8, 8, 8].append [8, 8, 8, 8, 8, 8, 8, 8, 8, 8, 8, 8, 8, 8, 8, 8, 8, 8, 8, 8, 8, 8, 8, 8, 8, 8, 8, 8, 8, 8, 8, 8, 8, 8, 8, 8, 8, 8, 8, 8, 8, 8, 8, 8, 8, 8, 8, 8, 8, 8, 8, 8, 8, 8, 8, 8, 8, 8, 8, 8, 8, 8, 8, 8])).toArray)).data.toList.length : Int))) (none) (none)) (cond (decide (0 ≤ IntKind.u8.wrap ((IntKind.u64.wrap a0).fdiv (2 ^ min (Int.toNat 32) IntKind.u64.bits))) && decide (IntKind.u8.wrap ((IntKind.u64.wrap a0).fdiv (2 ^ min (Int.toNat 32) IntKind.u64.bits)) < (↑(ByteArray.mk ((([0, 1, 2, 2, 3, 3, 3, 3, 4, 4, 4, 4, 4, 4, 4, 4, 5, 5, 5, 5, 5, 5, 5, 5, 5, 5, 5, 5, 5, 5, 5, 5, 6, 6, 6, 6, 6, 6, 6, 6, 6, 6, 6, 6, 6, 6, 6, 6, 6, 6, 6, 6, 6, 6, 6, 6, 6, 6, 6, 6, 6, 6, 6, 6].append [7, 7, 7, 7, 7, 7, 7, 7, 7, 7, 7, 7, 7, 7, 7, 7, 7, 7, 7, 7, 7, 7, 7, 7, 7, 7, 7, 7, 7, 7, 7, 7, 7, 7, 7, 7, 7, 7, 7, 7, 7, 7, 7, 7, 7, 7, 7, 7, 7, 7, 7, 7, 7, 7, 7, 7, 7, 7, 7, 7, 7, 7, 7, 7]).append ([8, 8, 8, 8, 8, 8, 8, 8, 8, 8, 8, 8, 8, 8, 8, 8, 8, 8, 8, 8, 8, 8, 8, 8, 8, 8, 8, 8, 8, 8, 8, 8, 8, 8, 8, 8, 8, 8, 8, 8, 8, 8, 8, 8, 8, 8, 8, 8, 8, 8, 8, 8, 8, 8, 8, 8, 8, 8, 8, 8, 8, 8, 8, 8].append [8, 8, 8, 8, 8, 8, 8, 8, 8, 8, 8, 8, 8, 8, 8, 8, 8, 8, 8, 8, 8, 8, 8, 8, 8, 8, 8, 8, 8, 8, 8, 8, 8, 8, 8, 8, 8, 8, 8, 8, 8, 8, 8, 8, 8, 8, 8, 8, 8, 8, 8, 8, 8, 8, 8, 8, 8, 8, 8, 8, 8, 8, 8, 8])).toArray)).data.toList.length : Int))) (none) (none)))) (cond (decide (65536 ≤ IntKind.u64.wrap a0)) (cond (decide (256 ≤ (IntKind.u64.wrap a0).fdiv (2 ^ min (Int.toNat 16) IntKind.u64.bits))) (cond (decide (0 ≤ IntKind.u8.wrap (((IntKind.u64.wrap a0).fdiv (2 ^ min (Int.toNat 16) IntKind.u64.bits)).fdiv (2 ^ min (Int.toNat 8) IntKind.u64.bits))) && decide (IntKind.u8.wrap (((IntKind.u64.wrap a0).fdiv (2 ^ min (Int.toNat 16) IntKind.u64.bits)).fdiv (2 ^ min (Int.toNat 8) IntKind.u64.bits)) < (↑(ByteArray.mk ((([0, 1, 2, 2, 3, 3, 3, 3, 4, 4, 4, 4, 4, 4, 4, 4, 5, 5, 5, 5, 5, 5, 5, 5, 5, 5, 5, 5, 5, 5, 5, 5, 6, 6, 6, 6, 6, 6, 6, 6, 6, 6, 6, 6, 6, 6, 6, 6, 6, 6, 6, 6, 6, 6, 6, 6, 6, 6, 6, 6, 6, 6, 6, 6].append [7, 7, 7, 7, 7, 7, 7, 7, 7, 7, 7, 7, 7, 7, 7, 7, 7, 7, 7, 7, 7, 7, 7, 7, 7, 7, 7, 7, 7, 7, 7, 7, 7, 7, 7, 7, 7, 7, 7, 7, 7, 7, 7, 7, 7, 7, 7, 7, 7, 7, 7, 7, 7, 7, 7, 7, 7, 7, 7, 7, 7, 7, 7, 7]).append ([8, 8, 8, 8, 8, 8, 8, 8, 8, 8, 8, 8, 8, 8, 8, 8, 8, 8, 8, 8, 8, 8, 8, 8, 8, 8, 8, 8, 8, 8, 8, 8, 8, 8, 8, 8, 8, 8, 8, 8, 8, 8, 8, 8, 8, 8, 8, 8, 8, 8, 8, 8, 8, 8, 8, 8, 8, 8, 8, 8, 8, 8, 8, 8].append [8, 8, 8, 8, 8, 8, 8, 8, 8, 8, 8, 8, 8, 8, 8, 8, 8, 8, 8, 8, 8, 8, 8, 8, 8, 8, 8, 8, 8, 8, 8, 8, 8, 8, 8, 8, 8, 8, 8, 8, 8, 8, 8, 8, 8, 8, 8, 8, 8, 8, 8, 8, 8, 8, 8, 8, 8, 8, 8, 8, 8, 8, 8, 8])).toArray)).data.toList.length : Int))) (none) (none)) (cond (decide (0 ≤ IntKind.u8.wrap ((IntKind.u64.wrap a0).fdiv (2 ^ min (Int.toNat 16) IntKind.u64.bits))) && decide (IntKind.u8.wrap ((IntKind.u64.wrap a0).fdiv (2 ^ min (Int.toNat 16) IntKind.u64.bits)) < (↑(ByteArray.mk ((([0, 1, 2, 2, 3, 3, 3, 3, 4, 4, 4, 4, 4, 4, 4, 4, 5, 5, 5, 5, 5, 5, 5, 5, 5, 5, 5, 5, 5, 5, 5, 5, 6, 6, 6, 6, 6, 6, 6, 6, 6, 6, 6, 6, 6, 6, 6, 6, 6, 6, 6, 6, 6, 6, 6, 6, 6, 6, 6, 6, 6, 6, 6, 6].append [7, 7, 7, 7, 7, 7, 7, 7, 7, 7, 7, 7, 7, 7, 7, 7, 7, 7, 7, 7, 7, 7, 7, 7, 7, 7, 7, 7, 7, 7, 7, 7, 7, 7, 7, 7, 7, 7, 7, 7, 7, 7, 7, 7, 7, 7, 7, 7, 7, 7, 7, 7, 7, 7, 7, 7, 7, 7, 7, 7, 7, 7, 7, 7]).append ([8, 8, 8, 8, 8, 8, 8, 8, 8, 8, 8, 8, 8, 8, 8, 8, 8, 8, 8, 8, 8, 8, 8, 8, 8, 8, 8, 8, 8, 8, 8, 8, 8, 8, 8, 8, 8, 8, 8, 8, 8, 8, 8, 8, 8, 8, 8, 8, 8, 8, 8, 8, 8, 8, 8, 8, 8, 8, 8, 8, 8, 8, 8, 8].append [8, 8, 8, 8, 8, 8, 8, 8, 8, 8, 8, 8, 8, 8, 8, 8, 8, 8, 8, 8, 8, 8, 8, 8, 8, 8, 8, 8, 8, 8, 8, 8, 8, 8, 8, 8, 8, 8, 8, 8, 8, 8, 8, 8, 8, 8, 8, 8, 8, 8, 8, 8, 8, 8, 8, 8, 8, 8, 8, 8, 8, 8, 8, 8])).toArray)).data.toList.length : Int))) (none) (none))) (cond (decide (256 ≤ IntKind.u64.wrap a0)) (cond (decide (0 ≤ IntKind.u8.wrap ((IntKind.u64.wrap a0).fdiv (2 ^ min (Int.toNat 8) IntKind.u64.bits))) && decide (IntKind.u8.wrap ((IntKind.u64.wrap a0).fdiv (2 ^ min (Int.toNat 8) IntKind.u64.bits)) < (↑(ByteArray.mk ((([0, 1, 2, 2, 3, 3, 3, 3, 4, 4, 4, 4, 4, 4, 4, 4, 5, 5, 5, 5, 5, 5, 5, 5, 5, 5, 5, 5, 5, 5, 5, 5, 6, 6, 6, 6, 6, 6, 6, 6, 6, 6, 6, 6, 6, 6, 6, 6, 6, 6, 6, 6, 6, 6, 6, 6, 6, 6, 6, 6, 6, 6, 6, 6].append [7, 7, 7, 7, 7, 7, 7, 7, 7, 7, 7, 7, 7, 7, 7, 7, 7, 7, 7, 7, 7, 7, 7, 7, 7, 7, 7, 7, 7, 7, 7, 7, 7, 7, 7, 7, 7, 7, 7, 7, 7, 7, 7, 7, 7, 7, 7, 7, 7, 7, 7, 7, 7, 7, 7, 7, 7, 7, 7, 7, 7, 7, 7, 7]).append ([8, 8, 8, 8, 8, 8, 8, 8, 8, 8, 8, 8, 8, 8, 8, 8, 8, 8, 8, 8, 8, 8, 8, 8, 8, 8, 8, 8, 8, 8, 8, 8, 8, 8, 8, 8, 8, 8, 8, 8, 8, 8, 8, 8, 8, 8, 8, 8, 8, 8, 8, 8, 8, 8, 8, 8, 8, 8, 8, 8, 8, 8, 8, 8].append [8, 8, 8, 8, 8, 8, 8, 8, 8, 8, 8, 8, 8, 8, 8, 8, 8, 8, 8, 8, 8, 8, 8, 8, 8, 8, 8, 8, 8, 8, 8, 8, 8, 8, 8, 8, 8, 8, 8, 8, 8, 8, 8, 8, 8, 8, 8, 8, 8, 8, 8, 8, 8, 8, 8, 8, 8, 8, 8, 8, 8, 8, 8, 8])).toArray)).data.toList.length : Int))) (none) (none)) (cond (decide (0 ≤ IntKind.u8.wrap (IntKind.u64.wrap a0)) && decide (IntKind.u8.wrap (IntKind.u64.wrap a0) < (↑(ByteArray.mk ((([0, 1, 2, 2, 3, 3, 3, 3, 4, 4, 4, 4, 4, 4, 4, 4, 5, 5, 5, 5, 5, 5, 5, 5, 5, 5, 5, 5, 5, 5, 5, 5, 6, 6, 6, 6, 6, 6, 6, 6, 6, 6, 6, 6, 6, 6, 6, 6, 6, 6, 6, 6, 6, 6, 6, 6, 6, 6, 6, 6, 6, 6, 6, 6].append [7, 7, 7, 7, 7, 7, 7, 7, 7, 7, 7, 7, 7, 7, 7, 7, 7, 7, 7, 7, 7, 7, 7, 7, 7, 7, 7, 7, 7, 7, 7, 7, 7, 7, 7, 7, 7, 7, 7, 7, 7, 7, 7, 7, 7, 7, 7, 7, 7, 7, 7, 7, 7, 7, 7, 7, 7, 7, 7, 7, 7, 7, 7, 7]).append ([8, 8, 8, 8, 8, 8, 8, 8, 8, 8, 8, 8, 8, 8, 8, 8, 8, 8, 8, 8, 8, 8, 8, 8, 8, 8, 8, 8, 8, 8, 8, 8, 8, 8, 8, 8, 8, 8, 8, 8, 8, 8, 8, 8, 8, 8, 8, 8, 8, 8, 8, 8, 8, 8, 8, 8, 8, 8, 8, 8, 8, 8, 8, 8].append [8, 8, 8, 8, 8, 8, 8, 8, 8, 8, 8, 8, 8, 8, 8, 8, 8, 8, 8, 8, 8, 8, 8, 8, 8, 8, 8, 8, 8, 8, 8, 8, 8, 8, 8, 8, 8, 8, 8, 8, 8, 8, 8, 8, 8, 8, 8, 8, 8, 8, 8, 8, 8, 8, 8, 8, 8, 8, 8, 8, 8, 8, 8, 8])).toArray)).data.toList.length : Int))) (none) (none))))))) (cond (decide (a0 < 0)) (cond (decide (4294967296 ≤ IntKind.u64.wrap (0 - IntKind.u64.wrap a0))) (cond (decide (65536 ≤ (IntKind.u64.wrap (0 - IntKind.u64.wrap a0)).fdiv (2 ^ min (Int.toNat 32) IntKind.u64.bits))) (cond (decide (256 ≤ ((IntKind.u64.wrap (0 - IntKind.u64.wrap a0)).fdiv (2 ^ min (Int.toNat 32) IntKind.u64.bits)).fdiv (2 ^ min (Int.toNat 16) IntKind.u64.bits))) (cond (decide (0 ≤ IntKind.u8.wrap ((((IntKind.u64.wrap (0 - IntKind.u64.wrap a0)).fdiv (2 ^ min (Int.toNat 32) IntKind.u64.bits)).fdiv (2 ^ min (Int.toNat 16) IntKind.u64.bits)).fdiv (2 ^ min (Int.toNat 8) IntKind.u64.bits))) && decide (IntKind.u8.wrap ((((IntKind.u64.wrap (0 - IntKind.u64.wrap a0)).fdiv (2 ^ min (Int.toNat 32) IntKind.u64.bits)).fdiv (2 ^ min (Int.toNat 16) IntKind.u64.bits)).fdiv (2 ^ min (Int.toNat 8) IntKind.u64.bits)) < (↑(ByteArray.mk ((([0, 1, 2, 2, 3, 3, 3, 3, 4, 4, 4, 4, 4, 4, 4, 4, 5, 5, 5, 5, 5, 5, 5, 5, 5, 5, 5, 5, 5, 5, 5, 5, 6, 6, 6, 6, 6, 6, 6, 6, 6, 6, 6, 6, 6, 6, 6, 6, 6, 6, 6, 6, 6, 6, 6, 6, 6, 6, 6, 6, 6, 6, 6, 6].append [7, 7, 7, 7, 7, 7, 7, 7, 7, 7, 7, 7, 7, 7, 7, 7, 7, 7, 7, 7, 7, 7, 7, 7, 7, 7, 7, 7, 7, 7, 7, 7, 7, 7, 7, 7, 7, 7, 7, 7, 7, 7, 7, 7, 7, 7, 7, 7, 7, 7, 7, 7, 7, 7, 7, 7, 7, 7, 7, 7, 7, 7, 7, 7]).append ([8, 8, 8, 8, 8, 8, 8, 8, 8, 8, 8, 8, 8, 8, 8, 8, 8, 8, 8, 8, 8, 8, 8, 8, 8, 8, 8, 8, 8, 8, 8, 8, 8, 8, 8, 8, 8, 8, 8, 8, 8, 8, 8, 8, 8, 8, 8, 8, 8, 8, 8, 8, 8, 8, 8, 8, 8, 8, 8, 8, 8, 8, 8, 8].append [8, 8, 8, 8, 8, 8, 8, 8, 8, 8, 8, 8, 8, 8, 8, 8, 8, 8, 8, 8, 8, 8, 8, 8, 8, 8, 8, 8, 8, 8, 8, 8, 8, 8, 8, 8, 8, 8, 8, 8, 8, 8, 8, 8, 8, 8, 8, 8, 8, 8, 8, 8, 8, 8, 8, 8, 8, 8, 8, 8, 8, 8, 8, 8])).toArray)).data.toList.length : Int))) (none) (none)) (cond (decide (0 ≤ IntKind.u8.wrap (((IntKind.u64.wrap (0 - IntKind.u64.wrap a0)).fdiv (2 ^ min (Int.toNat 32) IntKind.u64.bits)).fdiv (2 ^ min (Int.toNat 16) IntKind.u64.bits))) && decide (IntKind.u8.wrap (((IntKind.u64.wrap (0 - IntKind.u64.wrap a0)).fdiv (2 ^ min (Int.toNat 32) IntKind.u64.bits)).fdiv (2 ^ min (Int.toNat 16) IntKind.u64.bits)) < (↑(ByteArray.mk ((([0, 1, 2, 2, 3, 3, 3, 3, 4, 4, 4, 4, 4, 4, 4, 4, 5, 5, 5, 5, 5, 5, 5, 5, 5, 5, 5, 5, 5, 5, 5, 5, 6, 6, 6, 6, 6, 6, 6, 6, 6, 6, 6, 6, 6, 6, 6, 6, 6, 6, 6, 6, 6, 6, 6, 6, 6, 6, 6, 6, 6, 6, 6, 6].append [7, 7, 7, 7, 7, 7, 7, 7, 7, 7, 7, 7, 7, 7, 7, 7, 7, 7, 7, 7, 7, 7, 7, 7, 7, 7, 7, 7, 7, 7, 7, 7, 7, 7, 7, 7, 7, 7, 7, 7, 7, 7, 7, 7, 7, 7, 7, 7, 7, 7, 7, 7, 7, 7, 7, 7, 7, 7, 7, 7, 7, 7, 7, 7]).append ([8, 8, 8, 8, 8, 8, 8, 8, 8, 8, 8, 8, 8, 8, 8, 8, 8, 8, 8, 8, 8, 8, 8, 8, 8, 8, 8, 8, 8, 8, 8, 8, 8, 8, 8, 8, 8, 8, 8, 8, 8, 8, 8, 8, 8, 8, 8, 8, 8, 8, 8, 8, 8, 8, 8, 8, 8, 8, 8, 8, 8, 8, 8, 8].append [8, 8, 8, 8, 8, 8, 8, 8, 8, 8, 8, 8, 8, 8, 8, 8, 8, 8, 8, 8, 8, 8, 8, 8, 8, 8, 8, 8, 8, 8, 8, 8, 8, 8, 8, 8, 8, 8, 8, 8, 8, 8, 8, 8, 8, 8, 8, 8, 8, 8, 8, 8, 8, 8, 8, 8, 8, 8, 8, 8, 8, 8, 8, 8])).toArray)).data.toList.length : Int))) (none) (none))) (cond (decide (256 ≤ (IntKind.u64.wrap (0 - IntKind.u64.wrap a0)).fdiv (2 ^ min (Int.toNat 32) IntKind.u64.bits))) (cond (decide (0 ≤ IntKind.u8.wrap (((IntKind.u64.wrap (0 - IntKind.u64.wrap a0)).fdiv (2 ^ min (Int.toNat 32) IntKind.u64.bits)).fdiv (2 ^ min (Int.toNat 8) IntKind.u64.bits))) && decide (IntKind.u8.wrap (((IntKind.u64.wrap (0 - IntKind.u64.wrap a0)).fdiv (2 ^ min (Int.toNat 32) IntKind.u64.bits)).fdiv (2 ^ min (Int.toNat 8) IntKind.u64.bits)) < (↑(ByteArray.mk ((([0, 1, 2, 2, 3, 3, 3, 3, 4, 4, 4, 4, 4, 4, 4, 4, 5, 5, 5, 5, 5, 5, 5, 5, 5, 5, 5, 5, 5, 5, 5, 5, 6, 6, 6, 6, 6, 6, 6, 6, 6, 6, 6, 6, 6, 6, 6, 6, 6, 6, 6, 6, 6, 6, 6, 6, 6, 6, 6, 6, 6, 6, 6, 6].append [7, 7, 7, 7, 7, 7, 7, 7, 7, 7, 7, 7, 7, 7, 7, 7, 7, 7, 7, 7, 7, 7, 7, 7, 7, 7, 7, 7, 7, 7, 7, 7, 7, 7, 7, 7, 7, 7, 7, 7, 7, 7, 7, 7, 7, 7, 7, 7, 7, 7, 7, 7, 7, 7, 7, 7, 7, 7, 7, 7, 7, 7, 7, 7]).append ([8, 8, 8, 8, 8, 8, 8, 8, 8, 8, 8, 8, 8, 8, 8, 8, 8, 8, 8, 8, 8, 8, 8, 8, 8, 8, 8, 8, 8, 8, 8, 8, 8, 8, 8, 8, 8, 8, 8, 8, 8, 8, 8, 8, 8, 8, 8, 8, 8, 8, 8, 8, 8, 8, 8, 8, 8, 8, 8, 8, 8, 8, 8, 8].append [8, 8, 8, 8, 8, 8, 8, 8, 8, 8, 8, 8, 8, 8, 8, 8, 8, 8, 8, 8, 8, 8, 8, 8, 8, 8, 8, 8, 8, 8, 8, 8, 8, 8, 8, 8, 8, 8, 8, 8, 8, 8, 8, 8, 8, 8, 8, 8, 8, 8, 8, 8, 8, 8, 8, 8, 8, 8, 8, 8, 8, 8, 8, 8])).toArray)).data.toList.length : Int))) (none) (none)) (cond (decide (0 ≤ IntKind.u8.wrap ((IntKind.u64.wrap (0 - IntKind.u64.wrap a0)).fdiv (2 ^ min (Int.toNat 32) IntKind.u64.bits))) && decide (IntKind.u8.wrap ((IntKind.u64.wrap (0 - IntKind.u64.wrap a0)).fdiv (2 ^ min (Int.toNat 32) IntKind.u64.bits)) < (↑(ByteArray.mk ((([0, 1, 2, 2, 3, 3, 3, 3, 4, 4, 4, 4, 4, 4, 4, 4, 5, 5, 5, 5, 5, 5, 5, 5, 5, 5, 5, 5, 5, 5, 5, 5, 6, 6, 6, 6, 6, 6, 6, 6, 6, 6, 6, 6, 6, 6, 6, 6, 6, 6, 6, 6, 6, 6, 6, 6, 6, 6, 6, 6, 6, 6, 6, 6].append [7, 7, 7, 7, 7, 7, 7, 7, 7, 7, 7, 7, 7, 7, 7, 7, 7, 7, 7, 7, 7, 7, 7, 7, 7, 7, 7, 7, 7, 7, 7, 7, 7, 7, 7, 7, 7, 7, 7, 7, 7, 7, 7, 7, 7, 7, 7, 7, 7, 7, 7, 7, 7, 7, 7, 7, 7, 7, 7, 7, 7, 7, 7, 7]).append ([8, 8, 8, 8, 8, 8, 8, 8, 8, 8, 8, 8, 8, 8, 8, 8, 8, 8, 8, 8, 8, 8, 8, 8, 8, 8, 8, 8, 8, 8, 8, 8, 8, 8, 8, 8, 8, 8, 8, 8, 8, 8, 8, 8, 8, 8, 8, 8, 8, 8, 8, 8, 8, 8, 8, 8, 8, 8, 8, 8, 8, 8, 8, 8].append [8, 8, 8, 8, 8, 8, 8, 8, 8, 8, 8, 8, 8, 8, 8, 8, 8, 8, 8, 8, 8, 8, 8, 8, 8, 8, 8, 8, 8, 8, 8, 8, 8, 8, 8, 8, 8, 8, 8, 8, 8, 8, 8, 8, 8, 8, 8, 8, 8, 8, 8, 8, 8, 8, 8, 8, 8, 8, 8, 8, 8, 8, 8, 8])).toArray)).data.toList.length : Int))) (none) (none)))) (cond (decide (65536 ≤ IntKind.u64.wrap (0 - IntKind.u64.wrap a0))) (cond (decide (256 ≤ (IntKind.u64.wrap (0 - IntKind.u64.wrap a0)).fdiv (2 ^ min (Int.toNat 16) IntKind.u64.bits))) (cond (decide (0 ≤ IntKind.u8.wrap (((IntKind.u64.wrap (0 - IntKind.u64.wrap a0)).fdiv (2 ^ min (Int.toNat 16) IntKind.u64.bits)).fdiv (2 ^ min (Int.toNat 8) IntKind.u64.bits))) && decide (IntKind.u8.wrap (((IntKind.u64.wrap (0 - IntKind.u64.wrap a0)).fdiv (2 ^ min (Int.toNat 16) IntKind.u64.bits)).fdiv (2 ^ min (Int.toNat 8) IntKind.u64.bits)) < (↑(ByteArray.mk ((([0, 1, 2, 2, 3, 3, 3, 3, 4, 4, 4, 4, 4, 4, 4, 4, 5, 5, 5, 5, 5, 5, 5, 5, 5, 5, 5, 5, 5, 5, 5, 5, 6, 6, 6, 6, 6, 6, 6, 6, 6, 6, 6, 6, 6, 6, 6, 6, 6, 6, 6, 6, 6, 6, 6, 6, 6, 6, 6, 6, 6, 6, 6, 6].append [7, 7, 7, 7, 7, 7, 7, 7, 7, 7, 7, 7, 7, 7, 7, 7, 7, 7, 7, 7, 7, 7, 7, 7, 7, 7, 7, 7, 7, 7, 7, 7, 7, 7, 7, 7, 7, 7, 7, 7, 7, 7, 7, 7, 7, 7, 7, 7, 7, 7, 7, 7, 7, 7, 7, 7, 7, 7, 7, 7, 7, 7, 7, 7]).append ([8, 8, 8, 8, 8, 8, 8, 8, 8, 8, 8, 8, 8, 8, 8, 8, 8, 8, 8, 8, 8, 8, 8, 8, 8, 8, 8, 8, 8, 8, 8, 8, 8, 8, 8, 8, 8, 8, 8, 8, 8, 8, 8, 8, 8, 8, 8, 8, 8, 8, 8, 8, 8, 8, 8, 8, 8, 8, 8, 8, 8, 8, 8, 8].append [8, 8, 8, 8, 8, 8, 8, 8, 8, 8, 8, 8, 8, 8, 8, 8, 8, 8, 8, 8, 8, 8, 8, 8, 8, 8, 8, 8, 8, 8, 8, 8, 8, 8, 8, 8, 8, 8, 8, 8, 8, 8, 8, 8, 8, 8, 8, 8, 8, 8, 8, 8, 8, 8, 8, 8, 8, 8, 8, 8, 8, 8, 8, 8])).toArray)).data.toList.length : Int))) (none) (none)) (cond (decide (0 ≤ IntKind.u8.wrap ((IntKind.u64.wrap (0 - IntKind.u64.wrap a0)).fdiv (2 ^ min (Int.toNat 16) IntKind.u64.bits))) && decide (IntKind.u8.wrap ((IntKind.u64.wrap (0 - IntKind.u64.wrap a0)).fdiv (2 ^ min (Int.toNat 16) IntKind.u64.bits)) < (↑(ByteArray.mk ((([0, 1, 2, 2, 3, 3, 3, 3, 4, 4, 4, 4, 4, 4, 4, 4, 5, 5, 5, 5, 5, 5, 5, 5, 5, 5, 5, 5, 5, 5, 5, 5, 6, 6, 6, 6, 6, 6, 6, 6, 6, 6, 6, 6, 6, 6, 6, 6, 6, 6, 6, 6, 6, 6, 6, 6, 6, 6, 6, 6, 6, 6, 6, 6].append [7, 7, 7, 7, 7, 7, 7, 7, 7, 7, 7, 7, 7, 7, 7, 7, 7, 7, 7, 7, 7, 7, 7, 7, 7, 7, 7, 7, 7, 7, 7, 7, 7, 7, 7, 7, 7, 7, 7, 7, 7, 7, 7, 7, 7, 7, 7, 7, 7, 7, 7, 7, 7, 7, 7, 7, 7, 7, 7, 7, 7, 7, 7, 7]).append ([8, 8, 8, 8, 8, 8, 8, 8, 8, 8, 8, 8, 8, 8, 8, 8, 8, 8, 8, 8, 8, 8, 8, 8, 8, 8, 8, 8, 8, 8, 8, 8, 8, 8, 8, 8, 8, 8, 8, 8, 8, 8, 8, 8, 8, 8, 8, 8, 8, 8, 8, 8, 8, 8, 8, 8, 8, 8, 8, 8, 8, 8, 8, 8].append [8, 8, 8, 8, 8, 8, 8, 8, 8, 8, 8, 8, 8, 8, 8, 8, 8, 8, 8, 8, 8, 8, 8, 8, 8, 8, 8, 8, 8, 8, 8, 8, 8, 8, 8, 8, 8, 8, 8, 8, 8, 8, 8, 8, 8, 8, 8, 8, 8, 8, 8, 8, 8, 8, 8, 8, 8, 8, 8, 8, 8, 8, 8, 8])).toArray)).data.toList.length : Int))) (none) (none))) (cond (decide (256 ≤ IntKind.u64.wrap (0 - IntKind.u64.wrap a0))) (cond (decide (0 ≤ IntKind.u8.wrap ((IntKind.u64.wrap (0 - IntKind.u64.wrap a0)).fdiv (2 ^ min (Int.toNat 8) IntKind.u64.bits))) && decide (IntKind.u8.wrap ((IntKind.u64.wrap (0 - IntKind.u64.wrap a0)).fdiv (2 ^ min (Int.toNat 8) IntKind.u64.bits)) < (↑(ByteArray.mk ((([0, 1, 2, 2, 3, 3, 3, 3, 4, 4, 4, 4, 4, 4, 4, 4, 5, 5, 5, 5, 5, 5, 5, 5, 5, 5, 5, 5, 5, 5, 5, 5, 6, 6, 6, 6, 6, 6, 6, 6, 6, 6, 6, 6, 6, 6, 6, 6, 6, 6, 6, 6, 6, 6, 6, 6, 6, 6, 6, 6, 6, 6, 6, 6].append [7, 7, 7, 7, 7, 7, 7, 7, 7, 7, 7, 7, 7, 7, 7, 7, 7, 7, 7, 7, 7, 7, 7, 7, 7, 7, 7, 7, 7, 7, 7, 7, 7, 7, 7, 7, 7, 7, 7, 7, 7, 7, 7, 7, 7, 7, 7, 7, 7, 7, 7, 7, 7, 7, 7, 7, 7, 7, 7, 7, 7, 7, 7, 7]).append ([8, 8, 8, 8, 8, 8, 8, 8, 8, 8, 8, 8, 8, 8, 8, 8, 8, 8, 8, 8, 8, 8, 8, 8, 8, 8, 8, 8, 8, 8, 8, 8, 8, 8, 8, 8, 8, 8, 8, 8, 8, 8, 8, 8, 8, 8, 8, 8, 8, 8, 8, 8, 8, 8, 8, 8, 8, 8, 8, 8, 8, 8, 8, 8].append [8, 8, 8, 8, 8, 8, 8, 8, 8, 8, 8, 8, 8, 8, 8, 8, 8, 8, 8, 8, 8, 8, 8, 8, 8, 8, 8, 8, 8, 8, 8, 8, 8, 8, 8, 8, 8, 8, 8, 8, 8, 8, 8, 8, 8, 8, 8, 8, 8, 8, 8, 8, 8, 8, 8, 8, 8, 8, 8, 8, 8, 8, 8, 8])).toArray)).data.toList.length : Int))) (none) (none)) (cond (decide (0 ≤ IntKind.u8.wrap (IntKind.u64.wrap (0 - IntKind.u64.wrap a0))) && decide (IntKind.u8.wrap (IntKind.u64.wrap (0 - IntKind.u64.wrap a0)) < (↑(ByteArray.mk ((([0, 1, 2, 2, 3, 3, 3, 3, 4, 4, 4, 4, 4, 4, 4, 4, 5, 5, 5, 5, 5, 5, 5, 5, 5, 5, 5, 5, 5, 5, 5, 5, 6, 6, 6, 6, 6, 6, 6, 6, 6, 6, 6, 6, 6, 6, 6, 6, 6, 6, 6, 6, 6, 6, 6, 6, 6, 6, 6, 6, 6, 6, 6, 6].append [7, 7, 7, 7, 7, 7, 7, 7, 7, 7, 7, 7, 7, 7, 7, 7, 7, 7, 7, 7, 7, 7, 7, 7, 7, 7, 7, 7, 7, 7, 7, 7, 7, 7, 7, 7, 7, 7, 7, 7, 7, 7, 7, 7, 7, 7, 7, 7, 7, 7, 7, 7, 7, 7, 7, 7, 7, 7, 7, 7, 7, 7, 7, 7]).append ([8, 8, 8, 8, 8, 8, 8, 8, 8, 8, 8, 8, 8, 8, 8, 8, 8, 8, 8, 8, 8, 8, 8, 8, 8, 8, 8, 8, 8, 8, 8, 8, 8, 8, 8, 8, 8, 8, 8, 8, 8, 8, 8, 8, 8, 8, 8, 8, 8, 8, 8, 8, 8, 8, 8, 8, 8, 8, 8, 8, 8, 8, 8, 8].append [8, 8, 8, 8, 8, 8, 8, 8, 8, 8, 8, 8, 8, 8, 8, 8, 8, 8, 8, 8, 8, 8, 8, 8, 8, 8, 8, 8, 8, 8, 8, 8, 8, 8, 8, 8, 8, 8, 8, 8, 8, 8, 8, 8, 8, 8, 8, 8, 8, 8, 8, 8, 8, 8, 8, 8, 8, 8, 8, 8, 8, 8, 8, 8])).toArray)).data.toList.length : Int))) (none) (none))))) (cond (decide (4294967296 ≤ IntKind.u64.wrap a0)) (cond (decide (65536 ≤ (IntKind.u64.wrap a0).fdiv (2 ^ min (Int.toNat 32) IntKind.u64.bits))) (cond (decide (256 ≤ ((IntKind.u64.wrap a0).fdiv (2 ^ min (Int.toNat 32) IntKind.u64.bits)).fdiv (2 ^ min (Int.toNat 16) IntKind.u64.bits))) (cond (decide (0 ≤ IntKind.u8.wrap ((((IntKind.u64.wrap a0).fdiv (2 ^ min (Int.toNat 32) IntKind.u64.bits)).fdiv (2 ^ min (Int.toNat 16) IntKind.u64.bits)).fdiv (2 ^ min (Int.toNat 8) IntKind.u64.bits))) && decide (IntKind.u8.wrap ((((IntKind.u64.wrap a0).fdiv (2 ^ min (Int.toNat 32) IntKind.u64.bits)).fdiv (2 ^ min (Int.toNat 16) IntKind.u64.bits)).fdiv (2 ^ min (Int.toNat 8) IntKind.u64.bits)) < (↑(ByteArray.mk ((([0, 1, 2, 2, 3, 3, 3, 3, 4, 4, 4, 4, 4, 4, 4, 4, 5, 5, 5, 5, 5, 5, 5, 5, 5, 5, 5, 5, 5, 5, 5, 5, 6, 6, 6, 6, 6, 6, 6, 6, 6, 6, 6, 6, 6, 6, 6, 6, 6, 6, 6, 6, 6, 6, 6, 6, 6, 6, 6, 6, 6, 6, 6, 6].append [7, 7, 7, 7, 7, 7, 7, 7, 7, 7, 7, 7, 7, 7, 7, 7, 7, 7, 7, 7, 7, 7, 7, 7, 7, 7, 7, 7, 7, 7, 7, 7, 7, 7, 7, 7, 7, 7, 7, 7, 7, 7, 7, 7, 7, 7, 7, 7, 7, 7, 7, 7, 7, 7, 7, 7, 7, 7, 7, 7, 7, 7, 7, 7]).append ([8, 8, 8, 8, 8, 8, 8, 8, 8, 8, 8, 8, 8, 8, 8, 8, 8, 8, 8, 8, 8, 8, 8, 8, 8, 8, 8, 8, 8, 8, 8, 8, 8, 8, 8, 8, 8, 8, 8, 8, 8, 8, 8, 8, 8, 8, 8, 8, 8, 8, 8, 8, 8, 8, 8, 8, 8, 8, 8, 8, 8, 8, 8, 8].append [8, 8, 8, 8, 8, 8, 8, 8, 8, 8, 8, 8, 8, 8, 8, 8, 8, 8, 8, 8, 8, 8, 8, 8, 8, 8, 8, 8, 8, 8, 8, 8, 8, 8, 8, 8, 8, 8, 8, 8, 8, 8, 8, 8, 8, 8, 8, 8, 8, 8, 8, 8, 8, 8, 8, 8, 8, 8, 8, 8, 8, 8, 8, 8])).toArray)).data.toList.length : Int))) (none) (none)) (cond (decide (0 ≤ IntKind.u8.wrap (((IntKind.u64.wrap a0).fdiv (2 ^ min (Int.toNat 32) IntKind.u64.bits)).fdiv (2 ^ min (Int.toNat 16) IntKind.u64.bits))) && decide (IntKind.u8.wrap (((IntKind.u64.wrap a0).fdiv (2 ^ min (Int.toNat 32) IntKind.u64.bits)).fdiv (2 ^ min (Int.toNat 16) IntKind.u64.bits)) < (↑(ByteArray.mk ((([0, 1, 2, 2, 3, 3, 3, 3, 4, 4, 4, 4, 4, 4, 4, 4, 5, 5, 5, 5, 5, 5, 5, 5, 5, 5, 5, 5, 5, 5, 5, 5, 6, 6, 6, 6, 6, 6, 6, 6, 6, 6, 6, 6, 6, 6, 6, 6, 6, 6, 6, 6, 6, 6, 6, 6, 6, 6, 6, 6, 6, 6, 6, 6].append [7, 7, 7, 7, 7, 7, 7, 7, 7, 7, 7, 7, 7, 7, 7, 7, 7, 7, 7, 7, 7, 7, 7, 7, 7, 7, 7, 7, 7, 7, 7, 7, 7, 7, 7, 7, 7, 7, 7, 7, 7, 7, 7, 7, 7, 7, 7, 7, 7, 7, 7, 7, 7, 7, 7, 7, 7, 7, 7, 7, 7, 7, 7, 7]).append ([8, 8, 8, 8, 8, 8, 8, 8, 8, 8, 8, 8, 8, 8, 8, 8, 8, 8, 8, 8, 8, 8, 8, 8, 8, 8, 8, 8, 8, 8, 8, 8, 8, 8, 8, 8, 8, 8, 8, 8, 8, 8, 8, 8, 8, 8, 8, 8, 8, 8, 8, 8, 8, 8, 8, 8, 8, 8, 8, 8, 8, 8, 8, 8].append [8, 8, 8, 8, 8, 8, 8, 8, 8, 8, 8, 8, 8, 8, 8, 8, 8, 8, 8, 8, 8, 8, 8, 8, 8, 8, 8, 8, 8, 8, 8, 8, 8, 8, 8, 8, 8, 8, 8, 8, 8, 8, 8, 8, 8, 8, 8, 8, 8, 8, 8, 8, 8, 8, 8, 8, 8, 8, 8, 8, 8, 8, 8, 8])).toArray)).data.toList.length : Int))) (none) (none))) (cond (decide (256 ≤ (IntKind.u64.wrap a0).fdiv (2 ^ min (Int.toNat 32) IntKind.u64.bits))) (cond (decide (0 ≤ IntKind.u8.wrap (((IntKind.u64.wrap a0).fdiv (2 ^ min (Int.toNat 32) IntKind.u64.bits)).fdiv (2 ^ min (Int.toNat 8) IntKind.u64.bits))) && decide (IntKind.u8.wrap (((IntKind.u64.wrap a0).fdiv (2 ^ min (Int.toNat 32) IntKind.u64.bits)).fdiv (2 ^ min (Int.toNat 8) IntKind.u64.bits)) < (↑(ByteArray.mk ((([0, 1, 2, 2, 3, 3, 3, 3, 4, 4, 4, 4, 4, 4, 4, 4, 5, 5, 5, 5, 5, 5, 5, 5, 5, 5, 5, 5, 5, 5, 5, 5, 6, 6, 6, 6, 6, 6, 6, 6, 6, 6, 6, 6, 6, 6, 6, 6, 6, 6, 6, 6, 6, 6, 6, 6, 6, 6, 6, 6, 6, 6, 6, 6].append [7, 7, 7, 7, 7, 7, 7, 7, 7, 7, 7, 7, 7, 7, 7, 7, 7, 7, 7, 7, 7, 7, 7, 7, 7, 7, 7, 7, 7, 7, 7, 7, 7, 7, 7, 7, 7, 7, 7, 7, 7, 7, 7, 7, 7, 7, 7, 7, 7, 7, 7, 7, 7, 7, 7, 7, 7, 7, 7, 7, 7, 7, 7, 7]).append ([8, 8, 8, 8, 8, 8, 8, 8, 8, 8, 8, 8, 8, 8, 8, 8, 8, 8, 8, 8, 8, 8, 8, 8, 8, 8, 8, 8, 8, 8, 8, 8, 8, 8, 8, 8, 8, 8, 8, 8, 8, 8, 8, 8, 8, 8, 8, 8, 8, 8, 8, 8, 8, 8, 8, 8, 8, 8, 8, 8, 8, 8, 8, 8].append [8, 8, 8, 8, 8, 8, 8, 8, 8, 8, 8, 8, 8, 8, 8, 8, 8, 8, 8, 8, 8, 8, 8, 8, 8, 8, 8, 8, 8, 8, 8, 8, 8, 8, 8, 8, 8, 8, 8, 8, 8, 8, 8, 8, 8, 8, 8, 8, 8, 8, 8, 8, 8, 8, 8, 8, 8, 8, 8, 8, 8, 8, 8, 8])).toArray)).data.toList.length : Int))) (none) (none)) (cond (decide (0 ≤ IntKind.u8.wrap ((IntKind.u64.wrap a0).fdiv (2 ^ min (Int.toNat 32) IntKind.u64.bits))) && decide (IntKind.u8.wrap ((IntKind.u64.wrap a0).fdiv (2 ^ min (Int.toNat 32) IntKind.u64.bits)) < (↑(ByteArray.mk ((([0, 1, 2, 2, 3, 3, 3, 3, 4, 4, 4, 4, 4, 4, 4, 4, 5, 5, 5, 5, 5, 5, 5, 5, 5, 5, 5, 5, 5, 5, 5, 5, 6, 6, 6, 6, 6, 6, 6, 6, 6, 6, 6, 6, 6, 6, 6, 6, 6, 6, 6, 6, 6, 6, 6, 6, 6, 6, 6, 6, 6, 6, 6, 6].append [7, 7, 7, 7, 7, 7, 7, 7, 7, 7, 7, 7, 7, 7, 7, 7, 7, 7, 7, 7, 7, 7, 7, 7, 7, 7, 7, 7, 7, 7, 7, 7, 7, 7, 7, 7, 7, 7, 7, 7, 7, 7, 7, 7, 7, 7, 7, 7, 7, 7, 7, 7, 7, 7, 7, 7, 7, 7, 7, 7, 7, 7, 7, 7]).append ([8, 8, 8, 8, 8, 8, 8, 8, 8, 8, 8, 8, 8, 8, 8, 8, 8, 8, 8, 8, 8, 8, 8, 8, 8, 8, 8, 8, 8, 8, 8, 8, 8, 8, 8, 8, 8, 8, 8, 8, 8, 8, 8, 8, 8, 8, 8, 8, 8, 8, 8, 8, 8, 8, 8, 8, 8, 8, 8, 8, 8, 8, 8, 8].append [8, 8, 8, 8, 8, 8, 8, 8, 8, 8, 8, 8, 8, 8, 8, 8, 8, 8, 8, 8, 8, 8, 8, 8, 8, 8, 8, 8, 8, 8, 8, 8, 8, 8, 8, 8, 8, 8, 8, 8, 8, 8, 8, 8, 8, 8, 8, 8, 8, 8, 8, 8, 8, 8, 8, 8, 8, 8, 8, 8, 8, 8, 8, 8])).toArray)).data.toList.length : Int))) (none) (none)))) (cond (decide (65536 ≤ IntKind.u64.wrap a0)) (cond (decide (256 ≤ (IntKind.u64.wrap a0).fdiv (2 ^ min (Int.toNat 16) IntKind.u64.bits))) (cond (decide (0 ≤ IntKind.u8.wrap (((IntKind.u64.wrap a0).fdiv (2 ^ min (Int.toNat 16) IntKind.u64.bits)).fdiv (2 ^ min (Int.toNat 8) IntKind.u64.bits))) && decide (IntKind.u8.wrap (((IntKind.u64.wrap a0).fdiv (2 ^ min (Int.toNat 16) IntKind.u64.bits)).fdiv (2 ^ min (Int.toNat 8) IntKind.u64.bits)) < (↑(ByteArray.mk ((([0, 1, 2, 2, 3, 3, 3, 3, 4, 4, 4, 4, 4, 4, 4, 4, 5, 5, 5, 5, 5, 5, 5, 5, 5, 5, 5, 5, 5, 5, 5, 5, 6, 6, 6, 6, 6, 6, 6, 6, 6, 6, 6, 6, 6, 6, 6, 6, 6, 6, 6, 6, 6, 6, 6, 6, 6, 6, 6, 6, 6, 6, 6, 6].append [7, 7, 7, 7, 7, 7, 7, 7, 7, 7, 7, 7, 7, 7, 7, 7, 7, 7, 7, 7, 7, 7, 7, 7, 7, 7, 7, 7, 7, 7, 7, 7, 7, 7, 7, 7, 7, 7, 7, 7, 7, 7, 7, 7, 7, 7, 7, 7, 7, 7, 7, 7, 7, 7, 7, 7, 7, 7, 7, 7, 7, 7, 7, 7]).append ([8, 8, 8, 8, 8, 8, 8, 8, 8, 8, 8, 8, 8, 8, 8, 8, 8, 8, 8, 8, 8, 8, 8, 8, 8, 8, 8, 8, 8, 8, 8, 8, 8, 8, 8, 8, 8, 8, 8, 8, 8, 8, 8, 8, 8, 8, 8, 8, 8, 8, 8, 8, 8, 8, 8, 8, 8, 8, 8, 8, 8, 8, 8, 8].append [8, 8, 8, 8, 8, 8, 8, 8, 8, 8, 8, 8, 8, 8, 8, 8, 8, 8, 8, 8, 8, 8, 8, 8, 8, 8, 8, 8, 8, 8, 8, 8, 8, 8, 8, 8, 8, 8, 8, 8, 8, 8, 8, 8, 8, 8, 8, 8, 8, 8, 8, 8, 8, 8, 8, 8, 8, 8, 8, 8, 8, 8, 8, 8])).toArray)).data.toList.length : Int))) (none) (none)) (cond (decide (0 ≤ IntKind.u8.wrap ((IntKind.u64.wrap a0).fdiv (2 ^ min (Int.toNat 16) IntKind.u64.bits))) && decide (IntKind.u8.wrap ((IntKind.u64.wrap a0).fdiv (2 ^ min (Int.toNat 16) IntKind.u64.bits)) < (↑(ByteArray.mk ((([0, 1, 2, 2, 3, 3, 3, 3, 4, 4, 4, 4, 4, 4, 4, 4, 5, 5, 5, 5, 5, 5, 5, 5, 5, 5, 5, 5, 5, 5, 5, 5, 6, 6, 6, 6, 6, 6, 6, 6, 6, 6, 6, 6, 6, 6, 6, 6, 6, 6, 6, 6, 6, 6, 6, 6, 6, 6, 6, 6, 6, 6, 6, 6].append [7, 7, 7, 7, 7, 7, 7, 7, 7, 7, 7, 7, 7, 7, 7, 7, 7, 7, 7, 7, 7, 7, 7, 7, 7, 7, 7, 7, 7, 7, 7, 7, 7, 7, 7, 7, 7, 7, 7, 7, 7, 7, 7, 7, 7, 7, 7, 7, 7, 7, 7, 7, 7, 7, 7, 7, 7, 7, 7, 7, 7, 7, 7, 7]).append ([8, 8, 8, 8, 8, 8, 8, 8, 8, 8, 8, 8, 8, 8, 8, 8, 8, 8, 8, 8, 8, 8, 8, 8, 8, 8, 8, 8, 8, 8, 8, 8, 8, 8, 8, 8, 8, 8, 8, 8, 8, 8, 8, 8, 8, 8, 8, 8, 8, 8, 8, 8, 8, 8, 8, 8, 8, 8, 8, 8, 8, 8, 8, 8].append [8, 8, 8, 8, 8, 8, 8, 8, 8, 8, 8, 8, 8, 8, 8, 8, 8, 8, 8, 8, 8, 8, 8, 8, 8, 8, 8, 8, 8, 8, 8, 8, 8, 8, 8, 8, 8, 8, 8, 8, 8, 8, 8, 8, 8, 8, 8, 8, 8, 8, 8, 8, 8, 8, 8, 8, 8, 8, 8, 8, 8, 8, 8, 8])).toArray)).data.toList.length : Int))) (none) (none))) (cond (decide (256 ≤ IntKind.u64.wrap a0)) (cond (decide (0 ≤ IntKind.u8.wrap ((IntKind.u64.wrap a0).fdiv (2 ^ min (Int.toNat 8) IntKind.u64.bits))) && decide (IntKind.u8.wrap ((IntKind.u64.wrap a0).fdiv (2 ^ min (Int.toNat 8) IntKind.u64.bits)) < (↑(ByteArray.mk ((([0, 1, 2, 2, 3, 3, 3, 3, 4, 4, 4, 4, 4, 4, 4, 4, 5, 5, 5, 5, 5, 5, 5, 5, 5, 5, 5, 5, 5, 5, 5, 5, 6, 6, 6, 6, 6, 6, 6, 6, 6, 6, 6, 6, 6, 6, 6, 6, 6, 6, 6, 6, 6, 6, 6, 6, 6, 6, 6, 6, 6, 6, 6, 6].append [7, 7, 7, 7, 7, 7, 7, 7, 7, 7, 7, 7, 7, 7, 7, 7, 7, 7, 7, 7, 7, 7, 7, 7, 7, 7, 7, 7, 7, 7, 7, 7, 7, 7, 7, 7, 7, 7, 7, 7, 7, 7, 7, 7, 7, 7, 7, 7, 7, 7, 7, 7, 7, 7, 7, 7, 7, 7, 7, 7, 7, 7, 7, 7]).append ([8, 8, 8, 8, 8, 8, 8, 8, 8, 8, 8, 8, 8, 8, 8, 8, 8, 8, 8, 8, 8, 8, 8, 8, 8, 8, 8, 8, 8, 8, 8, 8, 8, 8, 8, 8, 8, 8, 8, 8, 8, 8, 8, 8, 8, 8, 8, 8, 8, 8, 8, 8, 8, 8, 8, 8, 8, 8, 8, 8, 8, 8, 8, 8].append [8, 8, 8, 8, 8, 8, 8, 8, 8, 8, 8, 8, 8, 8, 8, 8, 8, 8, 8, 8, 8, 8, 8, 8, 8, 8, 8, 8, 8, 8, 8, 8, 8, 8, 8, 8, 8, 8, 8, 8, 8, 8, 8, 8, 8, 8, 8, 8, 8, 8, 8, 8, 8, 8, 8, 8, 8, 8, 8, 8, 8, 8, 8, 8])).toArray)).data.toList.length : Int))) (none) (none)) (cond (decide (0 ≤ IntKind.u8.wrap (IntKind.u64.wrap a0)) && decide (IntKind.u8.wrap (IntKind.u64.wrap a0) < (↑(ByteArray.mk ((([0, 1, 2, 2, 3, 3, 3, 3, 4, 4, 4, 4, 4, 4, 4, 4, 5, 5, 5, 5, 5, 5, 5, 5, 5, 5, 5, 5, 5, 5, 5, 5, 6, 6, 6, 6, 6, 6, 6, 6, 6, 6, 6, 6, 6, 6, 6, 6, 6, 6, 6, 6, 6, 6, 6, 6, 6, 6, 6, 6, 6, 6, 6, 6].append [7, 7, 7, 7, 7, 7, 7, 7, 7, 7, 7, 7, 7, 7, 7, 7, 7, 7, 7, 7, 7, 7, 7, 7, 7, 7, 7, 7, 7, 7, 7, 7, 7, 7, 7, 7, 7, 7, 7, 7, 7, 7, 7, 7, 7, 7, 7, 7, 7, 7, 7, 7, 7, 7, 7, 7, 7, 7, 7, 7, 7, 7, 7, 7]).append ([8, 8, 8, 8, 8, 8, 8, 8, 8, 8, 8, 8, 8, 8, 8, 8, 8, 8, 8, 8, 8, 8, 8, 8, 8, 8, 8, 8, 8, 8, 8, 8, 8, 8, 8, 8, 8, 8, 8, 8, 8, 8, 8, 8, 8, 8, 8, 8, 8, 8, 8, 8, 8, 8, 8, 8, 8, 8, 8, 8, 8, 8, 8, 8].append [8, 8, 8, 8, 8, 8, 8, 8, 8, 8, 8, 8, 8, 8, 8, 8, 8, 8, 8, 8, 8, 8, 8, 8, 8, 8, 8, 8, 8, 8, 8, 8, 8, 8, 8, 8, 8, 8, 8, 8, 8, 8, 8, 8, 8, 8, 8, 8, 8, 8, 8, 8, 8, 8, 8, 8, 8, 8, 8, 8, 8, 8, 8, 8])).toArray)).data.toList.length : Int))) (none) (none))))))
theorem eq (N : Nat) (a0 : Int) : evF (C N) 50 Tryd.f39 an39 (smL (ents39 N) 0 50) [((.str : K), false)] [⟨.int .i64, a0⟩] = g N a0 (fun r0 => some [.dat (K.str) r0]) := by kernel_rfl
theorem ctxOk (N : Nat) : CtxOk P (C N) := ctxOk_of tysOk mixedOk trivial ⟨⟨⟨by rfl, by kernel_rfl⟩, fun α lo d c hc => smL_ok (ents73_ok N) lo d hc⟩, ⟨⟨by rfl, by kernel_rfl⟩, fun α lo d c hc => smL_ok (ents91_ok N) lo d hc⟩, ⟨⟨by rfl, by kernel_rfl⟩, fun α lo d c hc => smL_ok (ents96_ok N) lo d hc⟩, ⟨⟨by rfl, by kernel_rfl⟩, fun α lo d c hc => smL_ok (ents97_ok N) lo d hc⟩, ⟨⟨by rfl, by kernel_rfl⟩, fun α lo d c hc => smL_ok (ents98_ok N) lo d hc⟩, ⟨⟨by rfl, by kernel_rfl⟩, fun α lo d c hc => smL_ok (ents99_ok N) lo d hc⟩, ⟨⟨by rfl, by kernel_rfl⟩, fun α lo d c hc => smL_ok (ents100_ok N) lo d hc⟩, ⟨⟨by rfl, by kernel_rfl⟩, fun α lo d c hc => smL_ok (ents101_ok N) lo d hc⟩, ⟨⟨by rfl, by kernel_rfl⟩, fun α lo d c hc => smL_ok (ents102_ok N) lo d hc⟩, ⟨⟨by rfl, by kernel_rfl⟩, fun α lo d c hc => smL_ok (ents103_ok N) lo d hc⟩, ⟨⟨by rfl, by kernel_rfl⟩, fun α lo d c hc => smL_ok (ents104_ok N) lo d hc⟩, ⟨⟨by rfl, by kernel_rfl⟩, fun α lo d c hc => smL_ok (ents105_ok N) lo d hc⟩, ⟨⟨by rfl, by kernel_rfl⟩, fun α lo d c hc => smL_ok (ents106_ok N) lo d hc⟩, trivial⟩
theorem calls (N : Nat) (a0 : Int) {rs : List Rs} (h : g N a0 (fun r0 => some [.dat (K.str) r0]) = some rs) : CallsTo P 39 [⟨.int .i64, a0⟩] rs := evF_calls' (ctxOk N) (by rfl) (ents39_ok N) ((eq N a0).trans h)
end strconv_Itoa
theorem strconv_Itoa.at {α : Type} (N : Nat) (kr : BA → Option α) : ∀ n : Nat, n < 100 → strconv_Itoa.g N ((n : Nat) : Int) kr = kr (digB ((n : Nat) : Int))
 | 0, _ => by kernel_rfl
 | 1, _ => by kernel_rfl
 | 2, _ => by kernel_rfl
 | 3, _ => by kernel_rfl
 | 4, _ => by kernel_rfl
 | 5, _ => by kernel_rfl
 | 6, _ => by kernel_rfl
 | 7, _ => by kernel_rfl
 | 8, _ => by kernel_rfl
 | 9, _ => by kernel_rfl
 | 10, _ => by kernel_rfl
 | 11, _ => by kernel_rfl
 | 12, _ => by kernel_rfl
 | 13, _ => by kernel_rfl
 | 14, _ => by kernel_rfl
 | 15, _ => by kernel_rfl
 | 16, _ => by kernel_rfl
 | 17, _ => by kernel_rfl
 | 18, _ => by kernel_rfl
 | 19, _ => by kernel_rfl
 | 20, _ => by kernel_rfl
 | 21, _ => by kernel_rfl
 | 22, _ => by kernel_rfl
 | 23, _ => by kernel_rfl
 | 24, _ => by kernel_rfl
 | 25, _ => by kernel_rfl
 | 26, _ => by kernel_rfl
 | 27, _ => by kernel_rfl
 | 28, _ => by kernel_rfl
 | 29, _ => by kernel_rfl
 | 30, _ => by kernel_rfl
 | 31, _ => by kernel_rfl
 | 32, _ => by kernel_rfl
 | 33, _ => by kernel_rfl
 | 34, _ => by kernel_rfl
 | 35, _ => by kernel_rfl
 | 36, _ => by kernel_rfl
 | 37, _ => by kernel_rfl
 | 38, _ => by kernel_rfl
 | 39, _ => by kernel_rfl
 | 40, _ => by kernel_rfl
 | 41, _ => by kernel_rfl
 | 42, _ => by kernel_rfl
 | 43, _ => by kernel_rfl
 | 44, _ => by kernel_rfl
 | 45, _ => by kernel_rfl
 | 46, _ => by kernel_rfl
 | 47, _ => by kernel_rfl
 | 48, _ => by kernel_rfl
 | 49, _ => by kernel_rfl
 | 50, _ => by kernel_rfl
 | 51, _ => by kernel_rfl
 | 52, _ => by kernel_rfl
 | 53, _ => by kernel_rfl
 | 54, _ => by kernel_rfl
 | 55, _ => by kernel_rfl
 | 56, _ => by kernel_rfl
 | 57, _ => by kernel_rfl
 | 58, _ => by kernel_rfl
 | 59, _ => by kernel_rfl
 | 60, _ => by kernel_rfl
 | 61, _ => by kernel_rfl
 | 62, _ => by kernel_rfl
 | 63, _ => by kernel_rfl
 | 64, _ => by kernel_rfl
 | 65, _ => by kernel_rfl
 | 66, _ => by kernel_rfl
 | 67, _ => by kernel_rfl
 | 68, _ => by kernel_rfl
 | 69, _ => by kernel_rfl
 | 70, _ => by kernel_rfl
 | 71, _ => by kernel_rfl
 | 72, _ => by kernel_rfl
 | 73, _ => by kernel_rfl
 | 74, _ => by kernel_rfl
 | 75, _ => by kernel_rfl
 | 76, _ => by kernel_rfl
 | 77, _ => by kernel_rfl
 | 78, _ => by kernel_rfl
 | 79, _ => by kernel_rfl
 | 80, _ => by kernel_rfl
 | 81, _ => by kernel_rfl
 | 82, _ => by kernel_rfl
 | 83, _ => by kernel_rfl
 | 84, _ => by kernel_rfl
 | 85, _ => by kernel_rfl
 | 86, _ => by kernel_rfl
 | 87, _ => by kernel_rfl
 | 88, _ => by kernel_rfl
 | 89, _ => by kernel_rfl
 | 90, _ => by kernel_rfl
 | 91, _ => by kernel_rfl
 | 92, _ => by kernel_rfl
 | 93, _ => by kernel_rfl
 | 94, _ => by kernel_rfl
 | 95, _ => by kernel_rfl
 | 96, _ => by kernel_rfl
 | 97, _ => by kernel_rfl
 | 98, _ => by kernel_rfl
 | 99, _ => by kernel_rfl
 | n + 100, h => absurd h (by omega)
theorem strconv_Itoa.law {α : Type} {N : Nat} (hN : 18446744073709551616 ≤ N) (a0 : Int) (w0 : K.wf (.int .i64) a0) (hp : strconv_Itoa.pre a0 = true) (kr : (BA → Option α)) : strconv_Itoa.g N a0 kr = kr (strconv_Itoa.spec a0) := by
 unfold strconv_Itoa.pre at hp
 simp only [Bool.and_eq_true, decide_eq_true_eq] at hp
 obtain ⟨n, rfl⟩ : ∃ n : Nat, a0 = (n : Int) := ⟨a0.toNat, by omega⟩
 exact strconv_Itoa.at N kr n (by omega)
theorem strconv_Itoa.ok : FentOk P 39 strconv_Itoa.fent := fentOk_of (by kernel_rfl) fun ds hk => by
 obtain ⟨a0, l0, rfl, h0⟩ := ds_cons hk
 obtain rfl := ds0 h0
 exact ⟨strconv_Itoa.pre a0, [.dat (.str) (strconv_Itoa.spec a0)], fun h hw => strconv_Itoa.calls 18446744073709551616 a0 (strconv_Itoa.law (Nat.le_refl _) a0 hw.1 h _), fun α k => rfl⟩
end Go.VI
namespace Go.VI
open Go Go.Proofs
namespace pl12_lives
def an12 : Ann := []
def an13 : Ann := [(6, [2, 5, 24, 25, 26], [2, 5]), (12, [2, 5, 50, 51, 52], [2, 3, 5]), (15, [2, 5, 50, 51, 52, 60, 61, 62], [2, 3, 5, 50, 51, 52]), (18, [2, 5, 50, 51, 52, 60, 61, 62, 66, 67, 68], [2, 3, 5, 50, 51, 52, 60, 61, 62])]
def an15 : Ann := [(9, [1, 8, 32, 33, 34], [4, 5, 8])]
def an33 : Ann := []
def an34 : Ann := [(5, [1, 22, 23, 24], [1, 2]), (8, [1, 22, 23, 24, 29, 30, 31], [1, 2, 22, 23, 24]), (16, [1, 8, 49, 50, 51], [1, 8]), (24, [1, 64, 65, 66], [2])]
def an35 : Ann := [(3, [1, 2, 3, 6, 7, 16, 17, 18], [2, 3, 6, 7]), (8, [2, 6, 7, 34, 35, 36], [6, 7])]
def an36 : Ann := []
def an37 : Ann := [(3, [2, 3, 4, 14, 15, 16], [2, 3])]
def C : Ctx := ⟨tysD, [(19, tf_Reverse.fent), (21, tf_Dual.fent), (23, tf_Subnet.fent), (25, tf_Start.fent), (27, tf_Union.fent), (39, strconv_Itoa.fent), (44, marking_Valid.fent), (53, net_Check.fent), (62, net_Place.fent), (63, net_Trans.fent), (72, tf_clone.fent), (38, tf_weight.fent)], [(13, ⟨Tryd.f13, an13, noSm⟩), (15, ⟨Tryd.f15, an15, noSm⟩), (33, ⟨Tryd.f33, an33, noSm⟩), (34, ⟨Tryd.f34, an34, noSm⟩), (35, ⟨Tryd.f35, an35, noSm⟩), (36, ⟨Tryd.f36, an36, noSm⟩), (37, ⟨Tryd.f37, an37, noSm⟩)], 100000⟩
theorem ctxOk : CtxOk P C := ctxOk_of tysDOk mixedOk ⟨tf_Reverse.ok, tf_Dual.ok, tf_Subnet.ok, tf_Start.ok, tf_Union.ok, strconv_Itoa.ok, marking_Valid.ok, net_Check.ok, net_Place.ok, net_Trans.ok, tf_clone.ok, tf_weight.ok, trivial⟩ ⟨inlOk_no (by rfl) (by kernel_rfl), inlOk_no (by rfl) (by kernel_rfl), inlOk_no (by rfl) (by kernel_rfl), inlOk_no (by rfl) (by kernel_rfl), inlOk_no (by rfl) (by kernel_rfl), inlOk_no (by rfl) (by kernel_rfl), inlOk_no (by rfl) (by kernel_rfl), trivial⟩
theorem runs : evF C 60 Tryd.f12 an12 (fun _ => none) [(.bool, false)] [] = some [.dat .bool true] := by kernel_rfl
theorem calls : CallsTo P 12 [] [.dat .bool true] := evF_closed ctxOk (by rfl) runs
end pl12_lives
theorem pl12_lives.ok : FentOk P 12 pl12_lives.fent := fentOk_of (by kernel_rfl) fun ds hk => by
 obtain rfl := ds0 hk
 exact ⟨true, [.dat .bool true], fun _ _ => pl12_lives.calls, fun α k => rfl⟩
end Go.VI
namespace Go.VI
open Go Go.Proofs
namespace pf09_SameArcs
def an47 : Ann := [(4, [0, 1, 5], [4])]
def L0.sh : Sh := { sl := [(0, SV.a (SA.d ((K.int IntKind.i64).pr (K.int IntKind.i64)).st.sl)), (1, SV.a (SA.d ((K.int IntKind.i64).pr (K.int IntKind.i64)).st.sl)), (5, SV.a (SA.d (K.int IntKind.i64)))], os := [], nx := 0 }
def L0.x0 : Sh := { sl := [(4, SV.a (SA.d K.bool))], os := [], nx := 0 }
def L0.x1 : Sh := { sl := [(4, SV.j)], os := [], nx := 0 }
def L0.st {α : Type} (N : Nat) (x0 : (List (Int × Int))) (x1 : (List (Int × Int))) (φ : (Int → Option α)) (x2 : Int) (k0 : (Bool → Option α)) (k1 : Option α) : Option α :=
 cond (decide (x2 < (↑x0.length : Int))) (cond (decide (0 ≤ x2) && decide (x2 < (↑x0.length : Int))) (cond (decide (0 ≤ x2) && decide (x2 < (↑x1.length : Int))) (cond (!((x0.getD x2.toNat ((0 : Int), (0 : Int))).fst == (x1.getD x2.toNat ((0 : Int), (0 : Int))).fst && ((x0.getD x2.toNat ((0 : Int), (0 : Int))).snd == (x1.getD x2.toNat ((0 : Int), (0 : Int))).snd && true))) (k0 (false)) (φ (IntKind.i64.wrap (x2 + 1)))) (none)) (none)) (k1 )
def L0.f {α : Type} (N : Nat) (c0 : (List (Int × Int))) (c1 : (List (Int × Int))) : Nat → Int → (Bool → Option α) → Option α → Option α
 | 0, _, _, _ => none
 | n + 1, d0, k0, k1 => L0.st N c0 c1 (fun e0 => L0.f N c0 c1 n e0 k0 k1) d0 k0 k1
def L0.up (d : L0.sh.T) (e0 : Int) : L0.sh.T := ((d.1.1, (d.1.2.1, (e0, ()))), ())
def L0.k0 {α : Type} (d : L0.sh.T) (K : Cont α) : (Bool → Option α) := fun y0 => K (Exit.ret) (L0.x0.enc ((y0, ()), ()))
def L0.k1 {α : Type} (d : L0.sh.T) (K : Cont α) : Option α := K (Exit.exit 0) (L0.x1.enc (((), ()), ()))
def L0.F {α : Type} (N : Nat) (d : L0.sh.T) (K : Cont α) : Option α := L0.f N d.1.1 d.1.2.1 N d.1.2.2.1 (L0.k0 d K) (L0.k1 d K)
def ents47 {α : Type} (N : Nat) : List (SmE α) := [⟨0, 50, 4, [⟨L0.sh, L0.F N⟩]⟩]
def C (N : Nat) : Ctx := ⟨tys, [], [], N⟩
def L0.B {α : Type} (N : Nat) : Env → Cont α → Option α := evC tys 26 0 (evCall (C N) 50) (evCallQ (C N)) N an47 (smL (ents47 N) 0 50) (loopOf 4 Tryd.f47)
theorem L0.r {α : Type} (N : Nat) (φ : Env → Option α) (K : Cont α) (d : L0.sh.T) : L0.B N (L0.sh.enc d) (contL φ K (Env.norm 0 [0, 1, 5]) (Env.norm 0 [4])) = L0.st N d.1.1 d.1.2.1 (fun e0 => φ (L0.sh.enc (L0.up d e0))) d.1.2.2.1 (L0.k0 d K) (L0.k1 d K) := by kernel_rfl
theorem L0.e {α : Type} (N : Nat) : ∀ (n : Nat) (d : L0.sh.T) (K : Cont α), evL (L0.B N) (Env.norm 0 [0, 1, 5]) (Env.norm 0 [4]) n (L0.sh.enc d) K = L0.f N d.1.1 d.1.2.1 n d.1.2.2.1 (L0.k0 d K) (L0.k1 d K)
 | 0, d, K => rfl
 | n + 1, d, K => evL_contL.trans ((L0.r N _ K d).trans (congrArg (fun φ => L0.st N d.1.1 d.1.2.1 φ d.1.2.2.1 (L0.k0 d K) (L0.k1 d K)) (funext fun e0 => L0.e N n (L0.up d e0) K)))
theorem ents47_ok {α : Type} (N : Nat) : AllP (EntOk (C N) Tryd.f47 an47 (ents47 (α := α) N)) (ents47 N) := ⟨entOk_of (b0 := loopOf 4 Tryd.f47) (li0 := [0, 1, 5]) (lx0 := [4]) (by kernel_rfl) (by kernel_rfl) ⟨fun d K => L0.e N N d K, trivial⟩, trivial⟩
def g {α : Type} (N : Nat) (a0 : List (Int × Int)) (a1 : List (Int × Int)) (kr : (Bool → Option α)) : Option α :=
 cond ((↑a0.length : Int) != (↑a1.length : Int)) (kr (false)) (L0.f N (a0) (a1) N (0) (fun x3 => kr (x3)) (kr (true)))
theorem eq (N : Nat) (a0 : List (Int × Int)) (a1 : List (Int × Int)) : evF (C N) 50 Tryd.f47 an47 (smL (ents47 N) 0 50) [((.bool : K), false)] [⟨.sl (.st (.pr (.int .i64) (.int .i64))), a0⟩, ⟨.sl (.st (.pr (.int .i64) (.int .i64))), a1⟩] = g N a0 a1 (fun r0 => some [.dat (K.bool) r0]) := by kernel_rfl
theorem ctxOk (N : Nat) : CtxOk P (C N) := ctxOk_of tysOk mixedOk trivial trivial
theorem calls (N : Nat) (a0 : List (Int × Int)) (a1 : List (Int × Int)) {rs : List Rs} (h : g N a0 a1 (fun r0 => some [.dat (K.bool) r0]) = some rs) : CallsTo P 47 [⟨.sl (.st (.pr (.int .i64) (.int .i64))), a0⟩, ⟨.sl (.st (.pr (.int .i64) (.int .i64))), a1⟩] rs := evF_calls' (ctxOk N) (by rfl) (ents47_ok N) ((eq N a0 a1).trans h)
def L0.l {α : Type} (N : Nat) (x0 : (List (Int × Int))) (x1 : (List (Int × Int))) (k0 : (Bool → Option α)) (k1 : Option α) : List (Int × Int) → Int → Option α
 | [], x2 => k1 
 | x :: l, x2 => (cond (decide (0 ≤ x2) && decide (x2 < (↑x1.length : Int))) (cond (!(x.fst == (x1.getD x2.toNat ((0 : Int), (0 : Int))).fst && (x.snd == (x1.getD x2.toNat ((0 : Int), (0 : Int))).snd && true))) (k0 (false)) (L0.l N x0 x1 k0 k1 l (x2 + 1))) (none))
theorem L0.rng {α : Type} {N : Nat} (x0 : (List (Int × Int))) (x1 : (List (Int × Int))) (hl : x0.length ≤ maxLen) (k0 : (Bool → Option α)) (k1 : Option α) : ∀ (n j : Nat), x0.length < n + j → j ≤ x0.length → L0.f N x0 x1 n (j : Int) k0 k1 = L0.l N x0 x1 k0 k1 (x0.drop j) (j : Int) :=
 rng0 x0 hl (fun n i => L0.f N x0 x1 n i k0 k1) (fun l i => L0.l N x0 x1 k0 k1 l i) (fun n j hj h ih => by simp only [L0.f, L0.st, L0.l, h.a, h.b, h.c, h.d, h.e, Bool.true_and, Bool.and_true, Bool.and_self, cond_true, ih] <;> rfl) (fun n j h => by simp only [L0.f, L0.st, L0.l, h, cond_false])
end pf09_SameArcs
theorem pf09_SameArcs.L0.law {α : Type} {N : Nat} (x0 : (List (Int × Int))) (x1 : (List (Int × Int))) (k0 : (Bool → Option α)) (k1 : Option α) : ∀ (l : List (Int × Int)) (j : Nat), l.length = (x1.drop j).length → pf09_SameArcs.L0.l N x0 x1 k0 k1 l (j : Int) = cond (decide (l = x1.drop j)) k1 (k0 false)
 | [], j, h => by
  have : x1.drop j = [] := List.eq_nil_of_length_eq_zero (by simpa using h.symm)
  rw [this]
  rfl
 | x :: l, j, h => by
  have hj : j < x1.length := by simp at h; omega
  rw [pf09_SameArcs.L0.l, d_0, d_lt hj, getD_at hj]
  rw [← succ_cast, pf09_SameArcs.L0.law _ _ _ _ l (j + 1) (by simp at h ⊢; omega), List.drop_eq_getElem_cons hj]
  have e : decide (x :: l = x1[j] :: x1.drop (j + 1)) = ((x.1 == x1[j].1 && (x.2 == x1[j].2 && true)) && decide (l = x1.drop (j + 1))) := by
   rw [Bool.eq_iff_iff]
   simp only [decide_eq_true_eq, Bool.and_eq_true, beq_iff_eq, and_true, List.cons.injEq, Prod.ext_iff]
  rw [e]
  cases (x.1 == x1[j].1 && (x.2 == x1[j].2 && true)) <;> rfl
theorem pf09_SameArcs.law {α : Type} {N : Nat} (hN : 18446744073709551616 ≤ N) (a0 : List (Int × Int)) (a1 : List (Int × Int)) (w0 : K.wf (.sl (.st (.pr (.int .i64) (.int .i64)))) a0) (w1 : K.wf (.sl (.st (.pr (.int .i64) (.int .i64)))) a1) (kr : (Bool → Option α)) : pf09_SameArcs.g N a0 a1 kr = kr (pf09_SameArcs.spec a0 a1) := by
 unfold pf09_SameArcs.g pf09_SameArcs.spec
 rw [bne_len]
 by_cases h : a0.length = a1.length
 ·
  rw [beq_t h]
  simp only [Bool.not_true, cond_false]
  refine (pf09_SameArcs.L0.rng (N := N) _ _ (w0.1) _ _ N 0  (by have := le_fuel (w0.1) hN; omega) (Nat.zero_le _)).trans ?_
  rw [List.drop_zero, pf09_SameArcs.L0.law _ _ _ _ _ 0 (by simpa using h), List.drop_zero]
  cases decide (a0 = a1) <;> rfl
 ·
  rw [beq_f h, decide_eq_false (fun hc => h (by rw [hc]))]
  rfl
theorem pf09_SameArcs.ok : FentOk P 47 pf09_SameArcs.fent := fentOk_of (by kernel_rfl) fun ds hk => by
 obtain ⟨a0, l0, rfl, h0⟩ := ds_cons hk
 obtain ⟨a1, l1, rfl, h1⟩ := ds_cons h0
 obtain rfl := ds0 h1
 exact ⟨true, [.dat (.bool) (pf09_SameArcs.spec a0 a1)], fun h hw => pf09_SameArcs.calls 18446744073709551616 a0 a1 (pf09_SameArcs.law (Nat.le_refl _) a0 a1 hw.1 hw.2.1 _), fun α k => rfl⟩
end Go.VI
namespace Go.VI
open Go Go.Proofs
namespace pf09_Equal
def an17 : Ann := [(4, [2, 3, 5], [2, 3, 4]), (9, [2, 3, 6], [4])]
def L0.sh : Sh := { sl := [(2, SV.a (SA.fx (Atom.box 0 0))), (3, SV.a (SA.fx (Atom.box 1 0))), (5, SV.a (SA.d (K.int IntKind.i64)))], os := [(0, SO.box [SA.d K.str, SA.d (K.str.pr ((K.int IntKind.i64).pr (K.int IntKind.i64))).st.sl, SA.d (K.str.pr (((K.int IntKind.i64).pr (K.int IntKind.i64)).st.sl.pr (((K.int IntKind.i64).pr (K.int IntKind.i64)).st.sl.pr (((K.int IntKind.i64).pr (K.int IntKind.i64)).st.sl.pr (K.int IntKind.i64))))).st.sl]), (1, SO.box [SA.d K.str, SA.d (K.str.pr ((K.int IntKind.i64).pr (K.int IntKind.i64))).st.sl, SA.d (K.str.pr (((K.int IntKind.i64).pr (K.int IntKind.i64)).st.sl.pr (((K.int IntKind.i64).pr (K.int IntKind.i64)).st.sl.pr (((K.int IntKind.i64).pr (K.int IntKind.i64)).st.sl.pr (K.int IntKind.i64))))).st.sl])], nx := 2 }
def L0.x0 : Sh := { sl := [(2, SV.a (SA.fx (Atom.box 0 0))), (3, SV.a (SA.fx (Atom.box 1 0))), (4, SV.a (SA.d K.bool))], os := [(0, SO.box [SA.d K.str, SA.d (K.str.pr ((K.int IntKind.i64).pr (K.int IntKind.i64))).st.sl, SA.d (K.str.pr (((K.int IntKind.i64).pr (K.int IntKind.i64)).st.sl.pr (((K.int IntKind.i64).pr (K.int IntKind.i64)).st.sl.pr (((K.int IntKind.i64).pr (K.int IntKind.i64)).st.sl.pr (K.int IntKind.i64))))).st.sl]), (1, SO.box [SA.d K.str, SA.d (K.str.pr ((K.int IntKind.i64).pr (K.int IntKind.i64))).st.sl, SA.d (K.str.pr (((K.int IntKind.i64).pr (K.int IntKind.i64)).st.sl.pr (((K.int IntKind.i64).pr (K.int IntKind.i64)).st.sl.pr (((K.int IntKind.i64).pr (K.int IntKind.i64)).st.sl.pr (K.int IntKind.i64))))).st.sl])], nx := 2 }
def L0.x1 : Sh := { sl := [(2, SV.a (SA.fx (Atom.box 0 0))), (3, SV.a (SA.fx (Atom.box 1 0))), (4, SV.j)], os := [(0, SO.box [SA.d K.str, SA.d (K.str.pr ((K.int IntKind.i64).pr (K.int IntKind.i64))).st.sl, SA.d (K.str.pr (((K.int IntKind.i64).pr (K.int IntKind.i64)).st.sl.pr (((K.int IntKind.i64).pr (K.int IntKind.i64)).st.sl.pr (((K.int IntKind.i64).pr (K.int IntKind.i64)).st.sl.pr (K.int IntKind.i64))))).st.sl]), (1, SO.box [SA.d K.str, SA.d (K.str.pr ((K.int IntKind.i64).pr (K.int IntKind.i64))).st.sl, SA.d (K.str.pr (((K.int IntKind.i64).pr (K.int IntKind.i64)).st.sl.pr (((K.int IntKind.i64).pr (K.int IntKind.i64)).st.sl.pr (((K.int IntKind.i64).pr (K.int IntKind.i64)).st.sl.pr (K.int IntKind.i64))))).st.sl])], nx := 2 }
def L0.st {α : Type} (N : Nat) (x2 : (List (BA × Int × Int))) (x5 : (List (BA × Int × Int))) (φ : (Int → Option α)) (x0 : Int) (k0 : (Bool → Option α)) (k1 : Option α) : Option α :=
 cond (decide (x0 < (↑x2.length : Int))) (cond (decide (0 ≤ x0) && decide (x0 < (↑x2.length : Int))) (cond (decide (0 ≤ x0) && decide (x0 < (↑x5.length : Int))) (cond (!(sEq (x2.getD x0.toNat (eBA, 0, 0)).fst (x5.getD x0.toNat (eBA, 0, 0)).fst && ((x2.getD x0.toNat (eBA, 0, 0)).snd.fst == (x5.getD x0.toNat (eBA, 0, 0)).snd.fst && ((x2.getD x0.toNat (eBA, 0, 0)).snd.snd == (x5.getD x0.toNat (eBA, 0, 0)).snd.snd && true)))) (k0 (false)) (φ (IntKind.i64.wrap (x0 + 1)))) (none)) (none)) (k1 )
def L0.f {α : Type} (N : Nat) (c1 : (List (BA × Int × Int))) (c4 : (List (BA × Int × Int))) : Nat → Int → (Bool → Option α) → Option α → Option α
 | 0, _, _, _ => none
 | n + 1, d0, k0, k1 => L0.st N c1 c4 (fun e0 => L0.f N c1 c4 n e0 k0 k1) d0 k0 k1
def L0.up (d : L0.sh.T) (e0 : Int) : L0.sh.T := (((), ((), (e0, ()))), ((d.2.1.1, (d.2.1.2.1, (d.2.1.2.2.1, ()))), ((d.2.2.1.1, (d.2.2.1.2.1, (d.2.2.1.2.2.1, ()))), ())))
def L0.k0 {α : Type} (d : L0.sh.T) (K : Cont α) : (Bool → Option α) := fun y0 => K (Exit.ret) (L0.x0.enc (((), ((), (y0, ()))), ((d.2.1.1, (d.2.1.2.1, (d.2.1.2.2.1, ()))), ((d.2.2.1.1, (d.2.2.1.2.1, (d.2.2.1.2.2.1, ()))), ()))))
def L0.k1 {α : Type} (d : L0.sh.T) (K : Cont α) : Option α := K (Exit.exit 0) (L0.x1.enc (((), ((), ((), ()))), ((d.2.1.1, (d.2.1.2.1, (d.2.1.2.2.1, ()))), ((d.2.2.1.1, (d.2.2.1.2.1, (d.2.2.1.2.2.1, ()))), ()))))
def L0.F {α : Type} (N : Nat) (d : L0.sh.T) (K : Cont α) : Option α := L0.f N d.2.1.2.1 d.2.2.1.2.1 N d.1.2.2.1 (L0.k0 d K) (L0.k1 d K)
def L1.sh : Sh := { sl := [(2, SV.a (SA.fx (Atom.box 0 0))), (3, SV.a (SA.fx (Atom.box 1 0))), (6, SV.a (SA.d (K.int IntKind.i64)))], os := [(0, SO.box [SA.d K.str, SA.d (K.str.pr ((K.int IntKind.i64).pr (K.int IntKind.i64))).st.sl, SA.d (K.str.pr (((K.int IntKind.i64).pr (K.int IntKind.i64)).st.sl.pr (((K.int IntKind.i64).pr (K.int IntKind.i64)).st.sl.pr (((K.int IntKind.i64).pr (K.int IntKind.i64)).st.sl.pr (K.int IntKind.i64))))).st.sl]), (1, SO.box [SA.d K.str, SA.d (K.str.pr ((K.int IntKind.i64).pr (K.int IntKind.i64))).st.sl, SA.d (K.str.pr (((K.int IntKind.i64).pr (K.int IntKind.i64)).st.sl.pr (((K.int IntKind.i64).pr (K.int IntKind.i64)).st.sl.pr (((K.int IntKind.i64).pr (K.int IntKind.i64)).st.sl.pr (K.int IntKind.i64))))).st.sl])], nx := 2 }
def L1.x0 : Sh := { sl := [(4, SV.a (SA.d K.bool))], os := [], nx := 0 }
def L1.x1 : Sh := { sl := [(4, SV.j)], os := [], nx := 0 }
def L1.st {α : Type} (N : Nat) (x11 : (List (BA × List (Int × Int) × List (Int × Int) × List (Int × Int) × Int))) (x14 : (List (BA × List (Int × Int) × List (Int × Int) × List (Int × Int) × Int))) (φ : (Int → Option α)) (x8 : Int) (k0 : (Bool → Option α)) (k1 : Option α) : Option α :=
 cond (decide (x8 < (↑x11.length : Int))) (cond (decide (0 ≤ x8) && decide (x8 < (↑x11.length : Int))) (cond (decide (0 ≤ x8) && decide (x8 < (↑x14.length : Int))) (cond (decide (0 ≤ x8) && decide (x8 < (↑x11.length : Int))) (cond (decide (0 ≤ x8) && decide (x8 < (↑x14.length : Int))) (cond (!sEq (x11.getD x8.toNat (eBA, [], [], [], 0)).fst (x14.getD x8.toNat (eBA, [], [], [], 0)).fst) (k0 (false)) (cond ((x11.getD x8.toNat (eBA, [], [], [], 0)).snd.snd.snd.snd != (x14.getD x8.toNat (eBA, [], [], [], 0)).snd.snd.snd.snd) (k0 (false)) (cond (!(pf09_SameArcs.spec (x11.getD x8.toNat (eBA, [], [], [], 0)).snd.fst (x14.getD x8.toNat (eBA, [], [], [], 0)).snd.fst)) (k0 (false)) (cond (!(pf09_SameArcs.spec (x11.getD x8.toNat (eBA, [], [], [], 0)).snd.snd.fst (x14.getD x8.toNat (eBA, [], [], [], 0)).snd.snd.fst)) (k0 (false)) (cond (!(pf09_SameArcs.spec (x11.getD x8.toNat (eBA, [], [], [], 0)).snd.snd.snd.fst (x14.getD x8.toNat (eBA, [], [], [], 0)).snd.snd.snd.fst)) (k0 (false)) (φ (IntKind.i64.wrap (x8 + 1)))))))) (none)) (none)) (none)) (none)) (k1 )
def L1.f {α : Type} (N : Nat) (c2 : (List (BA × List (Int × Int) × List (Int × Int) × List (Int × Int) × Int))) (c5 : (List (BA × List (Int × Int) × List (Int × Int) × List (Int × Int) × Int))) : Nat → Int → (Bool → Option α) → Option α → Option α
 | 0, _, _, _ => none
 | n + 1, d0, k0, k1 => L1.st N c2 c5 (fun e0 => L1.f N c2 c5 n e0 k0 k1) d0 k0 k1
def L1.up (d : L1.sh.T) (e0 : Int) : L1.sh.T := (((), ((), (e0, ()))), ((d.2.1.1, (d.2.1.2.1, (d.2.1.2.2.1, ()))), ((d.2.2.1.1, (d.2.2.1.2.1, (d.2.2.1.2.2.1, ()))), ())))
def L1.k0 {α : Type} (d : L1.sh.T) (K : Cont α) : (Bool → Option α) := fun y0 => K (Exit.ret) (L1.x0.enc ((y0, ()), ()))
def L1.k1 {α : Type} (d : L1.sh.T) (K : Cont α) : Option α := K (Exit.exit 2) (L1.x1.enc (((), ()), ()))
def L1.F {α : Type} (N : Nat) (d : L1.sh.T) (K : Cont α) : Option α := L1.f N d.2.1.2.2.1 d.2.2.1.2.2.1 N d.1.2.2.1 (L1.k0 d K) (L1.k1 d K)
def ents17 {α : Type} (N : Nat) : List (SmE α) := [⟨0, 50, 4, [⟨L0.sh, L0.F N⟩]⟩, ⟨0, 50, 9, [⟨L1.sh, L1.F N⟩]⟩]
def C (N : Nat) : Ctx := ⟨tys, [(47, pf09_SameArcs.fent)], [], N⟩
def L0.B {α : Type} (N : Nat) : Env → Cont α → Option α := evC tys 103 0 (evCall (C N) 50) (evCallQ (C N)) N an17 (smL (ents17 N) 0 50) (loopOf 4 Tryd.f17)
theorem L0.r {α : Type} (N : Nat) (φ : Env → Option α) (K : Cont α) (d : L0.sh.T) : L0.B N (L0.sh.enc d) (contL φ K (Env.norm 0 [2, 3, 5]) (Env.norm 0 [2, 3, 4])) = L0.st N d.2.1.2.1 d.2.2.1.2.1 (fun e0 => φ (L0.sh.enc (L0.up d e0))) d.1.2.2.1 (L0.k0 d K) (L0.k1 d K) := by kernel_rfl
theorem L0.e {α : Type} (N : Nat) : ∀ (n : Nat) (d : L0.sh.T) (K : Cont α), evL (L0.B N) (Env.norm 0 [2, 3, 5]) (Env.norm 0 [2, 3, 4]) n (L0.sh.enc d) K = L0.f N d.2.1.2.1 d.2.2.1.2.1 n d.1.2.2.1 (L0.k0 d K) (L0.k1 d K)
 | 0, d, K => rfl
 | n + 1, d, K => evL_contL.trans ((L0.r N _ K d).trans (congrArg (fun φ => L0.st N d.2.1.2.1 d.2.2.1.2.1 φ d.1.2.2.1 (L0.k0 d K) (L0.k1 d K)) (funext fun e0 => L0.e N n (L0.up d e0) K)))
def L1.B {α : Type} (N : Nat) : Env → Cont α → Option α := evC tys 103 0 (evCall (C N) 50) (evCallQ (C N)) N an17 (smL (ents17 N) 0 50) (loopOf 9 Tryd.f17)
theorem L1.r {α : Type} (N : Nat) (φ : Env → Option α) (K : Cont α) (d : L1.sh.T) : L1.B N (L1.sh.enc d) (contL φ K (Env.norm 0 [2, 3, 6]) (Env.norm 0 [4])) = L1.st N d.2.1.2.2.1 d.2.2.1.2.2.1 (fun e0 => φ (L1.sh.enc (L1.up d e0))) d.1.2.2.1 (L1.k0 d K) (L1.k1 d K) := by kernel_rfl
theorem L1.e {α : Type} (N : Nat) : ∀ (n : Nat) (d : L1.sh.T) (K : Cont α), evL (L1.B N) (Env.norm 0 [2, 3, 6]) (Env.norm 0 [4]) n (L1.sh.enc d) K = L1.f N d.2.1.2.2.1 d.2.2.1.2.2.1 n d.1.2.2.1 (L1.k0 d K) (L1.k1 d K)
 | 0, d, K => rfl
 | n + 1, d, K => evL_contL.trans ((L1.r N _ K d).trans (congrArg (fun φ => L1.st N d.2.1.2.2.1 d.2.2.1.2.2.1 φ d.1.2.2.1 (L1.k0 d K) (L1.k1 d K)) (funext fun e0 => L1.e N n (L1.up d e0) K)))
theorem ents17_ok {α : Type} (N : Nat) : AllP (EntOk (C N) Tryd.f17 an17 (ents17 (α := α) N)) (ents17 N) := ⟨entOk_of (b0 := loopOf 4 Tryd.f17) (li0 := [2, 3, 5]) (lx0 := [2, 3, 4]) (by kernel_rfl) (by kernel_rfl) ⟨fun d K => L0.e N N d K, trivial⟩, entOk_of (b0 := loopOf 9 Tryd.f17) (li0 := [2, 3, 6]) (lx0 := [4]) (by kernel_rfl) (by kernel_rfl) ⟨fun d K => L1.e N N d K, trivial⟩, trivial⟩
def g {α : Type} (N : Nat) (a0 : BA × List (BA × Int × Int) × List (BA × List (Int × Int) × List (Int × Int) × List (Int × Int) × Int)) (a1 : BA × List (BA × Int × Int) × List (BA × List (Int × Int) × List (Int × Int) × List (Int × Int) × Int)) (kr : (Bool → Option α)) : Option α :=
 cond (!sEq a0.fst a1.fst) (kr (false)) (cond ((↑(List.length a0.snd.fst) : Int) != (↑(List.length a1.snd.fst) : Int)) (kr (false)) (cond ((↑(List.length a0.snd.snd) : Int) != (↑(List.length a1.snd.snd) : Int)) (kr (false)) (L0.f N (a0.snd.fst) (a1.snd.fst) N (0) (fun x7 => kr (x7)) (L1.f N (a0.snd.snd) (a1.snd.snd) N (0) (fun x15 => kr (x15)) (kr (true))))))
theorem eq (N : Nat) (a0 : BA × List (BA × Int × Int) × List (BA × List (Int × Int) × List (Int × Int) × List (Int × Int) × Int)) (a1 : BA × List (BA × Int × Int) × List (BA × List (Int × Int) × List (Int × Int) × List (Int × Int) × Int)) : evF (C N) 50 Tryd.f17 an17 (smL (ents17 N) 0 50) [((.bool : K), false)] [⟨.st (.pr (.str) (.pr (.sl (.st (.pr (.str) (.pr (.int .i64) (.int .i64))))) (.sl (.st (.pr (.str) (.pr (.sl (.st (.pr (.int .i64) (.int .i64)))) (.pr (.sl (.st (.pr (.int .i64) (.int .i64)))) (.pr (.sl (.st (.pr (.int .i64) (.int .i64)))) (.int .i64))))))))), a0⟩, ⟨.st (.pr (.str) (.pr (.sl (.st (.pr (.str) (.pr (.int .i64) (.int .i64))))) (.sl (.st (.pr (.str) (.pr (.sl (.st (.pr (.int .i64) (.int .i64)))) (.pr (.sl (.st (.pr (.int .i64) (.int .i64)))) (.pr (.sl (.st (.pr (.int .i64) (.int .i64)))) (.int .i64))))))))), a1⟩] = g N a0 a1 (fun r0 => some [.dat (K.bool) r0]) := by kernel_rfl
theorem ctxOk (N : Nat) : CtxOk P (C N) := ctxOk_of tysOk mixedOk ⟨pf09_SameArcs.ok, trivial⟩ trivial
theorem calls (N : Nat) (a0 : BA × List (BA × Int × Int) × List (BA × List (Int × Int) × List (Int × Int) × List (Int × Int) × Int)) (a1 : BA × List (BA × Int × Int) × List (BA × List (Int × Int) × List (Int × Int) × List (Int × Int) × Int)) {rs : List Rs} (h : g N a0 a1 (fun r0 => some [.dat (K.bool) r0]) = some rs) : CallsTo P 17 [⟨.st (.pr (.str) (.pr (.sl (.st (.pr (.str) (.pr (.int .i64) (.int .i64))))) (.sl (.st (.pr (.str) (.pr (.sl (.st (.pr (.int .i64) (.int .i64)))) (.pr (.sl (.st (.pr (.int .i64) (.int .i64)))) (.pr (.sl (.st (.pr (.int .i64) (.int .i64)))) (.int .i64))))))))), a0⟩, ⟨.st (.pr (.str) (.pr (.sl (.st (.pr (.str) (.pr (.int .i64) (.int .i64))))) (.sl (.st (.pr (.str) (.pr (.sl (.st (.pr (.int .i64) (.int .i64)))) (.pr (.sl (.st (.pr (.int .i64) (.int .i64)))) (.pr (.sl (.st (.pr (.int .i64) (.int .i64)))) (.int .i64))))))))), a1⟩] rs := evF_calls' (ctxOk N) (by rfl) (ents17_ok N) ((eq N a0 a1).trans h)
def L0.l {α : Type} (N : Nat) (x2 : (List (BA × Int × Int))) (x5 : (List (BA × Int × Int))) (k0 : (Bool → Option α)) (k1 : Option α) : List (BA × Int × Int) → Int → Option α
 | [], x0 => k1 
 | x :: l, x0 => (cond (decide (0 ≤ x0) && decide (x0 < (↑x5.length : Int))) (cond (!(sEq x.fst (x5.getD x0.toNat (eBA, 0, 0)).fst && (x.snd.fst == (x5.getD x0.toNat (eBA, 0, 0)).snd.fst && (x.snd.snd == (x5.getD x0.toNat (eBA, 0, 0)).snd.snd && true)))) (k0 (false)) (L0.l N x2 x5 k0 k1 l (x0 + 1))) (none))
theorem L0.rng {α : Type} {N : Nat} (x2 : (List (BA × Int × Int))) (x5 : (List (BA × Int × Int))) (hl : x2.length ≤ maxLen) (k0 : (Bool → Option α)) (k1 : Option α) : ∀ (n j : Nat), x2.length < n + j → j ≤ x2.length → L0.f N x2 x5 n (j : Int) k0 k1 = L0.l N x2 x5 k0 k1 (x2.drop j) (j : Int) :=
 rng0 x2 hl (fun n i => L0.f N x2 x5 n i k0 k1) (fun l i => L0.l N x2 x5 k0 k1 l i) (fun n j hj h ih => by simp only [L0.f, L0.st, L0.l, h.a, h.b, h.c, h.d, h.e, Bool.true_and, Bool.and_true, Bool.and_self, cond_true, ih] <;> rfl) (fun n j h => by simp only [L0.f, L0.st, L0.l, h, cond_false])
def L1.l {α : Type} (N : Nat) (x11 : (List (BA × List (Int × Int) × List (Int × Int) × List (Int × Int) × Int))) (x14 : (List (BA × List (Int × Int) × List (Int × Int) × List (Int × Int) × Int))) (k0 : (Bool → Option α)) (k1 : Option α) : List (BA × List (Int × Int) × List (Int × Int) × List (Int × Int) × Int) → Int → Option α
 | [], x8 => k1 
 | x :: l, x8 => (cond (decide (0 ≤ x8) && decide (x8 < (↑x14.length : Int))) ((cond (decide (0 ≤ x8) && decide (x8 < (↑x14.length : Int))) (cond (!sEq x.fst (x14.getD x8.toNat (eBA, [], [], [], 0)).fst) (k0 (false)) (cond (x.snd.snd.snd.snd != (x14.getD x8.toNat (eBA, [], [], [], 0)).snd.snd.snd.snd) (k0 (false)) (cond (!(pf09_SameArcs.spec x.snd.fst (x14.getD x8.toNat (eBA, [], [], [], 0)).snd.fst)) (k0 (false)) (cond (!(pf09_SameArcs.spec x.snd.snd.fst (x14.getD x8.toNat (eBA, [], [], [], 0)).snd.snd.fst)) (k0 (false)) (cond (!(pf09_SameArcs.spec x.snd.snd.snd.fst (x14.getD x8.toNat (eBA, [], [], [], 0)).snd.snd.snd.fst)) (k0 (false)) (L1.l N x11 x14 k0 k1 l (x8 + 1))))))) (none))) (none))
theorem L1.rng {α : Type} {N : Nat} (x11 : (List (BA × List (Int × Int) × List (Int × Int) × List (Int × Int) × Int))) (x14 : (List (BA × List (Int × Int) × List (Int × Int) × List (Int × Int) × Int))) (hl : x11.length ≤ maxLen) (k0 : (Bool → Option α)) (k1 : Option α) : ∀ (n j : Nat), x11.length < n + j → j ≤ x11.length → L1.f N x11 x14 n (j : Int) k0 k1 = L1.l N x11 x14 k0 k1 (x11.drop j) (j : Int) :=
 rng0 x11 hl (fun n i => L1.f N x11 x14 n i k0 k1) (fun l i => L1.l N x11 x14 k0 k1 l i) (fun n j hj h ih => by simp only [L1.f, L1.st, L1.l, h.a, h.b, h.c, h.d, h.e, Bool.true_and, Bool.and_true, Bool.and_self, cond_true, ih] <;> rfl) (fun n j h => by simp only [L1.f, L1.st, L1.l, h, cond_false])
end pf09_Equal
theorem pf09_Equal.L0.law {α : Type} {N : Nat} (x2 : (List (BA × Int × Int))) (x5 : (List (BA × Int × Int))) (k0 : (Bool → Option α)) (k1 : Option α) : ∀ (l : List PlaceT) (j : Nat), l.length = (x5.drop j).length → pf09_Equal.L0.l N x2 x5 k0 k1 l (j : Int) = cond (allQ placeQ l (x5.drop j)) k1 (k0 false)
 | [], j, h => by
  have : x5.drop j = [] := List.eq_nil_of_length_eq_zero (by simpa using h.symm)
  rw [this]
  rfl
 | x :: l, j, h => by
  have hj : j < x5.length := by simp at h; omega
  rw [pf09_Equal.L0.l, d_0, d_lt hj, getD_at hj, ← succ_cast, pf09_Equal.L0.law _ _ _ _ l (j + 1) (by simp at h ⊢; omega), List.drop_eq_getElem_cons hj, allQ]
  have e : (sEq x.1 x5[j].1 && (x.2.1 == x5[j].2.1 && (x.2.2 == x5[j].2.2 && true))) = placeQ x x5[j] := by unfold placeQ; rw [Bool.and_true]
  rw [e]
  cases placeQ x x5[j] <;> rfl
theorem pf09_Equal.L1.law {α : Type} {N : Nat} (x11 : (List (BA × List (Int × Int) × List (Int × Int) × List (Int × Int) × Int))) (x14 : (List (BA × List (Int × Int) × List (Int × Int) × List (Int × Int) × Int))) (k0 : (Bool → Option α)) (k1 : Option α) : ∀ (l : List TransT) (j : Nat), l.length = (x14.drop j).length → pf09_Equal.L1.l N x11 x14 k0 k1 l (j : Int) = cond (allQ transQ l (x14.drop j)) k1 (k0 false)
 | [], j, h => by
  have : x14.drop j = [] := List.eq_nil_of_length_eq_zero (by simpa using h.symm)
  rw [this]
  rfl
 | x :: l, j, h => by
  have hj : j < x14.length := by simp at h; omega
  rw [pf09_Equal.L1.l, d_0, d_lt hj, getD_at hj, ← succ_cast, pf09_Equal.L1.law _ _ _ _ l (j + 1) (by simp at h ⊢; omega), List.drop_eq_getElem_cons hj, allQ]
  unfold transQ pf09_SameArcs.spec
  simp only [Bool.and_self, cond_true, bne]
  cases sEq x.1 x14[j].1
  ·
   rfl
  cases (x.2.2.2.2 == x14[j].2.2.2.2)
  ·
   rfl
  cases decide (x.2.1 = x14[j].2.1)
  ·
   rfl
  cases decide (x.2.2.1 = x14[j].2.2.1)
  ·
   rfl
  cases decide (x.2.2.2.1 = x14[j].2.2.2.1) <;> rfl
theorem allQ_len {β : Type} {f : β → β → Bool} : ∀ {l m : List β}, allQ f l m = true → l.length = m.length
 | [], [], _ => rfl
 | _ :: _, _ :: _, h => by
  simp only [allQ, Bool.and_eq_true] at h
  simp [allQ_len h.2]
 | [], _ :: _, h => by cases h
 | _ :: _, [], h => by cases h
theorem allQ_ne {β : Type} {f : β → β → Bool} {l m : List β} (h : l.length ≠ m.length) : allQ f l m = false := by
 cases hb : allQ f l m
 ·
  rfl
 ·
  exact absurd (allQ_len hb) h
theorem pf09_Equal.law {α : Type} {N : Nat} (hN : 18446744073709551616 ≤ N) (a0 : BA × (List (BA × Int × Int)) × List (BA × (List (Int × Int)) × (List (Int × Int)) × (List (Int × Int)) × Int)) (a1 : BA × (List (BA × Int × Int)) × List (BA × (List (Int × Int)) × (List (Int × Int)) × (List (Int × Int)) × Int)) (w0 : K.wf (.st (.pr (.str) (.pr (.sl (.st (.pr (.str) (.pr (.int .i64) (.int .i64))))) (.sl (.st (.pr (.str) (.pr (.sl (.st (.pr (.int .i64) (.int .i64)))) (.pr (.sl (.st (.pr (.int .i64) (.int .i64)))) (.pr (.sl (.st (.pr (.int .i64) (.int .i64)))) (.int .i64)))))))))) a0) (w1 : K.wf (.st (.pr (.str) (.pr (.sl (.st (.pr (.str) (.pr (.int .i64) (.int .i64))))) (.sl (.st (.pr (.str) (.pr (.sl (.st (.pr (.int .i64) (.int .i64)))) (.pr (.sl (.st (.pr (.int .i64) (.int .i64)))) (.pr (.sl (.st (.pr (.int .i64) (.int .i64)))) (.int .i64)))))))))) a1) (kr : (Bool → Option α)) : pf09_Equal.g N a0 a1 kr = kr (pf09_Equal.spec a0 a1) := by
 unfold pf09_Equal.g pf09_Equal.spec equalN
 rw [bne_len, bne_len]
 cases sEq a0.1 a1.1
 ·
  rfl
 simp only [Bool.not_true, cond_false, Bool.true_and]
 by_cases h1 : List.length a0.2.1 = List.length a1.2.1
 ·
  rw [beq_t h1]
  by_cases h2 : List.length a0.2.2 = List.length a1.2.2
  ·
   rw [beq_t h2]
   simp only [Bool.not_true, cond_false]
   refine (pf09_Equal.L0.rng (N := N) _ _ (w0.2.1.1) _ _ N 0  (by have := le_fuel (w0.2.1.1) hN; omega) (Nat.zero_le _)).trans ?_
   rw [List.drop_zero, pf09_Equal.L0.law _ _ _ _ _ 0 (by simpa using h1), List.drop_zero]
   cases allQ placeQ a0.2.1 a1.2.1
   ·
    rfl
   simp only [cond_true, Bool.true_and]
   refine (pf09_Equal.L1.rng (N := N) _ _ (w0.2.2.1) _ _ N 0  (by have := le_fuel (w0.2.2.1) hN; omega) (Nat.zero_le _)).trans ?_
   rw [List.drop_zero, pf09_Equal.L1.law _ _ _ _ _ 0 (by simpa using h2), List.drop_zero]
   cases allQ transQ a0.2.2 a1.2.2 <;> rfl
  ·
   rw [beq_f h2, allQ_ne h2]
   simp
 ·
  rw [beq_f h1, allQ_ne h1]
  rfl
theorem pf09_Equal.ok : FentOk P 17 pf09_Equal.fent := fentOk_of (by kernel_rfl) fun ds hk => by
 obtain ⟨a0, l0, rfl, h0⟩ := ds_cons hk
 obtain ⟨a1, l1, rfl, h1⟩ := ds_cons h0
 obtain rfl := ds0 h1
 exact ⟨true, [.dat (.bool) (pf09_Equal.spec a0 a1)], fun h hw => pf09_Equal.calls 18446744073709551616 a0 a1 (pf09_Equal.law (Nat.le_refl _) a0 a1 hw.1 hw.2.1 _), fun α k => rfl⟩
end Go.VI
