/- What the functions that TransformReturns calls compute: printed out of the interpreter's normal forms (wip/vi/vigen.py) and proved. -/
import Derived.Test.YtlfhhfjlflccgaaDoorVTransformReturns1
import Derived.Test.YtlfhhfjlflccgaaDoorProg
set_option linter.unusedVariables false
set_option linter.unusedSimpArgs false
set_option maxRecDepth 100000
set_option maxHeartbeats 4000000
noncomputable section
namespace Go.VI
open Go Go.Proofs
namespace pf12_copied
def an52 : Ann := []
def ents52 {α : Type} (N : Nat) : List (SmE α) := []
def C (N : Nat) : Ctx := ⟨tys, [], [], N⟩
theorem ents52_ok {α : Type} (N : Nat) : AllP (EntOk (C N) Tryd.f52 an52 (ents52 (α := α) N)) (ents52 N) := trivial
def g {α : Type} (N : Nat) (a0 : List (Int × Int)) (kr : ((List (Int × Int)) → Option α)) : Option α :=
 cond (a0.length.ble mxl) (kr (a0)) (none)
theorem eq (N : Nat) (a0 : List (Int × Int)) : evF (C N) 50 Tryd.f52 an52 (smL (ents52 N) 0 50) [(((.st (.pr (.int .i64) (.int .i64))) : K), true)] [⟨.sl (.st (.pr (.int .i64) (.int .i64))), a0⟩] = g N a0 (fun r0 => some [.own (((K.int IntKind.i64).pr (K.int IntKind.i64)).st) r0]) := by kernel_rfl
theorem ctxOk (N : Nat) : CtxOk P (C N) := ctxOk_of tysOk mixedOk trivial trivial
theorem calls (N : Nat) (a0 : List (Int × Int)) {rs : List Rs} (h : g N a0 (fun r0 => some [.own (((K.int IntKind.i64).pr (K.int IntKind.i64)).st) r0]) = some rs) : CallsTo P 52 [⟨.sl (.st (.pr (.int .i64) (.int .i64))), a0⟩] rs := evF_calls' (ctxOk N) (by rfl) (ents52_ok N) ((eq N a0).trans h)
end pf12_copied
theorem pf12_copied.law {α : Type} {N : Nat} (hN : 18446744073709551616 ≤ N) (a0 : List (Int × Int)) (w0 : K.wf (.sl (.st (.pr (.int .i64) (.int .i64)))) a0) (hp : pf12_copied.pre a0 = true) (kr : ((List (Int × Int)) → Option α)) : pf12_copied.g N a0 kr = kr (pf12_copied.spec a0) := by
 have hp' : a0.length ≤ 1073741824 := of_decide_eq_true hp
 unfold pf12_copied.g pf12_copied.spec
 rw [show a0.length.ble mxl = true from Nat.ble_eq_true_of_le hp', cond_true]
theorem pf12_copied.ok : FentOk P 52 pf12_copied.fent := fentOk_of (by kernel_rfl) fun ds hk => by
 obtain ⟨a0, l0, rfl, h0⟩ := ds_cons hk
 obtain rfl := ds0 h0
 exact ⟨pf12_copied.pre a0, [.own (.st (.pr (.int .i64) (.int .i64))) (pf12_copied.spec a0)], fun h hw => pf12_copied.calls 18446744073709551616 a0 (pf12_copied.law (Nat.le_refl _) a0 hw.1 h _), fun α k => rfl⟩
end Go.VI
namespace Go.VI
open Go Go.Proofs
theorem placeQ_iff {p q : PlaceT} : placeQ p q = true ↔ p = q := by
 unfold placeQ
 simp only [Bool.and_eq_true, sEq_iff, beq_iff_eq]
 exact ⟨fun ⟨a, b, c⟩ => Prod.ext a (Prod.ext b c), fun h => by rw [h]; exact ⟨rfl, rfl, rfl⟩⟩
theorem transQ_iff {x y : TransT} : transQ x y = true ↔ x = y := by
 unfold transQ
 simp only [Bool.and_eq_true, sEq_iff, beq_iff_eq, decide_eq_true_eq]
 exact ⟨fun ⟨⟨⟨⟨a, b⟩, c⟩, d⟩, e⟩ => Prod.ext a (Prod.ext c (Prod.ext d (Prod.ext e b))), fun h => by rw [h]; exact ⟨⟨⟨⟨rfl, rfl⟩, rfl⟩, rfl⟩, rfl⟩⟩
theorem allQ_iff {α : Type} {f : α → α → Bool} (hf : ∀ x y, f x y = true ↔ x = y) : ∀ {l m : List α}, allQ f l m = true ↔ l = m
 | [], [] => by simp [allQ]
 | x :: l, y :: m => by
  rw [allQ, Bool.and_eq_true, hf, allQ_iff hf]
  simp
 | [], _ :: _ => by simp [allQ]
 | _ :: _, [] => by simp [allQ]
theorem equalN_iff {a b : NetT} : equalN a b = true ↔ a = b := by
 unfold equalN
 rw [Bool.and_eq_true, Bool.and_eq_true, sEq_iff, allQ_iff (fun _ _ => placeQ_iff), allQ_iff (fun _ _ => transQ_iff)]
 exact ⟨fun ⟨⟨h1, h2⟩, h3⟩ => Prod.ext h1 (Prod.ext h2 h3), fun h => by rw [h]; exact ⟨⟨rfl, rfl⟩, rfl⟩⟩
theorem equalN_refl (a : NetT) : equalN a a = true := equalN_iff.2 rfl
end Go.VI
namespace Go.VI
open Go Go.Proofs
namespace pl12_TransformReturns
def an7 : Ann := [(17, [6, 11, 12, 13, 14], [6, 11, 12, 13])]
def an29 : Ann := [(4, [1, 2, 3, 4], [2, 3])]
def L0.sh : Sh := { sl := [(1, SV.a (SA.fx (Atom.box 6 0))), (2, SV.a (SA.fx (Atom.box 7 0))), (3, SV.a (SA.fx (Atom.box 8 0))), (4, SV.a (SA.d (K.int IntKind.i64)))], os := [(6, SO.box [SA.d K.str, SA.d (K.str.pr ((K.int IntKind.i64).pr (K.int IntKind.i64))).st.sl, SA.d (K.str.pr (((K.int IntKind.i64).pr (K.int IntKind.i64)).st.sl.pr (((K.int IntKind.i64).pr (K.int IntKind.i64)).st.sl.pr (((K.int IntKind.i64).pr (K.int IntKind.i64)).st.sl.pr (K.int IntKind.i64))))).st.sl]), (7, SO.box [SA.d K.str, SA.fx (Atom.sl 9 0 none), SA.fx (Atom.sl 10 0 none)]), (8, SO.box [SA.d K.str, SA.fx (Atom.sl 11 0 none), SA.fx (Atom.sl 12 0 none)]), (9, SO.row (K.str.pr ((K.int IntKind.i64).pr (K.int IntKind.i64))).st 0), (10, SO.row (K.str.pr (((K.int IntKind.i64).pr (K.int IntKind.i64)).st.sl.pr (((K.int IntKind.i64).pr (K.int IntKind.i64)).st.sl.pr (((K.int IntKind.i64).pr (K.int IntKind.i64)).st.sl.pr (K.int IntKind.i64))))).st 0), (11, SO.row (K.str.pr ((K.int IntKind.i64).pr (K.int IntKind.i64))).st 0), (12, SO.row (K.str.pr (((K.int IntKind.i64).pr (K.int IntKind.i64)).st.sl.pr (((K.int IntKind.i64).pr (K.int IntKind.i64)).st.sl.pr (((K.int IntKind.i64).pr (K.int IntKind.i64)).st.sl.pr (K.int IntKind.i64))))).st 0), (5, SO.box [SA.d K.str, SA.d (K.str.pr ((K.int IntKind.i64).pr (K.int IntKind.i64))).st.sl, SA.d (K.str.pr (((K.int IntKind.i64).pr (K.int IntKind.i64)).st.sl.pr (((K.int IntKind.i64).pr (K.int IntKind.i64)).st.sl.pr (((K.int IntKind.i64).pr (K.int IntKind.i64)).st.sl.pr (K.int IntKind.i64))))).st.sl]), (4, SO.box [SA.d K.str, SA.d (K.str.pr ((K.int IntKind.i64).pr (K.int IntKind.i64))).st.sl, SA.d (K.str.pr (((K.int IntKind.i64).pr (K.int IntKind.i64)).st.sl.pr (((K.int IntKind.i64).pr (K.int IntKind.i64)).st.sl.pr (((K.int IntKind.i64).pr (K.int IntKind.i64)).st.sl.pr (K.int IntKind.i64))))).st.sl]), (3, SO.box [SA.d K.str, SA.d (K.str.pr ((K.int IntKind.i64).pr (K.int IntKind.i64))).st.sl, SA.d (K.str.pr (((K.int IntKind.i64).pr (K.int IntKind.i64)).st.sl.pr (((K.int IntKind.i64).pr (K.int IntKind.i64)).st.sl.pr (((K.int IntKind.i64).pr (K.int IntKind.i64)).st.sl.pr (K.int IntKind.i64))))).st.sl]), (2, SO.box [SA.d K.str, SA.d (K.str.pr ((K.int IntKind.i64).pr (K.int IntKind.i64))).st.sl, SA.d (K.str.pr (((K.int IntKind.i64).pr (K.int IntKind.i64)).st.sl.pr (((K.int IntKind.i64).pr (K.int IntKind.i64)).st.sl.pr (((K.int IntKind.i64).pr (K.int IntKind.i64)).st.sl.pr (K.int IntKind.i64))))).st.sl]), (1, SO.box [SA.d K.str, SA.d (K.str.pr ((K.int IntKind.i64).pr (K.int IntKind.i64))).st.sl, SA.d (K.str.pr (((K.int IntKind.i64).pr (K.int IntKind.i64)).st.sl.pr (((K.int IntKind.i64).pr (K.int IntKind.i64)).st.sl.pr (((K.int IntKind.i64).pr (K.int IntKind.i64)).st.sl.pr (K.int IntKind.i64))))).st.sl]), (0, SO.box [SA.d K.str, SA.d (K.str.pr ((K.int IntKind.i64).pr (K.int IntKind.i64))).st.sl, SA.d (K.str.pr (((K.int IntKind.i64).pr (K.int IntKind.i64)).st.sl.pr (((K.int IntKind.i64).pr (K.int IntKind.i64)).st.sl.pr (((K.int IntKind.i64).pr (K.int IntKind.i64)).st.sl.pr (K.int IntKind.i64))))).st.sl])], nx := 13 }
def L0.x0 : Sh := { sl := [(2, SV.a (SA.fx (Atom.box 6 0))), (3, SV.a (SA.fx (Atom.box 7 0)))], os := [(6, SO.box [SA.d K.str, SA.fx (Atom.sl 8 0 none), SA.fx (Atom.sl 9 0 none)]), (7, SO.box [SA.d K.str, SA.fx (Atom.sl 10 0 none), SA.fx (Atom.sl 11 0 none)]), (8, SO.row (K.str.pr ((K.int IntKind.i64).pr (K.int IntKind.i64))).st 0), (9, SO.row (K.str.pr (((K.int IntKind.i64).pr (K.int IntKind.i64)).st.sl.pr (((K.int IntKind.i64).pr (K.int IntKind.i64)).st.sl.pr (((K.int IntKind.i64).pr (K.int IntKind.i64)).st.sl.pr (K.int IntKind.i64))))).st 0), (10, SO.row (K.str.pr ((K.int IntKind.i64).pr (K.int IntKind.i64))).st 0), (11, SO.row (K.str.pr (((K.int IntKind.i64).pr (K.int IntKind.i64)).st.sl.pr (((K.int IntKind.i64).pr (K.int IntKind.i64)).st.sl.pr (((K.int IntKind.i64).pr (K.int IntKind.i64)).st.sl.pr (K.int IntKind.i64))))).st 0), (5, SO.box [SA.d K.str, SA.d (K.str.pr ((K.int IntKind.i64).pr (K.int IntKind.i64))).st.sl, SA.d (K.str.pr (((K.int IntKind.i64).pr (K.int IntKind.i64)).st.sl.pr (((K.int IntKind.i64).pr (K.int IntKind.i64)).st.sl.pr (((K.int IntKind.i64).pr (K.int IntKind.i64)).st.sl.pr (K.int IntKind.i64))))).st.sl]), (4, SO.box [SA.d K.str, SA.d (K.str.pr ((K.int IntKind.i64).pr (K.int IntKind.i64))).st.sl, SA.d (K.str.pr (((K.int IntKind.i64).pr (K.int IntKind.i64)).st.sl.pr (((K.int IntKind.i64).pr (K.int IntKind.i64)).st.sl.pr (((K.int IntKind.i64).pr (K.int IntKind.i64)).st.sl.pr (K.int IntKind.i64))))).st.sl]), (3, SO.box [SA.d K.str, SA.d (K.str.pr ((K.int IntKind.i64).pr (K.int IntKind.i64))).st.sl, SA.d (K.str.pr (((K.int IntKind.i64).pr (K.int IntKind.i64)).st.sl.pr (((K.int IntKind.i64).pr (K.int IntKind.i64)).st.sl.pr (((K.int IntKind.i64).pr (K.int IntKind.i64)).st.sl.pr (K.int IntKind.i64))))).st.sl]), (2, SO.box [SA.d K.str, SA.d (K.str.pr ((K.int IntKind.i64).pr (K.int IntKind.i64))).st.sl, SA.d (K.str.pr (((K.int IntKind.i64).pr (K.int IntKind.i64)).st.sl.pr (((K.int IntKind.i64).pr (K.int IntKind.i64)).st.sl.pr (((K.int IntKind.i64).pr (K.int IntKind.i64)).st.sl.pr (K.int IntKind.i64))))).st.sl]), (1, SO.box [SA.d K.str, SA.d (K.str.pr ((K.int IntKind.i64).pr (K.int IntKind.i64))).st.sl, SA.d (K.str.pr (((K.int IntKind.i64).pr (K.int IntKind.i64)).st.sl.pr (((K.int IntKind.i64).pr (K.int IntKind.i64)).st.sl.pr (((K.int IntKind.i64).pr (K.int IntKind.i64)).st.sl.pr (K.int IntKind.i64))))).st.sl]), (0, SO.box [SA.d K.str, SA.d (K.str.pr ((K.int IntKind.i64).pr (K.int IntKind.i64))).st.sl, SA.d (K.str.pr (((K.int IntKind.i64).pr (K.int IntKind.i64)).st.sl.pr (((K.int IntKind.i64).pr (K.int IntKind.i64)).st.sl.pr (((K.int IntKind.i64).pr (K.int IntKind.i64)).st.sl.pr (K.int IntKind.i64))))).st.sl])], nx := 12 }
def L0.st {α : Type} (N : Nat) (x3 : (List (BA × List (Int × Int) × List (Int × Int) × List (Int × Int) × Int))) (φ : (Int → (List (BA × List (Int × Int) × List (Int × Int) × List (Int × Int) × Int)) → Option α)) (x0 : Int) (x9 : (List (BA × List (Int × Int) × List (Int × Int) × List (Int × Int) × Int))) (k0 : ((List (BA × List (Int × Int) × List (Int × Int) × List (Int × Int) × Int)) → Option α)) : Option α :=
 cond (decide (x0 < (↑x3.length : Int))) (cond (decide (0 ≤ x0) && decide (x0 < (↑x3.length : Int))) (cond (pf12_copied.pre (x3.getD x0.toNat (eBA, [], [], [], 0)).snd.fst) (cond (pf12_copied.pre (x3.getD x0.toNat (eBA, [], [], [], 0)).snd.snd.fst) (cond (pf12_copied.pre (x3.getD x0.toNat (eBA, [], [], [], 0)).snd.snd.snd.fst) (cond ((x9.length + 1).ble mxl) (cond (pf12_copied.pre (x3.getD x0.toNat (eBA, [], [], [], 0)).snd.fst) (cond (pf12_copied.pre (x3.getD x0.toNat (eBA, [], [], [], 0)).snd.snd.fst) (cond (pf12_copied.pre (x3.getD x0.toNat (eBA, [], [], [], 0)).snd.snd.snd.fst) (cond ((x9.length + 1).ble mxl) (φ (IntKind.i64.wrap (x0 + 1)) (x9 ++ [((x3.getD x0.toNat (eBA, [], [], [], 0)).fst, (pf12_copied.spec (x3.getD x0.toNat (eBA, [], [], [], 0)).snd.fst), (pf12_copied.spec (x3.getD x0.toNat (eBA, [], [], [], 0)).snd.snd.fst), (pf12_copied.spec (x3.getD x0.toNat (eBA, [], [], [], 0)).snd.snd.snd.fst), (x3.getD x0.toNat (eBA, [], [], [], 0)).snd.snd.snd.snd)])) (none)) (none)) (none)) (none)) (none)) (none)) (none)) (none)) (none)) (k0 (x9))
def L0.f {α : Type} (N : Nat) (c2 : (List (BA × List (Int × Int) × List (Int × Int) × List (Int × Int) × Int))) : Nat → Int → (List (BA × List (Int × Int) × List (Int × Int) × List (Int × Int) × Int)) → ((List (BA × List (Int × Int) × List (Int × Int) × List (Int × Int) × Int)) → Option α) → Option α
 | 0, _, _, _ => none
 | n + 1, d0, d1, k0 => L0.st N c2 (fun e0 e1 => L0.f N c2 n e0 e1 k0) d0 d1 k0
def L0.up (d : L0.sh.T) (e0 : Int) (e1 : (List (BA × List (Int × Int) × List (Int × Int) × List (Int × Int) × Int))) : L0.sh.T := (((), ((), ((), (e0, ())))), ((d.2.1.1, (d.2.1.2.1, (d.2.1.2.2.1, ()))), ((d.2.2.1.1, ((), ((), ()))), ((d.2.2.2.1.1, ((), ((), ()))), (d.2.2.2.2.1, (d.2.2.2.2.2.1, (d.2.2.2.2.2.2.1, (e1, ((d.2.2.2.2.2.2.2.2.1.1, (d.2.2.2.2.2.2.2.2.1.2.1, (d.2.2.2.2.2.2.2.2.1.2.2.1, ()))), ((d.2.2.2.2.2.2.2.2.2.1.1, (d.2.2.2.2.2.2.2.2.2.1.2.1, (d.2.2.2.2.2.2.2.2.2.1.2.2.1, ()))), ((d.2.2.2.2.2.2.2.2.2.2.1.1, (d.2.2.2.2.2.2.2.2.2.2.1.2.1, (d.2.2.2.2.2.2.2.2.2.2.1.2.2.1, ()))), ((d.2.2.2.2.2.2.2.2.2.2.2.1.1, (d.2.2.2.2.2.2.2.2.2.2.2.1.2.1, (d.2.2.2.2.2.2.2.2.2.2.2.1.2.2.1, ()))), ((d.2.2.2.2.2.2.2.2.2.2.2.2.1.1, (d.2.2.2.2.2.2.2.2.2.2.2.2.1.2.1, (d.2.2.2.2.2.2.2.2.2.2.2.2.1.2.2.1, ()))), ((d.2.2.2.2.2.2.2.2.2.2.2.2.2.1.1, (d.2.2.2.2.2.2.2.2.2.2.2.2.2.1.2.1, (d.2.2.2.2.2.2.2.2.2.2.2.2.2.1.2.2.1, ()))), ()))))))))))))))
def L0.k0 {α : Type} (d : L0.sh.T) (K : Cont α) : ((List (BA × List (Int × Int) × List (Int × Int) × List (Int × Int) × Int)) → Option α) := fun y0 => K (Exit.exit 0) (L0.x0.enc (((), ((), ())), ((d.2.2.1.1, ((), ((), ()))), ((d.2.2.2.1.1, ((), ((), ()))), (d.2.2.2.2.1, (d.2.2.2.2.2.1, (d.2.2.2.2.2.2.1, (y0, ((d.2.2.2.2.2.2.2.2.1.1, (d.2.2.2.2.2.2.2.2.1.2.1, (d.2.2.2.2.2.2.2.2.1.2.2.1, ()))), ((d.2.2.2.2.2.2.2.2.2.1.1, (d.2.2.2.2.2.2.2.2.2.1.2.1, (d.2.2.2.2.2.2.2.2.2.1.2.2.1, ()))), ((d.2.2.2.2.2.2.2.2.2.2.1.1, (d.2.2.2.2.2.2.2.2.2.2.1.2.1, (d.2.2.2.2.2.2.2.2.2.2.1.2.2.1, ()))), ((d.2.2.2.2.2.2.2.2.2.2.2.1.1, (d.2.2.2.2.2.2.2.2.2.2.2.1.2.1, (d.2.2.2.2.2.2.2.2.2.2.2.1.2.2.1, ()))), ((d.2.2.2.2.2.2.2.2.2.2.2.2.1.1, (d.2.2.2.2.2.2.2.2.2.2.2.2.1.2.1, (d.2.2.2.2.2.2.2.2.2.2.2.2.1.2.2.1, ()))), ((d.2.2.2.2.2.2.2.2.2.2.2.2.2.1.1, (d.2.2.2.2.2.2.2.2.2.2.2.2.2.1.2.1, (d.2.2.2.2.2.2.2.2.2.2.2.2.2.1.2.2.1, ()))), ()))))))))))))))
def L0.F {α : Type} (N : Nat) (d : L0.sh.T) (K : Cont α) : Option α := L0.f N d.2.1.2.2.1 N d.1.2.2.2.1 d.2.2.2.2.2.2.2.1 (L0.k0 d K)
def L1.sh : Sh := { sl := [(6, SV.a (SA.d (K.int IntKind.i64))), (11, SV.a (SA.fx (Atom.box 0 0))), (12, SV.a (SA.d (K.int IntKind.i64))), (13, SV.a (SA.fx (Atom.box 1 0))), (14, SV.a (SA.d (K.int IntKind.i64)))], os := [(0, SO.box [SA.d K.str, SA.d (K.str.pr ((K.int IntKind.i64).pr (K.int IntKind.i64))).st.sl, SA.d (K.str.pr (((K.int IntKind.i64).pr (K.int IntKind.i64)).st.sl.pr (((K.int IntKind.i64).pr (K.int IntKind.i64)).st.sl.pr (((K.int IntKind.i64).pr (K.int IntKind.i64)).st.sl.pr (K.int IntKind.i64))))).st.sl]), (1, SO.box [SA.d K.str, SA.fx (Atom.sl 2 0 none), SA.fx (Atom.sl 3 0 none)]), (2, SO.row (K.str.pr ((K.int IntKind.i64).pr (K.int IntKind.i64))).st 0), (3, SO.row (K.str.pr (((K.int IntKind.i64).pr (K.int IntKind.i64)).st.sl.pr (((K.int IntKind.i64).pr (K.int IntKind.i64)).st.sl.pr (((K.int IntKind.i64).pr (K.int IntKind.i64)).st.sl.pr (K.int IntKind.i64))))).st 0)], nx := 4 }
def L1.x0 : Sh := { sl := [(6, SV.a (SA.d (K.int IntKind.i64))), (11, SV.a (SA.fx (Atom.box 0 0))), (12, SV.a (SA.d (K.int IntKind.i64))), (13, SV.a (SA.fx (Atom.box 1 0)))], os := [(0, SO.box [SA.d K.str, SA.d (K.str.pr ((K.int IntKind.i64).pr (K.int IntKind.i64))).st.sl, SA.d (K.str.pr (((K.int IntKind.i64).pr (K.int IntKind.i64)).st.sl.pr (((K.int IntKind.i64).pr (K.int IntKind.i64)).st.sl.pr (((K.int IntKind.i64).pr (K.int IntKind.i64)).st.sl.pr (K.int IntKind.i64))))).st.sl]), (1, SO.box [SA.d K.str, SA.fx (Atom.sl 2 0 none), SA.fx (Atom.sl 3 0 none)]), (2, SO.row (K.str.pr ((K.int IntKind.i64).pr (K.int IntKind.i64))).st 0), (3, SO.row (K.str.pr (((K.int IntKind.i64).pr (K.int IntKind.i64)).st.sl.pr (((K.int IntKind.i64).pr (K.int IntKind.i64)).st.sl.pr (((K.int IntKind.i64).pr (K.int IntKind.i64)).st.sl.pr (K.int IntKind.i64))))).st 0)], nx := 4 }
def L1.st {α : Type} (N : Nat) (φ : (Int → (List (BA × Int × Int)) → Option α)) (x31 : Int) (x36 : (List (BA × Int × Int))) (k0 : ((List (BA × Int × Int)) → Option α)) : Option α :=
 cond (decide (x31 < (↑x36.length : Int))) (cond (decide (0 ≤ x31) && decide (x31 < (↑x36.length : Int))) (φ (IntKind.i64.wrap (x31 + 1)) (x36.set (0 + x31.toNat) ((x36.getD (0 + x31.toNat) (eBA, 0, 0)).fst, 0, (x36.getD (0 + x31.toNat) (eBA, 0, 0)).snd.snd))) (none)) (k0 (x36))
def L1.f {α : Type} (N : Nat) : Nat → Int → (List (BA × Int × Int)) → ((List (BA × Int × Int)) → Option α) → Option α
 | 0, _, _, _ => none
 | n + 1, d0, d1, k0 => L1.st N (fun e0 e1 => L1.f N n e0 e1 k0) d0 d1 k0
def L1.up (d : L1.sh.T) (e0 : Int) (e1 : (List (BA × Int × Int))) : L1.sh.T := ((d.1.1, ((), (d.1.2.2.1, ((), (e0, ()))))), ((d.2.1.1, (d.2.1.2.1, (d.2.1.2.2.1, ()))), ((d.2.2.1.1, ((), ((), ()))), (e1, (d.2.2.2.2.1, ())))))
def L1.k0 {α : Type} (d : L1.sh.T) (K : Cont α) : ((List (BA × Int × Int)) → Option α) := fun y0 => K (Exit.exit 0) (L1.x0.enc ((d.1.1, ((), (d.1.2.2.1, ((), ())))), ((d.2.1.1, (d.2.1.2.1, (d.2.1.2.2.1, ()))), ((d.2.2.1.1, ((), ((), ()))), (y0, (d.2.2.2.2.1, ()))))))
def L1.F {α : Type} (N : Nat) (d : L1.sh.T) (K : Cont α) : Option α := L1.f N N d.1.2.2.2.2.1 d.2.2.2.1 (L1.k0 d K)
def L2.sh : Sh := { sl := [(1, SV.a (SA.fx (Atom.box 5 0))), (2, SV.a (SA.fx (Atom.box 6 0))), (3, SV.a (SA.fx (Atom.box 7 0))), (4, SV.a (SA.d (K.int IntKind.i64)))], os := [(5, SO.box [SA.d K.str, SA.d (K.str.pr ((K.int IntKind.i64).pr (K.int IntKind.i64))).st.sl, SA.d (K.str.pr (((K.int IntKind.i64).pr (K.int IntKind.i64)).st.sl.pr (((K.int IntKind.i64).pr (K.int IntKind.i64)).st.sl.pr (((K.int IntKind.i64).pr (K.int IntKind.i64)).st.sl.pr (K.int IntKind.i64))))).st.sl]), (6, SO.box [SA.d K.str, SA.fx (Atom.sl 8 0 none), SA.fx (Atom.sl 9 0 none)]), (7, SO.box [SA.d K.str, SA.fx (Atom.sl 10 0 none), SA.fx (Atom.sl 11 0 none)]), (8, SO.row (K.str.pr ((K.int IntKind.i64).pr (K.int IntKind.i64))).st 0), (9, SO.row (K.str.pr (((K.int IntKind.i64).pr (K.int IntKind.i64)).st.sl.pr (((K.int IntKind.i64).pr (K.int IntKind.i64)).st.sl.pr (((K.int IntKind.i64).pr (K.int IntKind.i64)).st.sl.pr (K.int IntKind.i64))))).st 0), (10, SO.row (K.str.pr ((K.int IntKind.i64).pr (K.int IntKind.i64))).st 0), (11, SO.row (K.str.pr (((K.int IntKind.i64).pr (K.int IntKind.i64)).st.sl.pr (((K.int IntKind.i64).pr (K.int IntKind.i64)).st.sl.pr (((K.int IntKind.i64).pr (K.int IntKind.i64)).st.sl.pr (K.int IntKind.i64))))).st 0), (4, SO.box [SA.d K.str, SA.d (K.str.pr ((K.int IntKind.i64).pr (K.int IntKind.i64))).st.sl, SA.d (K.str.pr (((K.int IntKind.i64).pr (K.int IntKind.i64)).st.sl.pr (((K.int IntKind.i64).pr (K.int IntKind.i64)).st.sl.pr (((K.int IntKind.i64).pr (K.int IntKind.i64)).st.sl.pr (K.int IntKind.i64))))).st.sl]), (3, SO.box [SA.d K.str, SA.d (K.str.pr ((K.int IntKind.i64).pr (K.int IntKind.i64))).st.sl, SA.d (K.str.pr (((K.int IntKind.i64).pr (K.int IntKind.i64)).st.sl.pr (((K.int IntKind.i64).pr (K.int IntKind.i64)).st.sl.pr (((K.int IntKind.i64).pr (K.int IntKind.i64)).st.sl.pr (K.int IntKind.i64))))).st.sl]), (2, SO.box [SA.d K.str, SA.d (K.str.pr ((K.int IntKind.i64).pr (K.int IntKind.i64))).st.sl, SA.d (K.str.pr (((K.int IntKind.i64).pr (K.int IntKind.i64)).st.sl.pr (((K.int IntKind.i64).pr (K.int IntKind.i64)).st.sl.pr (((K.int IntKind.i64).pr (K.int IntKind.i64)).st.sl.pr (K.int IntKind.i64))))).st.sl]), (1, SO.box [SA.d K.str, SA.d (K.str.pr ((K.int IntKind.i64).pr (K.int IntKind.i64))).st.sl, SA.d (K.str.pr (((K.int IntKind.i64).pr (K.int IntKind.i64)).st.sl.pr (((K.int IntKind.i64).pr (K.int IntKind.i64)).st.sl.pr (((K.int IntKind.i64).pr (K.int IntKind.i64)).st.sl.pr (K.int IntKind.i64))))).st.sl]), (0, SO.box [SA.d K.str, SA.d (K.str.pr ((K.int IntKind.i64).pr (K.int IntKind.i64))).st.sl, SA.d (K.str.pr (((K.int IntKind.i64).pr (K.int IntKind.i64)).st.sl.pr (((K.int IntKind.i64).pr (K.int IntKind.i64)).st.sl.pr (((K.int IntKind.i64).pr (K.int IntKind.i64)).st.sl.pr (K.int IntKind.i64))))).st.sl])], nx := 12 }
def L2.x0 : Sh := { sl := [(2, SV.a (SA.fx (Atom.box 5 0))), (3, SV.a (SA.fx (Atom.box 6 0)))], os := [(5, SO.box [SA.d K.str, SA.fx (Atom.sl 7 0 none), SA.fx (Atom.sl 8 0 none)]), (6, SO.box [SA.d K.str, SA.fx (Atom.sl 9 0 none), SA.fx (Atom.sl 10 0 none)]), (7, SO.row (K.str.pr ((K.int IntKind.i64).pr (K.int IntKind.i64))).st 0), (8, SO.row (K.str.pr (((K.int IntKind.i64).pr (K.int IntKind.i64)).st.sl.pr (((K.int IntKind.i64).pr (K.int IntKind.i64)).st.sl.pr (((K.int IntKind.i64).pr (K.int IntKind.i64)).st.sl.pr (K.int IntKind.i64))))).st 0), (9, SO.row (K.str.pr ((K.int IntKind.i64).pr (K.int IntKind.i64))).st 0), (10, SO.row (K.str.pr (((K.int IntKind.i64).pr (K.int IntKind.i64)).st.sl.pr (((K.int IntKind.i64).pr (K.int IntKind.i64)).st.sl.pr (((K.int IntKind.i64).pr (K.int IntKind.i64)).st.sl.pr (K.int IntKind.i64))))).st 0), (4, SO.box [SA.d K.str, SA.d (K.str.pr ((K.int IntKind.i64).pr (K.int IntKind.i64))).st.sl, SA.d (K.str.pr (((K.int IntKind.i64).pr (K.int IntKind.i64)).st.sl.pr (((K.int IntKind.i64).pr (K.int IntKind.i64)).st.sl.pr (((K.int IntKind.i64).pr (K.int IntKind.i64)).st.sl.pr (K.int IntKind.i64))))).st.sl]), (3, SO.box [SA.d K.str, SA.d (K.str.pr ((K.int IntKind.i64).pr (K.int IntKind.i64))).st.sl, SA.d (K.str.pr (((K.int IntKind.i64).pr (K.int IntKind.i64)).st.sl.pr (((K.int IntKind.i64).pr (K.int IntKind.i64)).st.sl.pr (((K.int IntKind.i64).pr (K.int IntKind.i64)).st.sl.pr (K.int IntKind.i64))))).st.sl]), (2, SO.box [SA.d K.str, SA.d (K.str.pr ((K.int IntKind.i64).pr (K.int IntKind.i64))).st.sl, SA.d (K.str.pr (((K.int IntKind.i64).pr (K.int IntKind.i64)).st.sl.pr (((K.int IntKind.i64).pr (K.int IntKind.i64)).st.sl.pr (((K.int IntKind.i64).pr (K.int IntKind.i64)).st.sl.pr (K.int IntKind.i64))))).st.sl]), (1, SO.box [SA.d K.str, SA.d (K.str.pr ((K.int IntKind.i64).pr (K.int IntKind.i64))).st.sl, SA.d (K.str.pr (((K.int IntKind.i64).pr (K.int IntKind.i64)).st.sl.pr (((K.int IntKind.i64).pr (K.int IntKind.i64)).st.sl.pr (((K.int IntKind.i64).pr (K.int IntKind.i64)).st.sl.pr (K.int IntKind.i64))))).st.sl]), (0, SO.box [SA.d K.str, SA.d (K.str.pr ((K.int IntKind.i64).pr (K.int IntKind.i64))).st.sl, SA.d (K.str.pr (((K.int IntKind.i64).pr (K.int IntKind.i64)).st.sl.pr (((K.int IntKind.i64).pr (K.int IntKind.i64)).st.sl.pr (((K.int IntKind.i64).pr (K.int IntKind.i64)).st.sl.pr (K.int IntKind.i64))))).st.sl])], nx := 11 }
def L2.st {α : Type} (N : Nat) (x42 : (List (BA × List (Int × Int) × List (Int × Int) × List (Int × Int) × Int))) (φ : (Int → (List (BA × List (Int × Int) × List (Int × Int) × List (Int × Int) × Int)) → Option α)) (x39 : Int) (x48 : (List (BA × List (Int × Int) × List (Int × Int) × List (Int × Int) × Int))) (k0 : ((List (BA × List (Int × Int) × List (Int × Int) × List (Int × Int) × Int)) → Option α)) : Option α :=
 cond (decide (x39 < (↑x42.length : Int))) (cond (decide (0 ≤ x39) && decide (x39 < (↑x42.length : Int))) (cond (pf12_copied.pre (x42.getD x39.toNat (eBA, [], [], [], 0)).snd.fst) (cond (pf12_copied.pre (x42.getD x39.toNat (eBA, [], [], [], 0)).snd.snd.fst) (cond (pf12_copied.pre (x42.getD x39.toNat (eBA, [], [], [], 0)).snd.snd.snd.fst) (cond ((x48.length + 1).ble mxl) (cond (pf12_copied.pre (x42.getD x39.toNat (eBA, [], [], [], 0)).snd.fst) (cond (pf12_copied.pre (x42.getD x39.toNat (eBA, [], [], [], 0)).snd.snd.fst) (cond (pf12_copied.pre (x42.getD x39.toNat (eBA, [], [], [], 0)).snd.snd.snd.fst) (cond ((x48.length + 1).ble mxl) (φ (IntKind.i64.wrap (x39 + 1)) (x48 ++ [((x42.getD x39.toNat (eBA, [], [], [], 0)).fst, (pf12_copied.spec (x42.getD x39.toNat (eBA, [], [], [], 0)).snd.fst), (pf12_copied.spec (x42.getD x39.toNat (eBA, [], [], [], 0)).snd.snd.fst), (pf12_copied.spec (x42.getD x39.toNat (eBA, [], [], [], 0)).snd.snd.snd.fst), (x42.getD x39.toNat (eBA, [], [], [], 0)).snd.snd.snd.snd)])) (none)) (none)) (none)) (none)) (none)) (none)) (none)) (none)) (none)) (k0 (x48))
def L2.f {α : Type} (N : Nat) (c2 : (List (BA × List (Int × Int) × List (Int × Int) × List (Int × Int) × Int))) : Nat → Int → (List (BA × List (Int × Int) × List (Int × Int) × List (Int × Int) × Int)) → ((List (BA × List (Int × Int) × List (Int × Int) × List (Int × Int) × Int)) → Option α) → Option α
 | 0, _, _, _ => none
 | n + 1, d0, d1, k0 => L2.st N c2 (fun e0 e1 => L2.f N c2 n e0 e1 k0) d0 d1 k0
def L2.up (d : L2.sh.T) (e0 : Int) (e1 : (List (BA × List (Int × Int) × List (Int × Int) × List (Int × Int) × Int))) : L2.sh.T := (((), ((), ((), (e0, ())))), ((d.2.1.1, (d.2.1.2.1, (d.2.1.2.2.1, ()))), ((d.2.2.1.1, ((), ((), ()))), ((d.2.2.2.1.1, ((), ((), ()))), (d.2.2.2.2.1, (d.2.2.2.2.2.1, (d.2.2.2.2.2.2.1, (e1, ((d.2.2.2.2.2.2.2.2.1.1, (d.2.2.2.2.2.2.2.2.1.2.1, (d.2.2.2.2.2.2.2.2.1.2.2.1, ()))), ((d.2.2.2.2.2.2.2.2.2.1.1, (d.2.2.2.2.2.2.2.2.2.1.2.1, (d.2.2.2.2.2.2.2.2.2.1.2.2.1, ()))), ((d.2.2.2.2.2.2.2.2.2.2.1.1, (d.2.2.2.2.2.2.2.2.2.2.1.2.1, (d.2.2.2.2.2.2.2.2.2.2.1.2.2.1, ()))), ((d.2.2.2.2.2.2.2.2.2.2.2.1.1, (d.2.2.2.2.2.2.2.2.2.2.2.1.2.1, (d.2.2.2.2.2.2.2.2.2.2.2.1.2.2.1, ()))), ((d.2.2.2.2.2.2.2.2.2.2.2.2.1.1, (d.2.2.2.2.2.2.2.2.2.2.2.2.1.2.1, (d.2.2.2.2.2.2.2.2.2.2.2.2.1.2.2.1, ()))), ())))))))))))))
def L2.k0 {α : Type} (d : L2.sh.T) (K : Cont α) : ((List (BA × List (Int × Int) × List (Int × Int) × List (Int × Int) × Int)) → Option α) := fun y0 => K (Exit.exit 0) (L2.x0.enc (((), ((), ())), ((d.2.2.1.1, ((), ((), ()))), ((d.2.2.2.1.1, ((), ((), ()))), (d.2.2.2.2.1, (d.2.2.2.2.2.1, (d.2.2.2.2.2.2.1, (y0, ((d.2.2.2.2.2.2.2.2.1.1, (d.2.2.2.2.2.2.2.2.1.2.1, (d.2.2.2.2.2.2.2.2.1.2.2.1, ()))), ((d.2.2.2.2.2.2.2.2.2.1.1, (d.2.2.2.2.2.2.2.2.2.1.2.1, (d.2.2.2.2.2.2.2.2.2.1.2.2.1, ()))), ((d.2.2.2.2.2.2.2.2.2.2.1.1, (d.2.2.2.2.2.2.2.2.2.2.1.2.1, (d.2.2.2.2.2.2.2.2.2.2.1.2.2.1, ()))), ((d.2.2.2.2.2.2.2.2.2.2.2.1.1, (d.2.2.2.2.2.2.2.2.2.2.2.1.2.1, (d.2.2.2.2.2.2.2.2.2.2.2.1.2.2.1, ()))), ((d.2.2.2.2.2.2.2.2.2.2.2.2.1.1, (d.2.2.2.2.2.2.2.2.2.2.2.2.1.2.1, (d.2.2.2.2.2.2.2.2.2.2.2.2.1.2.2.1, ()))), ())))))))))))))
def L2.F {α : Type} (N : Nat) (d : L2.sh.T) (K : Cont α) : Option α := L2.f N d.2.1.2.2.1 N d.1.2.2.2.1 d.2.2.2.2.2.2.2.1 (L2.k0 d K)
def ents7 {α : Type} (N : Nat) : List (SmE α) := [⟨0, 50, 17, [⟨L1.sh, L1.F N⟩]⟩]
def ents29 {α : Type} (N : Nat) : List (SmE α) := [⟨6, 49, 4, [⟨L0.sh, L0.F N⟩]⟩, ⟨5, 49, 4, [⟨L2.sh, L2.F N⟩]⟩]
def C (N : Nat) : Ctx := ⟨tys, [(11, pf09_Small.fent), (12, pl12_lives.fent), (17, pf09_Equal.fent), (19, tf_Reverse.fent), (21, tf_Dual.fent), (52, pf12_copied.fent)], [(29, ⟨Tryd.f29, an29, fun α lo d r => smL (ents29 N) lo d r⟩)], N⟩
def L0.B {α : Type} (N : Nat) : Env → Cont α → Option α := evC tys 47 6 (evCall (C N) 49) (evCallQ (C N)) N an29 (smL (ents29 N) 6 49) (loopOf 4 Tryd.f29)
theorem L0.r {α : Type} (N : Nat) (φ : Env → Option α) (K : Cont α) (d : L0.sh.T) : L0.B N (L0.sh.enc d) (contL φ K (Env.norm 6 [1, 2, 3, 4]) (Env.norm 6 [2, 3])) = L0.st N d.2.1.2.2.1 (fun e0 e1 => φ (L0.sh.enc (L0.up d e0 e1))) d.1.2.2.2.1 d.2.2.2.2.2.2.2.1 (L0.k0 d K) := by kernel_rfl
theorem L0.e {α : Type} (N : Nat) : ∀ (n : Nat) (d : L0.sh.T) (K : Cont α), evL (L0.B N) (Env.norm 6 [1, 2, 3, 4]) (Env.norm 6 [2, 3]) n (L0.sh.enc d) K = L0.f N d.2.1.2.2.1 n d.1.2.2.2.1 d.2.2.2.2.2.2.2.1 (L0.k0 d K)
 | 0, d, K => rfl
 | n + 1, d, K => evL_contL.trans ((L0.r N _ K d).trans (congrArg (fun φ => L0.st N d.2.1.2.2.1 φ d.1.2.2.2.1 d.2.2.2.2.2.2.2.1 (L0.k0 d K)) (funext fun e0 => funext fun e1 => L0.e N n (L0.up d e0 e1) K)))
def L1.B {α : Type} (N : Nat) : Env → Cont α → Option α := evC tys 81 0 (evCall (C N) 50) (evCallQ (C N)) N an7 (smL (ents7 N) 0 50) (loopOf 17 Tryd.f7)
theorem L1.r {α : Type} (N : Nat) (φ : Env → Option α) (K : Cont α) (d : L1.sh.T) : L1.B N (L1.sh.enc d) (contL φ K (Env.norm 0 [6, 11, 12, 13, 14]) (Env.norm 0 [6, 11, 12, 13])) = L1.st N (fun e0 e1 => φ (L1.sh.enc (L1.up d e0 e1))) d.1.2.2.2.2.1 d.2.2.2.1 (L1.k0 d K) := by kernel_rfl
theorem L1.e {α : Type} (N : Nat) : ∀ (n : Nat) (d : L1.sh.T) (K : Cont α), evL (L1.B N) (Env.norm 0 [6, 11, 12, 13, 14]) (Env.norm 0 [6, 11, 12, 13]) n (L1.sh.enc d) K = L1.f N n d.1.2.2.2.2.1 d.2.2.2.1 (L1.k0 d K)
 | 0, d, K => rfl
 | n + 1, d, K => evL_contL.trans ((L1.r N _ K d).trans (congrArg (fun φ => L1.st N φ d.1.2.2.2.2.1 d.2.2.2.1 (L1.k0 d K)) (funext fun e0 => funext fun e1 => L1.e N n (L1.up d e0 e1) K)))
def L2.B {α : Type} (N : Nat) : Env → Cont α → Option α := evC tys 47 5 (evCall (C N) 49) (evCallQ (C N)) N an29 (smL (ents29 N) 5 49) (loopOf 4 Tryd.f29)
theorem L2.r {α : Type} (N : Nat) (φ : Env → Option α) (K : Cont α) (d : L2.sh.T) : L2.B N (L2.sh.enc d) (contL φ K (Env.norm 5 [1, 2, 3, 4]) (Env.norm 5 [2, 3])) = L2.st N d.2.1.2.2.1 (fun e0 e1 => φ (L2.sh.enc (L2.up d e0 e1))) d.1.2.2.2.1 d.2.2.2.2.2.2.2.1 (L2.k0 d K) := by kernel_rfl
theorem L2.e {α : Type} (N : Nat) : ∀ (n : Nat) (d : L2.sh.T) (K : Cont α), evL (L2.B N) (Env.norm 5 [1, 2, 3, 4]) (Env.norm 5 [2, 3]) n (L2.sh.enc d) K = L2.f N d.2.1.2.2.1 n d.1.2.2.2.1 d.2.2.2.2.2.2.2.1 (L2.k0 d K)
 | 0, d, K => rfl
 | n + 1, d, K => evL_contL.trans ((L2.r N _ K d).trans (congrArg (fun φ => L2.st N d.2.1.2.2.1 φ d.1.2.2.2.1 d.2.2.2.2.2.2.2.1 (L2.k0 d K)) (funext fun e0 => funext fun e1 => L2.e N n (L2.up d e0 e1) K)))
theorem ents7_ok {α : Type} (N : Nat) : AllP (EntOk (C N) Tryd.f7 an7 (ents7 (α := α) N)) (ents7 N) := ⟨entOk_of (b0 := loopOf 17 Tryd.f7) (li0 := [6, 11, 12, 13, 14]) (lx0 := [6, 11, 12, 13]) (by kernel_rfl) (by kernel_rfl) ⟨fun d K => L1.e N N d K, trivial⟩, trivial⟩
theorem ents29_ok {α : Type} (N : Nat) : AllP (EntOk (C N) Tryd.f29 an29 (ents29 (α := α) N)) (ents29 N) := ⟨entOk_of (b0 := loopOf 4 Tryd.f29) (li0 := [1, 2, 3, 4]) (lx0 := [2, 3]) (by kernel_rfl) (by kernel_rfl) ⟨fun d K => L0.e N N d K, trivial⟩, entOk_of (b0 := loopOf 4 Tryd.f29) (li0 := [1, 2, 3, 4]) (lx0 := [2, 3]) (by kernel_rfl) (by kernel_rfl) ⟨fun d K => L2.e N N d K, trivial⟩, trivial⟩
def g {α : Type} (N : Nat) (a0 : BA × List (BA × Int × Int) × List (BA × List (Int × Int) × List (Int × Int) × List (Int × Int) × Int)) (kr : (Bool → Option α)) : Option α :=
 cond (!pl12_lives.spec) (kr (false)) (lt (pf09_Small.spec a0) fun v1 => cond (!v1.snd) (kr (true)) (lt (tf_Reverse.spec v1.fst) fun v2 => cond (v2.snd == 0) (cond ((tf_Reverse.spec v2.fst).snd != 0) (kr (false)) (cond (!(pf09_Equal.spec (tf_Reverse.spec v2.fst).fst v1.fst)) (kr (false)) (cond ((tf_Dual.spec v1.fst).snd != 0) (kr (true)) (cond ((List.length v1.fst.snd.fst).ble mxl) (L0.f N (v1.fst.snd.snd) N (0) ([]) (fun x28 => L1.f N  N (0) (v1.fst.snd.fst) (fun x38 => cond (v2.snd == 0) (cond ((tf_Dual.spec (tf_Dual.spec v1.fst).fst).snd == 0) (kr ((pf09_Equal.spec (tf_Dual.spec (tf_Dual.spec v1.fst).fst).fst (v1.fst.fst, x38, x28)))) (kr (false))) (kr (false))))) (none))))) (cond ((tf_Dual.spec v1.fst).snd != 0) (kr (true)) (cond ((List.length v1.fst.snd.fst).ble mxl) (L2.f N (v1.fst.snd.snd) N (0) ([]) (fun x64 => L1.f N  N (0) (v1.fst.snd.fst) (fun x65 => cond (v2.snd == 0) (cond ((tf_Dual.spec (tf_Dual.spec v1.fst).fst).snd == 0) (kr ((pf09_Equal.spec (tf_Dual.spec (tf_Dual.spec v1.fst).fst).fst (v1.fst.fst, x65, x64)))) (kr (false))) (kr (false))))) (none)))))
theorem eq (N : Nat) (a0 : BA × List (BA × Int × Int) × List (BA × List (Int × Int) × List (Int × Int) × List (Int × Int) × Int)) : evF (C N) 50 Tryd.f7 an7 (smL (ents7 N) 0 50) [((.bool : K), false)] [⟨.st (.pr (.str) (.pr (.sl (.st (.pr (.str) (.pr (.int .i64) (.int .i64))))) (.sl (.st (.pr (.str) (.pr (.sl (.st (.pr (.int .i64) (.int .i64)))) (.pr (.sl (.st (.pr (.int .i64) (.int .i64)))) (.pr (.sl (.st (.pr (.int .i64) (.int .i64)))) (.int .i64))))))))), a0⟩] = g N a0 (fun r0 => some [.dat (K.bool) r0]) := by kernel_rfl
theorem ctxOk (N : Nat) : CtxOk P (C N) := ctxOk_of tysOk mixedOk ⟨pf09_Small.ok, pl12_lives.ok, pf09_Equal.ok, tf_Reverse.ok, tf_Dual.ok, pf12_copied.ok, trivial⟩ ⟨⟨⟨by rfl, by kernel_rfl⟩, fun α lo d c hc => smL_ok (ents29_ok N) lo d hc⟩, trivial⟩
theorem calls (N : Nat) (a0 : BA × List (BA × Int × Int) × List (BA × List (Int × Int) × List (Int × Int) × List (Int × Int) × Int)) {rs : List Rs} (h : g N a0 (fun r0 => some [.dat (K.bool) r0]) = some rs) : CallsTo P 7 [⟨.st (.pr (.str) (.pr (.sl (.st (.pr (.str) (.pr (.int .i64) (.int .i64))))) (.sl (.st (.pr (.str) (.pr (.sl (.st (.pr (.int .i64) (.int .i64)))) (.pr (.sl (.st (.pr (.int .i64) (.int .i64)))) (.pr (.sl (.st (.pr (.int .i64) (.int .i64)))) (.int .i64))))))))), a0⟩] rs := evF_calls' (ctxOk N) (by rfl) (ents7_ok N) ((eq N a0).trans h)
def L0.l {α : Type} (N : Nat) (x3 : (List (BA × List (Int × Int) × List (Int × Int) × List (Int × Int) × Int))) (k0 : ((List (BA × List (Int × Int) × List (Int × Int) × List (Int × Int) × Int)) → Option α)) : List (BA × List (Int × Int) × List (Int × Int) × List (Int × Int) × Int) → Int → (List (BA × List (Int × Int) × List (Int × Int) × List (Int × Int) × Int)) → Option α
 | [], x0, x9 => k0 (x9)
 | x :: l, x0, x9 => (cond (pf12_copied.pre x.snd.fst) (cond (pf12_copied.pre x.snd.snd.fst) (cond (pf12_copied.pre x.snd.snd.snd.fst) (cond ((x9.length + 1).ble mxl) (cond (pf12_copied.pre x.snd.fst) (cond (pf12_copied.pre x.snd.snd.fst) (cond (pf12_copied.pre x.snd.snd.snd.fst) (cond ((x9.length + 1).ble mxl) (L0.l N x3 k0 l (x0 + 1) (x9 ++ [(x.fst, (pf12_copied.spec x.snd.fst), (pf12_copied.spec x.snd.snd.fst), (pf12_copied.spec x.snd.snd.snd.fst), x.snd.snd.snd.snd)])) (none)) (none)) (none)) (none)) (none)) (none)) (none)) (none))
theorem L0.rng {α : Type} {N : Nat} (x3 : (List (BA × List (Int × Int) × List (Int × Int) × List (Int × Int) × Int))) (hl : x3.length ≤ maxLen) (k0 : ((List (BA × List (Int × Int) × List (Int × Int) × List (Int × Int) × Int)) → Option α)) : ∀ (n j : Nat) (x9 : (List (BA × List (Int × Int) × List (Int × Int) × List (Int × Int) × Int))), x3.length < n + j → j ≤ x3.length → L0.f N x3 n (j : Int) x9 k0 = L0.l N x3 k0 (x3.drop j) (j : Int) x9 :=
 rng1 x3 hl (fun n i x9 => L0.f N x3 n i x9 k0) (fun l i x9 => L0.l N x3 k0 l i x9) (fun n j hj h ih x9 => by simp only [L0.f, L0.st, L0.l, h.a, h.b, h.c, h.d, h.e, Bool.true_and, Bool.and_true, Bool.and_self, cond_true, ih] <;> rfl) (fun n j h x9 => by simp only [L0.f, L0.st, L0.l, h, cond_false])
def L2.l {α : Type} (N : Nat) (x42 : (List (BA × List (Int × Int) × List (Int × Int) × List (Int × Int) × Int))) (k0 : ((List (BA × List (Int × Int) × List (Int × Int) × List (Int × Int) × Int)) → Option α)) : List (BA × List (Int × Int) × List (Int × Int) × List (Int × Int) × Int) → Int → (List (BA × List (Int × Int) × List (Int × Int) × List (Int × Int) × Int)) → Option α
 | [], x39, x48 => k0 (x48)
 | x :: l, x39, x48 => (cond (pf12_copied.pre x.snd.fst) (cond (pf12_copied.pre x.snd.snd.fst) (cond (pf12_copied.pre x.snd.snd.snd.fst) (cond ((x48.length + 1).ble mxl) (cond (pf12_copied.pre x.snd.fst) (cond (pf12_copied.pre x.snd.snd.fst) (cond (pf12_copied.pre x.snd.snd.snd.fst) (cond ((x48.length + 1).ble mxl) (L2.l N x42 k0 l (x39 + 1) (x48 ++ [(x.fst, (pf12_copied.spec x.snd.fst), (pf12_copied.spec x.snd.snd.fst), (pf12_copied.spec x.snd.snd.snd.fst), x.snd.snd.snd.snd)])) (none)) (none)) (none)) (none)) (none)) (none)) (none)) (none))
theorem L2.rng {α : Type} {N : Nat} (x42 : (List (BA × List (Int × Int) × List (Int × Int) × List (Int × Int) × Int))) (hl : x42.length ≤ maxLen) (k0 : ((List (BA × List (Int × Int) × List (Int × Int) × List (Int × Int) × Int)) → Option α)) : ∀ (n j : Nat) (x48 : (List (BA × List (Int × Int) × List (Int × Int) × List (Int × Int) × Int))), x42.length < n + j → j ≤ x42.length → L2.f N x42 n (j : Int) x48 k0 = L2.l N x42 k0 (x42.drop j) (j : Int) x48 :=
 rng1 x42 hl (fun n i x48 => L2.f N x42 n i x48 k0) (fun l i x48 => L2.l N x42 k0 l i x48) (fun n j hj h ih x48 => by simp only [L2.f, L2.st, L2.l, h.a, h.b, h.c, h.d, h.e, Bool.true_and, Bool.and_true, Bool.and_self, cond_true, ih] <;> rfl) (fun n j h x48 => by simp only [L2.f, L2.st, L2.l, h, cond_false])
end pl12_TransformReturns
def revN (n : NetT) : NetT := (n.1, n.2.1, n.2.2.map revT)
theorem revT_revT (t : TransT) : revT (revT t) = t := rfl
theorem revN_revN (n : NetT) : revN (revN n) = n := by
 unfold revN
 simp only [List.map_map]
 rw [show revT ∘ revT = id from funext revT_revT, List.map_id]
theorem revN_ok {n : NetT} (h : plainN n = true) : plainN (revN n) = true := by
 obtain ⟨h1, h2, hv⟩ := plainN_iff.1 h
 have hn : (n.2.2.map revT).map (·.1) = n.2.2.map (·.1) := by rw [List.map_map]; rfl
 refine plainN_iff.2 ⟨fun t ht => ?_, h2, ⟨hv.name, hv.np, ?_, hv.place, fun t ht => ?_, hv.pnames, ?_, fun t ht => ?_⟩⟩
 ·
  obtain ⟨u, hu, rfl⟩ := List.mem_map.1 ht
  exact h1 u hu
 ·
  show (n.2.2.map revT).length ≤ 24
  rw [List.length_map]; exact hv.nt
 ·
  obtain ⟨u, hu, rfl⟩ := List.mem_map.1 ht
  have := hv.trans u hu
  exact ⟨this.name, this.prio, this.post, this.pre, this.inh⟩
 ·
  show ((n.2.2.map revT).map (·.1)).Nodup
  rw [hn]; exact hv.tnames
 ·
  obtain ⟨u, hu, rfl⟩ := List.mem_map.1 ht
  exact hv.apart u hu
theorem revE_of {n : NetT} (h : plainN n = true) : revE n = (revN n, 0) := by
 unfold revE
 rw [checkN_t.2 (plainN_valid h), h]
 rfl
theorem revE_ok {n : NetT} (h : (revE n).2 = 0) : plainN n = true := by
 unfold revE at h
 cases hc : (checkN n).1 == 0
 ·
  simp only [hc, cond_false] at h
  rw [h] at hc; cases hc
 ·
  rw [hc] at h
  cases hp : plainN n
  ·
   rw [hp] at h; cases h
  ·
   rfl
theorem weightS_in : ∀ {l : List (Int × Int)} {p : Int}, (∃ a ∈ l, weightS l p = a.2) ∨ weightS l p = 0
 | [], p => .inr rfl
 | a :: l, p => by
  rw [weightS]
  cases a.1 == p
  ·
   rcases weightS_in (l := l) (p := p) with ⟨b, hb, h⟩ | h
   ·
    exact .inl ⟨b, List.mem_cons_of_mem _ hb, h⟩
   ·
    exact .inr h
  ·
   exact .inl ⟨a, by simp, rfl⟩
theorem ArcsOk.weight {np : Int} {l : List (Int × Int)} (h : ArcsOk np l) (p : Int) : 0 ≤ weightS l p ∧ weightS l p ≤ 99 := by
 rcases weightS_in (l := l) (p := p) with ⟨a, ha, e⟩ | e
 ·
  have := (h.rg a ha).2
  rw [e]; omega
 ·
  omega
theorem weightS_none : ∀ {l : List (Int × Int)} {p : Int}, (∀ a ∈ l, a.1 ≠ p) → weightS l p = 0
 | [], _, _ => rfl
 | a :: l, p, h => by
  have h1 : (a.1 == p) = false := by simpa using h a (by simp)
  rw [weightS, h1, cond_false]
  exact weightS_none fun b hb => h b (by simp [hb])
theorem arcsTo_mem {f : TransT → List (Int × Int)} {p : Int} : ∀ {ts : List TransT} {k : Int} {a : Int × Int}, a ∈ arcsTo f p k ts → k ≤ a.1 ∧ a.1 < k + ts.length ∧ 0 < a.2 ∧ ∃ t ∈ ts, a.2 = weightS (f t) p
 | [], k, a, h => by simp [arcsTo] at h
 | t :: ts, k, a, h => by
  rw [arcsTo] at h
  have go : a ∈ arcsTo f p (k + 1) ts → k ≤ a.1 ∧ a.1 < k + (t :: ts).length ∧ 0 < a.2 ∧ ∃ u ∈ t :: ts, a.2 = weightS (f u) p := fun h => by
   obtain ⟨h1, h2, h3, u, hu, h4⟩ := arcsTo_mem h
   simp only [List.length_cons]
   exact ⟨by omega, by omega, h3, u, List.mem_cons_of_mem _ hu, h4⟩
  by_cases hw : 0 < weightS (f t) p
  ·
   rw [decide_eq_true hw, cond_true] at h
   rcases List.mem_cons.1 h with rfl | h
   ·
    simp only [List.length_cons]
    exact ⟨by omega, by omega, hw, t, by simp, rfl⟩
   ·
    exact go h
  ·
   rw [decide_eq_false hw, cond_false] at h
   exact go h
theorem arcsTo_up {f : TransT → List (Int × Int)} {p : Int} : ∀ (ts : List TransT) (k : Int), (arcsTo f p k ts).Pairwise fun a b => a.1 < b.1
 | [], k => by rw [arcsTo]; exact List.Pairwise.nil
 | t :: ts, k => by
  rw [arcsTo]
  have ih := arcsTo_up (f := f) (p := p) ts (k + 1)
  cases decide (0 < weightS (f t) p)
  ·
   exact ih
  ·
   refine List.pairwise_cons.2 ⟨fun b hb => ?_, ih⟩
   have := (arcsTo_mem hb).1
   show k < b.1
   omega
theorem arcsTo_ok {f : TransT → List (Int × Int)} {p : Int} {ts : List TransT} (h : ∀ t ∈ ts, weightS (f t) p ≤ 99) : ArcsOk (ts.length : Int) (arcsTo f p 0 ts) :=
 ⟨fun a ha => by
  obtain ⟨h1, h2, h3, t, ht, h4⟩ := arcsTo_mem ha
  have := h t ht
  omega, arcsTo_up ts 0⟩
theorem arcsTo_weight {f : TransT → List (Int × Int)} {p : Int} : ∀ (ts : List TransT) (k : Int) (i : Nat) (hi : i < ts.length), (∀ t ∈ ts, 0 ≤ weightS (f t) p) → weightS (arcsTo f p k ts) (k + i) = weightS (f ts[i]) p
 | [], _, _, hi, _ => absurd hi (by simp)
 | t :: ts, k, 0, hi, h => by
  rw [arcsTo]
  have h0 := h t (by simp)
  by_cases hw : 0 < weightS (f t) p
  ·
   rw [decide_eq_true hw, cond_true, weightS]
   have : (k == k + ((0 : Nat) : Int)) = true := by simp
   rw [this]
   rfl
  ·
   rw [decide_eq_false hw, cond_false, weightS_none fun a ha => ?_]
   ·
    show 0 = weightS (f t) p
    omega
   ·
    have := (arcsTo_mem ha).1
    omega
 | t :: ts, k, i + 1, hi, h => by
  have ih := arcsTo_weight (f := f) (p := p) ts (k + 1) i (by simpa using hi) fun t ht => h t (by simp [ht])
  rw [show k + 1 + (i : Int) = k + ((i + 1 : Nat) : Int) by omega] at ih
  rw [arcsTo]
  cases decide (0 < weightS (f t) p)
  ·
   exact ih
  ·
   rw [cond_true, weightS, show (k == k + ((i + 1 : Nat) : Int)) = false by simp; omega]
   exact ih
theorem arcsTo_back {F : TransT → List (Int × Int)} {p : Int} : ∀ (us : List TransT) (l : List (Int × Int)) (k : Int), l.Pairwise (fun a b => a.1 < b.1) → (∀ a ∈ l, k ≤ a.1 ∧ a.1 < k + us.length ∧ 1 ≤ a.2) → (∀ (i : Nat) (hi : i < us.length), weightS (F us[i]) p = weightS l (k + i)) → arcsTo F p k us = l
 | [], l, k, _, h, _ => by
  cases l with
  | nil => rfl
  | cons a l => have := h a (by simp); simp at this; omega
 | u :: us, l, k, hp, h, hw => by
  have h0 := hw 0 (by simp)
  simp only [List.getElem_cons_zero] at h0
  have hs : ∀ (i : Nat) (hi : i < us.length), weightS (F us[i]) p = weightS l (k + 1 + i) := fun i hi => by
   have := hw (i + 1) (by simpa using hi)
   rw [show k + ((i + 1 : Nat) : Int) = k + 1 + (i : Int) by omega] at this
   exact this
  rw [arcsTo, h0]
  cases l with
  | nil =>
   have ih := arcsTo_back us [] (k + 1) hp (fun a ha => by cases ha) hs
   rw [weightS]
   exact ih
  | cons a l =>
   have ha := h a (by simp)
   have hup := (List.pairwise_cons.1 hp).1
   by_cases e : a.1 = k
   ·
    have e1 : weightS (a :: l) (k + ((0 : Nat) : Int)) = a.2 := by
     rw [weightS, show (a.1 == k + ((0 : Nat) : Int)) = true by simp [e]]
     rfl
    have ih := arcsTo_back us l (k + 1) (List.pairwise_cons.1 hp).2 (fun b hb => by
     have h1 := h b (by simp [hb])
     have h2 := hup b hb
     simp only [List.length_cons] at h1
     omega) (fun i hi => by
      rw [hs i hi, weightS, show (a.1 == k + 1 + (i : Int)) = false by simp; omega]
      rfl)
    rw [e1, decide_eq_true (by omega), cond_true, ih, ← e]
   ·
    have e1 : weightS (a :: l) (k + ((0 : Nat) : Int)) = 0 := weightS_none fun b hb => by
     rcases List.mem_cons.1 hb with rfl | hb
     ·
      omega
     ·
      have := hup b hb; omega
    have ih := arcsTo_back us (a :: l) (k + 1) hp (fun b hb => by
     have h1 := h b hb
     simp only [List.length_cons] at h1
     rcases List.mem_cons.1 hb with rfl | hb
     ·
      omega
     ·
      have := hup b hb; omega) hs
    rw [e1, ih]
    rfl
def tP (t : TransT) : PlaceT := (t.1, 0, 0)
def dualN (n : NetT) : NetT := (n.1, n.2.2.map tP, dualT n.2.2 0 n.2.1)
theorem dualT_len : ∀ (ps : List PlaceT) (ts : List TransT) (i : Int), (dualT ts i ps).length = ps.length
 | [], _, _ => rfl
 | p :: ps, ts, i => by rw [dualT, List.length_cons, dualT_len ps, List.length_cons]
theorem dualT_get : ∀ (ps : List PlaceT) (ts : List TransT) (i : Int) (j : Nat) (h : j < (dualT ts i ps).length) (h' : j < ps.length), (dualT ts i ps)[j] = (ps[j].1, arcsTo (fun t => t.2.2.1) (i + j) 0 ts, arcsTo (fun t => t.2.1) (i + j) 0 ts, [], 0)
 | [], _, _, _, _, h' => absurd h' (by simp)
 | p :: ps, ts, i, 0, h, _ => by
  show (dualT ts i (p :: ps))[0] = _
  simp only [dualT, List.getElem_cons_zero]
  rw [show i + ((0 : Nat) : Int) = i by omega]
 | p :: ps, ts, i, j + 1, h, h' => by
  have := dualT_get ps ts (i + 1) j (by rw [dualT_len]; simpa using h') (by simpa using h')
  rw [show i + 1 + (j : Int) = i + ((j + 1 : Nat) : Int) by omega] at this
  simp only [dualT, List.getElem_cons_succ]
  exact this
theorem dualT_names (ps : List PlaceT) : ∀ (ts : List TransT) (i : Int), (dualT ts i ps).map (·.1) = ps.map (·.1) := by
 induction ps with
 | nil => intro ts i; rfl
 | cons p ps ih => intro ts i; rw [dualT, List.map_cons, List.map_cons, ih]
theorem dualT_mem {ps : List PlaceT} {ts : List TransT} {u : TransT} (h : u ∈ dualT ts 0 ps) : ∃ (j : Nat) (hj : j < ps.length), u = (ps[j].1, arcsTo (fun t => t.2.2.1) (j : Int) 0 ts, arcsTo (fun t => t.2.1) (j : Int) 0 ts, [], 0) := by
 obtain ⟨j, hj, rfl⟩ := List.mem_iff_getElem.1 h
 have hj' : j < ps.length := by rw [dualT_len] at hj; exact hj
 refine ⟨j, hj', ?_⟩
 rw [dualT_get ps ts 0 j hj hj', show (0 : Int) + (j : Int) = j by omega]
theorem dualN_ok {n : NetT} (h : plainN n = true) (hne : n.2.2 ≠ []) : plainN (dualN n) = true := by
 obtain ⟨h1, h2, hv⟩ := plainN_iff.1 h
 have hl : 0 < n.2.2.length := List.length_pos_iff.2 hne
 have hnt := hv.nt
 have hnp := hv.np
 have hm : (n.2.2.map tP).map (·.1) = n.2.2.map (·.1) := by rw [List.map_map]; rfl
 refine plainN_iff.2 ⟨fun t ht => ?_, fun p hp => ?_, ⟨hv.name, ?_, ?_, fun p hp => ?_, fun t ht => ?_, ?_, ?_, fun t ht => ?_⟩⟩
 ·
  obtain ⟨j, hj, rfl⟩ := dualT_mem ht
  exact ⟨rfl, rfl⟩
 ·
  obtain ⟨t, ht, rfl⟩ := List.mem_map.1 hp
  rfl
 ·
  show 1 ≤ (n.2.2.map tP).length ∧ (n.2.2.map tP).length ≤ 24
  rw [List.length_map]; omega
 ·
  show (dualT n.2.2 0 n.2.1).length ≤ 24
  rw [dualT_len]; omega
 ·
  obtain ⟨t, ht, rfl⟩ := List.mem_map.1 hp
  exact ⟨(hv.trans t ht).name, by simp [tP], by simp [tP]⟩
 ·
  obtain ⟨j, hj, rfl⟩ := dualT_mem ht
  refine ⟨(hv.place _ (List.getElem_mem hj)).name, by simp, ?_, ?_, ⟨fun a ha => (by cases ha), List.Pairwise.nil⟩⟩
  ·
   show ArcsOk (((n.2.2.map tP).length : Nat) : Int) _
   rw [List.length_map]
   exact arcsTo_ok fun t ht => ((hv.trans t ht).post.weight _).2
  ·
   show ArcsOk (((n.2.2.map tP).length : Nat) : Int) _
   rw [List.length_map]
   exact arcsTo_ok fun t ht => ((hv.trans t ht).pre.weight _).2
 ·
  show ((n.2.2.map tP).map (·.1)).Nodup
  rw [hm]; exact hv.tnames
 ·
  show ((dualT n.2.2 0 n.2.1).map (·.1)).Nodup
  rw [dualT_names]; exact hv.pnames
 ·
  obtain ⟨j, hj, rfl⟩ := dualT_mem ht
  show n.2.1[j].1 ∉ (n.2.2.map tP).map (·.1)
  rw [hm]
  intro hmm
  obtain ⟨t, ht, he⟩ := List.mem_map.1 hmm
  exact hv.apart t ht (List.mem_map.2 ⟨_, List.getElem_mem hj, he.symm⟩)
theorem dualE_of {n : NetT} (h : plainN n = true) (hne : n.2.2 ≠ []) : dualE n = (dualN n, 0) := by
 unfold dualE
 rw [checkN_t.2 (plainN_valid h), h]
 cases he : n.2.2 with
 | nil => exact absurd he hne
 | cons t l => simp only [List.isEmpty_cons, cond_true, cond_false]; unfold dualN; rw [he]; rfl
theorem dualE_ok {n : NetT} (h : (dualE n).2 = 0) : plainN n = true ∧ n.2.2 ≠ [] := by
 unfold dualE at h
 cases hc : (checkN n).1 == 0
 ·
  simp only [hc, cond_false] at h
  rw [h] at hc; cases hc
 ·
  rw [hc] at h
  cases hp : plainN n
  ·
   rw [hp] at h; cases h
  ·
   rw [hp] at h
   refine ⟨rfl, fun he => ?_⟩
   rw [he] at h
   cases h
theorem dual_dual {n : NetT} (h : plainN n = true) : dualN (dualN n) = (n.1, n.2.1.map (fun p => (p.1, 0, p.2.2)), n.2.2) := by
 obtain ⟨h1, h2, hv⟩ := plainN_iff.1 h
 have e1 : (dualT n.2.2 0 n.2.1).map tP = n.2.1.map (fun p => (p.1, 0, p.2.2)) := by
  apply List.ext_getElem (by rw [List.length_map, List.length_map, dualT_len])
  intro j hj hj'
  rw [List.length_map] at hj hj'
  rw [List.getElem_map, List.getElem_map, dualT_get _ _ _ _ hj hj', h2 _ (List.getElem_mem hj')]
  rfl
 have e2 : dualT (dualT n.2.2 0 n.2.1) 0 (n.2.2.map tP) = n.2.2 := by
  apply List.ext_getElem (by rw [dualT_len, List.length_map])
  intro k hk hk'
  have ht := hv.trans _ (List.getElem_mem hk')
  have hpl := h1 _ (List.getElem_mem hk')
  have hkk : k < (n.2.2.map tP).length := by rw [List.length_map]; exact hk'
  rw [dualT_get _ _ _ _ hk hkk, List.getElem_map, show (0 : Int) + (k : Int) = k by omega]
  have hl := dualT_len n.2.1 n.2.2 0
  have wt : ∀ (f : TransT → List (Int × Int)), (∀ t ∈ n.2.2, ArcsOk (n.2.1.length : Int) (f t)) → ∀ p, weightS (arcsTo f p 0 n.2.2) (k : Int) = weightS (f n.2.2[k]) p := fun f hf p => by
   have := arcsTo_weight (f := f) (p := p) n.2.2 0 k hk' fun t ht => ((hf t ht).weight p).1
   rw [show (0 : Int) + (k : Int) = k by omega] at this
   exact this
  rw [arcsTo_back (F := fun t => t.2.2.1) (p := (k : Int)) (dualT n.2.2 0 n.2.1) n.2.2[k].2.1 0 ht.pre.up (fun a ha => by have := ht.pre.rg a ha; omega) (fun i hi => by
    rw [dualT_get _ _ _ _ hi (by omega)]
    exact wt (fun t => t.2.1) (fun t ht => (hv.trans t ht).pre) _),
   arcsTo_back (F := fun t => t.2.1) (p := (k : Int)) (dualT n.2.2 0 n.2.1) n.2.2[k].2.2.1 0 ht.post.up (fun a ha => by have := ht.post.rg a ha; omega) (fun i hi => by
    rw [dualT_get _ _ _ _ hi (by omega)]
    exact wt (fun t => t.2.2.1) (fun t ht => (hv.trans t ht).post) _)]
  show (n.2.2[k].1, n.2.2[k].2.1, n.2.2[k].2.2.1, [], 0) = n.2.2[k]
  rw [← hpl.1, ← hpl.2]
 show (n.1, (dualT n.2.2 0 n.2.1).map tP, dualT (dualT n.2.2 0 n.2.1) 0 (n.2.2.map tP)) = _
 rw [e1, e2]
theorem pl12_TransformReturns.L0.law {α : Type} {N : Nat} (x3 : (List (BA × List (Int × Int) × List (Int × Int) × List (Int × Int) × Int))) (k0 : ((List (BA × List (Int × Int) × List (Int × Int) × List (Int × Int) × Int)) → Option α)) : ∀ (l : List TransT) (j : Int) (acc : List TransT), acc.length + l.length ≤ 1000 → (∀ t ∈ l, BigT t) → pl12_TransformReturns.L0.l N x3 k0 l j acc = k0 (acc ++ l)
 | [], j, acc, _, h => by rw [pl12_TransformReturns.L0.l, List.append_nil]
 | x :: l, j, acc, h0, h => by
  simp only [List.length_cons] at h0
  obtain ⟨h1, h2, h3⟩ := h x (by simp)
  rw [pl12_TransformReturns.L0.l]
  simp only [pf12_copied.pre, h1, h2, h3, cond_true]
  rw [ble1 _ (by omega)]
  simp only [cond_true]
  rw [pl12_TransformReturns.L0.law _ _ l _ _ (by simp; omega) (fun t ht => h t (by simp [ht])), List.append_assoc]
  rfl
theorem pl12_TransformReturns.L1.law {α : Type} {N : Nat} (k0 : List PlaceT → Option α) : ∀ (n : Nat) (pre ps : List PlaceT), ps.length < n → pre.length + ps.length ≤ 1000 → pl12_TransformReturns.L1.f N n (pre.length : Int) (pre ++ ps) k0 = k0 (pre ++ ps.map (fun p => (p.1, 0, p.2.2)))
 | 0, pre, ps, h, _ => absurd h (by omega)
 | n + 1, pre, [], h, _ => by
  rw [pl12_TransformReturns.L1.f, pl12_TransformReturns.L1.st]
  simp
 | n + 1, pre, p :: ps, h, hb => by
  simp only [List.length_cons] at h hb
  rw [pl12_TransformReturns.L1.f, pl12_TransformReturns.L1.st]
  have hj : pre.length < (pre ++ p :: ps).length := by simp
  have hg : ∀ z, (pre ++ p :: ps).getD (Int.toNat (pre.length : Int)) z = p := fun z => by rw [getD_at hj]; simp
  have hs : ∀ y, (pre ++ p :: ps).set (Int.toNat (pre.length : Int)) y = (pre ++ [y]) ++ ps := fun y => by rw [Int.toNat_natCast, set_mid _ _ _ _ rfl]; simp
  have hw : IntKind.i64.wrap ((pre.length : Int) + 1) = (pre.length : Int) + 1 := wrap_i64 (inI_i64.2 (by omega))
  simp only [Nat.zero_add, d_0, d_lt hj, hg, hs, hw, Bool.and_self, cond_true]
  have := pl12_TransformReturns.L1.law (N := N) k0 n (pre ++ [(p.1, 0, p.2.2)]) ps (by omega) (by simp; omega)
  rw [List.length_append, List.length_singleton, succ_cast] at this
  rw [this]
  simp
theorem pl12_TransformReturns.law {α : Type} {N : Nat} (hN : 18446744073709551616 ≤ N) (a0 : BA × (List (BA × Int × Int)) × List (BA × (List (Int × Int)) × (List (Int × Int)) × (List (Int × Int)) × Int)) (w0 : K.wf (.st (.pr (.str) (.pr (.sl (.st (.pr (.str) (.pr (.int .i64) (.int .i64))))) (.sl (.st (.pr (.str) (.pr (.sl (.st (.pr (.int .i64) (.int .i64)))) (.pr (.sl (.st (.pr (.int .i64) (.int .i64)))) (.pr (.sl (.st (.pr (.int .i64) (.int .i64)))) (.int .i64)))))))))) a0) (kr : (Bool → Option α)) : pl12_TransformReturns.g N a0 kr = kr (pl12_TransformReturns.spec a0) := by
 unfold pl12_TransformReturns.g pl12_TransformReturns.spec
 simp only [lt, pf09_Small.spec, pl12_lives.spec, tf_Reverse.spec, tf_Dual.spec, pf09_Equal.spec]
 cases smallN a0
 ·
  rfl
 simp only [Bool.not_true, cond_false, cond_true]
 cases hp : plainN a0
 ·
  cases he : (revE a0).2 == 0
  ·
   simp only [cond_false]
   cases hd : (dualE a0).2 == 0
   ·
    simp only [bne, hd, Bool.not_false, cond_true]
   ·
    have := (dualE_ok (beq0.1 hd)).1
    rw [hp] at this; cases this
  ·
   have := revE_ok (beq0.1 he)
   rw [hp] at this; cases this
 ·
  have hr := revN_ok hp
  rw [revE_of hp]
  simp only [beq_self_eq_true, cond_true]
  rw [revE_of hr, revN_revN, equalN_refl]
  cases hd : (dualE a0).2 == 0
  ·
   simp only [bne, hd, Bool.not_false, Bool.not_true, beq_self_eq_true, cond_true, cond_false]
  ·
   have hne := (dualE_ok (beq0.1 hd)).2
   have hdp := dualN_ok hp hne
   have hv := plainN_valid hp
   have hnp := hv.np
   have hnt := hv.nt
   have hne2 : (dualN a0).2.2 ≠ [] := fun e => by
    have : (dualT a0.2.2 0 a0.2.1).length = 0 := by rw [show dualT a0.2.2 0 a0.2.1 = [] from e]; rfl
    rw [dualT_len] at this; omega
   rw [dualE_of hp hne]
   simp only [bne_self_eq_false, Bool.not_true, cond_false]
   rw [ble0 (by omega), cond_true]
   refine (pl12_TransformReturns.L0.rng (N := N) _ (w0.2.2.1) _ N 0 _ (by have := le_fuel (w0.2.2.1) hN; omega) (Nat.zero_le _)).trans ?_
   refine (pl12_TransformReturns.L0.law _ _ _ _ _ (by simp; omega) (by simpa using hv.big)).trans ?_
   simp only [List.drop_zero, List.nil_append]
   have hL := pl12_TransformReturns.L1.law (N := N) (fun x38 => kr (equalN (dualE (dualN a0)).1 (a0.1, x38, a0.2.2))) N [] a0.2.1 (by omega) (by simp; omega)
   simp only [List.nil_append, List.length_nil] at hL
   rw [dualE_of hdp hne2] at hL ⊢
   simp only [beq_self_eq_true, cond_true]
   refine hL.trans ?_
   rw [dual_dual hp, equalN_refl]
theorem pl12_TransformReturns.ok : FentOk P 7 pl12_TransformReturns.fent := fentOk_of (by kernel_rfl) fun ds hk => by
 obtain ⟨a0, l0, rfl, h0⟩ := ds_cons hk
 obtain rfl := ds0 h0
 exact ⟨true, [.dat (.bool) (pl12_TransformReturns.spec a0)], fun h hw => pl12_TransformReturns.calls 18446744073709551616 a0 (pl12_TransformReturns.law (Nat.le_refl _) a0 hw.1 _), fun α k => rfl⟩
theorem transformReturns_calls (x0 : K.T (.st (.pr (.str) (.pr (.sl (.st (.pr (.str) (.pr (.int .i64) (.int .i64))))) (.sl (.st (.pr (.str) (.pr (.sl (.st (.pr (.int .i64) (.int .i64)))) (.pr (.sl (.st (.pr (.int .i64) (.int .i64)))) (.pr (.sl (.st (.pr (.int .i64) (.int .i64)))) (.int .i64))))))))))) (w0 : K.wf (.st (.pr (.str) (.pr (.sl (.st (.pr (.str) (.pr (.int .i64) (.int .i64))))) (.sl (.st (.pr (.str) (.pr (.sl (.st (.pr (.int .i64) (.int .i64)))) (.pr (.sl (.st (.pr (.int .i64) (.int .i64)))) (.pr (.sl (.st (.pr (.int .i64) (.int .i64)))) (.int .i64)))))))))) x0) : CallsTo P 7 [⟨.st (.pr (.str) (.pr (.sl (.st (.pr (.str) (.pr (.int .i64) (.int .i64))))) (.sl (.st (.pr (.str) (.pr (.sl (.st (.pr (.int .i64) (.int .i64)))) (.pr (.sl (.st (.pr (.int .i64) (.int .i64)))) (.pr (.sl (.st (.pr (.int .i64) (.int .i64)))) (.int .i64))))))))), x0⟩] [.dat .bool true] := pl12_TransformReturns.calls 18446744073709551616 x0 (pl12_TransformReturns.law (Nat.le_refl _) x0 w0 _)
end Go.VI
