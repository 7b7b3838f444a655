/- What the functions that TransformMirrors calls compute: printed out of the interpreter's normal forms (wip/vi/vigen.py) and proved. -/
import Derived.Test.YtlfhhfjlflccgaaDoorVTransformMirrors2
import Derived.Test.YtlfhhfjlflccgaaDoorProg
set_option linter.unusedVariables false
set_option linter.unusedSimpArgs false
set_option maxRecDepth 100000
set_option maxHeartbeats 4000000
noncomputable section
namespace Go.VI
open Go Go.Proofs
namespace pf12_copied
def an52 : Ann := []
def ents52 {α : Type} (N : Nat) : List (SmE α) := []
def C (N : Nat) : Ctx := ⟨tys, [], [], N⟩
theorem ents52_ok {α : Type} (N : Nat) : AllP (EntOk (C N) Tryd.f52 an52 (ents52 (α := α) N)) (ents52 N) := trivial
def g {α : Type} (N : Nat) (a0 : List (Int × Int)) (kr : ((List (Int × Int)) → Option α)) : Option α :=
 cond (a0.length.ble mxl) (kr (a0)) (none)
theorem eq (N : Nat) (a0 : List (Int × Int)) : evF (C N) 50 Tryd.f52 an52 (smL (ents52 N) 0 50) [(((.st (.pr (.int .i64) (.int .i64))) : K), true)] [⟨.sl (.st (.pr (.int .i64) (.int .i64))), a0⟩] = g N a0 (fun r0 => some [.own (((K.int IntKind.i64).pr (K.int IntKind.i64)).st) r0]) := by kernel_rfl
theorem ctxOk (N : Nat) : CtxOk P (C N) := ctxOk_of tysOk mixedOk trivial trivial
theorem calls (N : Nat) (a0 : List (Int × Int)) {rs : List Rs} (h : g N a0 (fun r0 => some [.own (((K.int IntKind.i64).pr (K.int IntKind.i64)).st) r0]) = some rs) : CallsTo P 52 [⟨.sl (.st (.pr (.int .i64) (.int .i64))), a0⟩] rs := evF_calls' (ctxOk N) (by rfl) (ents52_ok N) ((eq N a0).trans h)
end pf12_copied
theorem pf12_copied.law {α : Type} {N : Nat} (hN : 18446744073709551616 ≤ N) (a0 : List (Int × Int)) (w0 : K.wf (.sl (.st (.pr (.int .i64) (.int .i64)))) a0) (hp : pf12_copied.pre a0 = true) (kr : ((List (Int × Int)) → Option α)) : pf12_copied.g N a0 kr = kr (pf12_copied.spec a0) := by
 have hp' : a0.length ≤ 1073741824 := of_decide_eq_true hp
 unfold pf12_copied.g pf12_copied.spec
 rw [show a0.length.ble mxl = true from Nat.ble_eq_true_of_le hp', cond_true]
theorem pf12_copied.ok : FentOk P 52 pf12_copied.fent := fentOk_of (by kernel_rfl) fun ds hk => by
 obtain ⟨a0, l0, rfl, h0⟩ := ds_cons hk
 obtain rfl := ds0 h0
 exact ⟨pf12_copied.pre a0, [.own (.st (.pr (.int .i64) (.int .i64))) (pf12_copied.spec a0)], fun h hw => pf12_copied.calls 18446744073709551616 a0 (pf12_copied.law (Nat.le_refl _) a0 hw.1 h _), fun α k => rfl⟩
end Go.VI
namespace Go.VI
open Go Go.Proofs
namespace pf12_Reverse
def an20 : Ann := [(7, [1, 2, 5, 6], [2, 5])]
def L0.sh : Sh := { sl := [(1, SV.a (SA.fx (Atom.box 0 0))), (2, SV.a (SA.fx (Atom.box 1 0))), (5, SV.a (SA.fx (Atom.box 2 0))), (6, SV.a (SA.d (K.int IntKind.i64)))], os := [(0, SO.box [SA.d K.str, SA.d (K.str.pr ((K.int IntKind.i64).pr (K.int IntKind.i64))).st.sl, SA.d (K.str.pr (((K.int IntKind.i64).pr (K.int IntKind.i64)).st.sl.pr (((K.int IntKind.i64).pr (K.int IntKind.i64)).st.sl.pr (((K.int IntKind.i64).pr (K.int IntKind.i64)).st.sl.pr (K.int IntKind.i64))))).st.sl]), (1, SO.box [SA.d K.str, SA.fx (Atom.sl 3 0 none), SA.fx (Atom.sl 4 0 none)]), (2, SO.box [SA.d K.str, SA.fx (Atom.sl 5 0 none), SA.fx (Atom.sl 6 0 none)]), (3, SO.row (K.str.pr ((K.int IntKind.i64).pr (K.int IntKind.i64))).st 0), (4, SO.row (K.str.pr (((K.int IntKind.i64).pr (K.int IntKind.i64)).st.sl.pr (((K.int IntKind.i64).pr (K.int IntKind.i64)).st.sl.pr (((K.int IntKind.i64).pr (K.int IntKind.i64)).st.sl.pr (K.int IntKind.i64))))).st 0), (5, SO.row (K.str.pr ((K.int IntKind.i64).pr (K.int IntKind.i64))).st 0), (6, SO.row (K.str.pr (((K.int IntKind.i64).pr (K.int IntKind.i64)).st.sl.pr (((K.int IntKind.i64).pr (K.int IntKind.i64)).st.sl.pr (((K.int IntKind.i64).pr (K.int IntKind.i64)).st.sl.pr (K.int IntKind.i64))))).st 0)], nx := 7 }
def L0.x0 : Sh := { sl := [(2, SV.a (SA.fx (Atom.box 0 0))), (5, SV.a (SA.fx (Atom.box 1 0)))], os := [(0, SO.box [SA.d K.str, SA.fx (Atom.sl 2 0 none), SA.fx (Atom.sl 3 0 none)]), (1, SO.box [SA.d K.str, SA.fx (Atom.sl 4 0 none), SA.fx (Atom.sl 5 0 none)]), (2, SO.row (K.str.pr ((K.int IntKind.i64).pr (K.int IntKind.i64))).st 0), (3, SO.row (K.str.pr (((K.int IntKind.i64).pr (K.int IntKind.i64)).st.sl.pr (((K.int IntKind.i64).pr (K.int IntKind.i64)).st.sl.pr (((K.int IntKind.i64).pr (K.int IntKind.i64)).st.sl.pr (K.int IntKind.i64))))).st 0), (4, SO.row (K.str.pr ((K.int IntKind.i64).pr (K.int IntKind.i64))).st 0), (5, SO.row (K.str.pr (((K.int IntKind.i64).pr (K.int IntKind.i64)).st.sl.pr (((K.int IntKind.i64).pr (K.int IntKind.i64)).st.sl.pr (((K.int IntKind.i64).pr (K.int IntKind.i64)).st.sl.pr (K.int IntKind.i64))))).st 0)], nx := 6 }
def L0.st {α : Type} (N : Nat) (x1 : BA) (x2 : (List (BA × Int × Int))) (x3 : (List (BA × List (Int × Int) × List (Int × Int) × List (Int × Int) × Int))) (x4 : BA) (x5 : BA) (x6 : (List (BA × Int × Int))) (x7 : (List (BA × List (Int × Int) × List (Int × Int) × List (Int × Int) × Int))) (x8 : (List (BA × Int × Int))) (φ : (Int → (List (BA × List (Int × Int) × List (Int × Int) × List (Int × Int) × Int)) → Option α)) (x0 : Int) (x9 : (List (BA × List (Int × Int) × List (Int × Int) × List (Int × Int) × Int))) (k0 : ((List (BA × List (Int × Int) × List (Int × Int) × List (Int × Int) × Int)) → Option α)) : Option α :=
 cond (decide (x0 < (↑x3.length : Int))) (cond (decide (0 ≤ x0) && decide (x0 < (↑x3.length : Int))) (cond (pf12_copied.pre (x3.getD x0.toNat (eBA, [], [], [], 0)).snd.snd.fst) (cond (pf12_copied.pre (x3.getD x0.toNat (eBA, [], [], [], 0)).snd.fst) (cond ((x9.length + 1).ble mxl) (cond (pf12_copied.pre (x3.getD x0.toNat (eBA, [], [], [], 0)).snd.snd.fst) (cond (pf12_copied.pre (x3.getD x0.toNat (eBA, [], [], [], 0)).snd.fst) (cond ((x9.length + 1).ble mxl) (φ (IntKind.i64.wrap (x0 + 1)) (x9 ++ [((x3.getD x0.toNat (eBA, [], [], [], 0)).fst, pf12_copied.spec (x3.getD x0.toNat (eBA, [], [], [], 0)).snd.snd.fst, pf12_copied.spec (x3.getD x0.toNat (eBA, [], [], [], 0)).snd.fst, [], 0)])) (none)) (none)) (none)) (none)) (none)) (none)) (none)) (k0 (x9))
def L0.f {α : Type} (N : Nat) (c0 : BA) (c1 : (List (BA × Int × Int))) (c2 : (List (BA × List (Int × Int) × List (Int × Int) × List (Int × Int) × Int))) (c3 : BA) (c4 : BA) (c5 : (List (BA × Int × Int))) (c6 : (List (BA × List (Int × Int) × List (Int × Int) × List (Int × Int) × Int))) (c7 : (List (BA × Int × Int))) : Nat → Int → (List (BA × List (Int × Int) × List (Int × Int) × List (Int × Int) × Int)) → ((List (BA × List (Int × Int) × List (Int × Int) × List (Int × Int) × Int)) → Option α) → Option α
 | 0, _, _, _ => none
 | n + 1, d0, d1, k0 => L0.st N c0 c1 c2 c3 c4 c5 c6 c7 (fun e0 e1 => L0.f N c0 c1 c2 c3 c4 c5 c6 c7 n e0 e1 k0) d0 d1 k0
def L0.F {α : Type} (N : Nat) (d : L0.sh.T) (K : Cont α) : Option α := L0.f N d.2.1.1 d.2.1.2.1 d.2.1.2.2.1 d.2.2.1.1 d.2.2.2.1.1 d.2.2.2.2.1 d.2.2.2.2.2.1 d.2.2.2.2.2.2.1 N d.1.2.2.2.1 d.2.2.2.2.2.2.2.1 (fun y0 => K (Exit.exit 0) (L0.x0.enc (((), ((), ())), ((d.2.2.1.1, ((), ((), ()))), ((d.2.2.2.1.1, ((), ((), ()))), (d.2.2.2.2.1, (d.2.2.2.2.2.1, (d.2.2.2.2.2.2.1, (y0, ())))))))))
def ents20 {α : Type} (N : Nat) : List (SmE α) := [⟨0, 50, 7, [⟨L0.sh, L0.F N⟩]⟩]
def C (N : Nat) : Ctx := ⟨tys, [(51, pf12_plain.fent), (52, pf12_copied.fent)], [], N⟩
def L0.B {α : Type} (N : Nat) : Env → Cont α → Option α := evC tys 50 0 (evCall (C N) 50) (evCallQ (C N)) N an20 (smL (ents20 N) 0 50) (loopOf 7 Tryd.f20)
theorem L0.r {α : Type} (N : Nat) (c0 : BA) (c1 : (List (BA × Int × Int))) (c2 : (List (BA × List (Int × Int) × List (Int × Int) × List (Int × Int) × Int))) (c3 : BA) (c4 : BA) (c5 : (List (BA × Int × Int))) (c6 : (List (BA × List (Int × Int) × List (Int × Int) × List (Int × Int) × Int))) (c7 : (List (BA × Int × Int))) (φ : Env → Option α) (K : Cont α) (d0 : Int) (d1 : (List (BA × List (Int × Int) × List (Int × Int) × List (Int × Int) × Int))) : L0.B N (L0.sh.enc (((), ((), ((), (d0, ())))), ((c0, (c1, (c2, ()))), ((c3, ((), ((), ()))), ((c4, ((), ((), ()))), (c5, (c6, (c7, (d1, ()))))))))) (contL φ K (Env.norm 0 [1, 2, 5, 6]) (Env.norm 0 [2, 5])) = L0.st N c0 c1 c2 c3 c4 c5 c6 c7 (fun e0 e1 => φ (L0.sh.enc (((), ((), ((), (e0, ())))), ((c0, (c1, (c2, ()))), ((c3, ((), ((), ()))), ((c4, ((), ((), ()))), (c5, (c6, (c7, (e1, ())))))))))) d0 d1 (fun y0 => K (Exit.exit 0) (L0.x0.enc (((), ((), ())), ((c3, ((), ((), ()))), ((c4, ((), ((), ()))), (c5, (c6, (c7, (y0, ()))))))))) := by kernel_rfl
theorem L0.e {α : Type} (N : Nat) (c0 : BA) (c1 : (List (BA × Int × Int))) (c2 : (List (BA × List (Int × Int) × List (Int × Int) × List (Int × Int) × Int))) (c3 : BA) (c4 : BA) (c5 : (List (BA × Int × Int))) (c6 : (List (BA × List (Int × Int) × List (Int × Int) × List (Int × Int) × Int))) (c7 : (List (BA × Int × Int))) : ∀ (n : Nat) (d0 : Int) (d1 : (List (BA × List (Int × Int) × List (Int × Int) × List (Int × Int) × Int))) (K : Cont α), evL (L0.B N) (Env.norm 0 [1, 2, 5, 6]) (Env.norm 0 [2, 5]) n (L0.sh.enc (((), ((), ((), (d0, ())))), ((c0, (c1, (c2, ()))), ((c3, ((), ((), ()))), ((c4, ((), ((), ()))), (c5, (c6, (c7, (d1, ()))))))))) K = L0.f N c0 c1 c2 c3 c4 c5 c6 c7 n d0 d1 (fun y0 => K (Exit.exit 0) (L0.x0.enc (((), ((), ())), ((c3, ((), ((), ()))), ((c4, ((), ((), ()))), (c5, (c6, (c7, (y0, ())))))))))
 | 0, d0, d1, K => rfl
 | n + 1, d0, d1, K => evL_contL.trans ((L0.r N c0 c1 c2 c3 c4 c5 c6 c7 (fun e => evL (L0.B N) (Env.norm 0 [1, 2, 5, 6]) (Env.norm 0 [2, 5]) n e K) K d0 d1).trans (congrArg (fun φ => L0.st N c0 c1 c2 c3 c4 c5 c6 c7 φ d0 d1 (fun y0 => K (Exit.exit 0) (L0.x0.enc (((), ((), ())), ((c3, ((), ((), ()))), ((c4, ((), ((), ()))), (c5, (c6, (c7, (y0, ())))))))))) (funext fun e0 => funext fun e1 => L0.e N c0 c1 c2 c3 c4 c5 c6 c7 n e0 e1 K)))
theorem ents20_ok {α : Type} (N : Nat) : AllP (EntOk (C N) Tryd.f20 an20 (ents20 (α := α) N)) (ents20 N) := ⟨entOk_of (b0 := loopOf 7 Tryd.f20) (li0 := [1, 2, 5, 6]) (lx0 := [2, 5]) (by kernel_rfl) (by kernel_rfl) ⟨fun d K => L0.e N d.2.1.1 d.2.1.2.1 d.2.1.2.2.1 d.2.2.1.1 d.2.2.2.1.1 d.2.2.2.2.1 d.2.2.2.2.2.1 d.2.2.2.2.2.2.1 N d.1.2.2.2.1 d.2.2.2.2.2.2.2.1 K, trivial⟩, trivial⟩
def g {α : Type} (N : Nat) (a0 : BA × List (BA × Int × Int) × List (BA × List (Int × Int) × List (Int × Int) × List (Int × Int) × Int)) (kr : ((BA × List (BA × Int × Int) × List (BA × List (Int × Int) × List (Int × Int) × List (Int × Int) × Int)) → Int → Option α)) : Option α :=
 cond (pf12_plain.spec (a0.fst, a0.snd.fst, a0.snd.snd) != 0) (kr (((ByteArray.mk (#[])), [], [])) (pf12_plain.spec (a0.fst, a0.snd.fst, a0.snd.snd))) (cond ((List.length a0.snd.fst).ble mxl) (L0.f N (a0.fst) (a0.snd.fst) (a0.snd.snd) ((ByteArray.mk (#[]))) (a0.fst) ([]) ([]) (a0.snd.fst) N (0) ([]) (fun x10 => kr ((a0.fst, a0.snd.fst, x10)) (0))) (none))
theorem eq (N : Nat) (a0 : BA × List (BA × Int × Int) × List (BA × List (Int × Int) × List (Int × Int) × List (Int × Int) × Int)) : evF (C N) 50 Tryd.f20 an20 (smL (ents20 N) 0 50) [((.st (.pr (.str) (.pr (.sl (.st (.pr (.str) (.pr (.int .i64) (.int .i64))))) (.sl (.st (.pr (.str) (.pr (.sl (.st (.pr (.int .i64) (.int .i64)))) (.pr (.sl (.st (.pr (.int .i64) (.int .i64)))) (.pr (.sl (.st (.pr (.int .i64) (.int .i64)))) (.int .i64))))))))) : K), false), ((.int .i64 : K), false)] [⟨.st (.pr (.str) (.pr (.sl (.st (.pr (.str) (.pr (.int .i64) (.int .i64))))) (.sl (.st (.pr (.str) (.pr (.sl (.st (.pr (.int .i64) (.int .i64)))) (.pr (.sl (.st (.pr (.int .i64) (.int .i64)))) (.pr (.sl (.st (.pr (.int .i64) (.int .i64)))) (.int .i64))))))))), a0⟩] = g N a0 (fun r0 r1 => some [.dat ((K.str.pr ((K.str.pr ((K.int IntKind.i64).pr (K.int IntKind.i64))).st.sl.pr (K.str.pr (((K.int IntKind.i64).pr (K.int IntKind.i64)).st.sl.pr (((K.int IntKind.i64).pr (K.int IntKind.i64)).st.sl.pr (((K.int IntKind.i64).pr (K.int IntKind.i64)).st.sl.pr (K.int IntKind.i64))))).st.sl)).st) r0, .dat (K.int IntKind.i64) r1]) := by kernel_rfl
theorem ctxOk (N : Nat) : CtxOk P (C N) := ctxOk_of tysOk mixedOk ⟨pf12_plain.ok, pf12_copied.ok, trivial⟩ trivial
theorem calls (N : Nat) (a0 : BA × List (BA × Int × Int) × List (BA × List (Int × Int) × List (Int × Int) × List (Int × Int) × Int)) {rs : List Rs} (h : g N a0 (fun r0 r1 => some [.dat ((K.str.pr ((K.str.pr ((K.int IntKind.i64).pr (K.int IntKind.i64))).st.sl.pr (K.str.pr (((K.int IntKind.i64).pr (K.int IntKind.i64)).st.sl.pr (((K.int IntKind.i64).pr (K.int IntKind.i64)).st.sl.pr (((K.int IntKind.i64).pr (K.int IntKind.i64)).st.sl.pr (K.int IntKind.i64))))).st.sl)).st) r0, .dat (K.int IntKind.i64) r1]) = some rs) : CallsTo P 20 [⟨.st (.pr (.str) (.pr (.sl (.st (.pr (.str) (.pr (.int .i64) (.int .i64))))) (.sl (.st (.pr (.str) (.pr (.sl (.st (.pr (.int .i64) (.int .i64)))) (.pr (.sl (.st (.pr (.int .i64) (.int .i64)))) (.pr (.sl (.st (.pr (.int .i64) (.int .i64)))) (.int .i64))))))))), a0⟩] rs := evF_calls' (ctxOk N) (by rfl) (ents20_ok N) ((eq N a0).trans h)
def L0.l {α : Type} (N : Nat) (x1 : BA) (x2 : (List (BA × Int × Int))) (x3 : (List (BA × List (Int × Int) × List (Int × Int) × List (Int × Int) × Int))) (x4 : BA) (x5 : BA) (x6 : (List (BA × Int × Int))) (x7 : (List (BA × List (Int × Int) × List (Int × Int) × List (Int × Int) × Int))) (x8 : (List (BA × Int × Int))) (k0 : ((List (BA × List (Int × Int) × List (Int × Int) × List (Int × Int) × Int)) → Option α)) : List (BA × List (Int × Int) × List (Int × Int) × List (Int × Int) × Int) → Int → (List (BA × List (Int × Int) × List (Int × Int) × List (Int × Int) × Int)) → Option α
 | [], x0, x9 => k0 (x9)
 | x :: l, x0, x9 => (cond (pf12_copied.pre x.snd.snd.fst) (cond (pf12_copied.pre x.snd.fst) (cond ((x9.length + 1).ble mxl) (cond (pf12_copied.pre x.snd.snd.fst) (cond (pf12_copied.pre x.snd.fst) (cond ((x9.length + 1).ble mxl) (L0.l N x1 x2 x3 x4 x5 x6 x7 x8 k0 l (x0 + 1) (x9 ++ [(x.fst, pf12_copied.spec x.snd.snd.fst, pf12_copied.spec x.snd.fst, [], 0)])) (none)) (none)) (none)) (none)) (none)) (none))
theorem L0.rng {α : Type} {N : Nat} (x1 : BA) (x2 : (List (BA × Int × Int))) (x3 : (List (BA × List (Int × Int) × List (Int × Int) × List (Int × Int) × Int))) (x4 : BA) (x5 : BA) (x6 : (List (BA × Int × Int))) (x7 : (List (BA × List (Int × Int) × List (Int × Int) × List (Int × Int) × Int))) (x8 : (List (BA × Int × Int))) (hl : x3.length ≤ maxLen) (k0 : ((List (BA × List (Int × Int) × List (Int × Int) × List (Int × Int) × Int)) → Option α)) : ∀ (n j : Nat) (x9 : (List (BA × List (Int × Int) × List (Int × Int) × List (Int × Int) × Int))), x3.length < n + j → j ≤ x3.length → L0.f N x1 x2 x3 x4 x5 x6 x7 x8 n (j : Int) x9 k0 = L0.l N x1 x2 x3 x4 x5 x6 x7 x8 k0 (x3.drop j) (j : Int) x9
 | 0, j, x9, h, hj => absurd h (by omega)
 | n + 1, j, x9, h, hj => by
  by_cases hlt : j < x3.length
  ·
   have e1 : decide ((j : Int) < (x3.length : Int)) = true := decide_eq_true (Int.ofNat_lt.2 hlt)
   have e2 : decide ((0 : Int) ≤ (j : Int)) = true := decide_eq_true (Int.natCast_nonneg j)
   have e3 : ∀ z, x3.getD (Int.toNat (j : Int)) z = x3[j] := fun z => by rw [Int.toNat_natCast]; exact (List.getElem_eq_getD z).symm
   have e3' : ∀ z, x3.getD (0 + Int.toNat (j : Int)) z = x3[j] := fun z => by rw [Nat.zero_add]; exact e3 z
   have e4 : IntKind.i64.wrap ((j : Int) + 1) = (j : Int) + 1 := wrap_next hlt hl
   have ih : ∀ (x9 : (List (BA × List (Int × Int) × List (Int × Int) × List (Int × Int) × Int))), L0.f N x1 x2 x3 x4 x5 x6 x7 x8 n ((j : Int) + 1) x9 k0 = L0.l N x1 x2 x3 x4 x5 x6 x7 x8 k0 (x3.drop (j + 1)) ((j : Int) + 1) x9 := fun x9 => L0.rng x1 x2 x3 x4 x5 x6 x7 x8 hl k0 n (j + 1) x9 (by omega) (by omega)
   rw [List.drop_eq_getElem_cons hlt]
   first
    | (simp only [L0.f, L0.st, L0.l, e1, e2, e3, e3', e4, Bool.true_and, Bool.and_true, Bool.and_self, cond_true, ih]; done)
    | (simp only [L0.f, L0.st, L0.l, e1, e2, e3, e3', e4, Bool.true_and, Bool.and_true, Bool.and_self, cond_true, ih]; rfl)
  ·
   have e1 : decide ((j : Int) < (x3.length : Int)) = false := decide_eq_false (fun hc => hlt (Int.ofNat_lt.1 hc))
   rw [List.drop_eq_nil_of_le (by omega)]
   simp only [L0.f, L0.st, L0.l, e1, cond_false]
end pf12_Reverse
theorem pf12_Reverse.L0.law {α : Type} {N : Nat} (x1 : BA) (x2 : (List (BA × Int × Int))) (x3 : (List (BA × List (Int × Int) × List (Int × Int) × List (Int × Int) × Int))) (x4 : BA) (x5 : BA) (x6 : (List (BA × Int × Int))) (x7 : (List (BA × List (Int × Int) × List (Int × Int) × List (Int × Int) × Int))) (x8 : (List (BA × Int × Int))) (k0 : ((List (BA × List (Int × Int) × List (Int × Int) × List (Int × Int) × Int)) → Option α)) : ∀ (l : List TransT) (j : Int) (acc : List TransT), acc.length + l.length ≤ 1000 → (∀ t ∈ l, BigT t) → (∀ t ∈ l, t.2.2.2.1 = [] ∧ t.2.2.2.2 = 0) → pf12_Reverse.L0.l N x1 x2 x3 x4 x5 x6 x7 x8 k0 l j acc = k0 (acc ++ l.map revT)
 | [], j, acc, _, h, _ => by rw [pf12_Reverse.L0.l, List.map_nil, List.append_nil]
 | x :: l, j, acc, h0, h, hz => by
  simp only [List.length_cons] at h0
  obtain ⟨h1, h2, h3⟩ := h x (by simp)
  obtain ⟨z1, z2⟩ := hz x (by simp)
  rw [pf12_Reverse.L0.l]
  simp only [pf12_copied.pre, h1, h2, h3, cond_true]
  rw [ble1 _ (by omega)]
  simp only [cond_true]
  rw [pf12_Reverse.L0.law _ _ _ _ _ _ _ _ _ l _ _ (by simp; omega) (fun t ht => h t (by simp [ht])) (fun t ht => hz t (by simp [ht])), List.append_assoc, List.map_cons]
  rw [show revT x = (x.1, x.2.2.1, x.2.1, [], 0) by unfold revT; rw [z1, z2]]
  rfl
theorem pf12_Reverse.law {α : Type} {N : Nat} (hN : 18446744073709551616 ≤ N) (a0 : BA × (List (BA × Int × Int)) × List (BA × (List (Int × Int)) × (List (Int × Int)) × (List (Int × Int)) × Int)) (w0 : K.wf (.st (.pr (.str) (.pr (.sl (.st (.pr (.str) (.pr (.int .i64) (.int .i64))))) (.sl (.st (.pr (.str) (.pr (.sl (.st (.pr (.int .i64) (.int .i64)))) (.pr (.sl (.st (.pr (.int .i64) (.int .i64)))) (.pr (.sl (.st (.pr (.int .i64) (.int .i64)))) (.int .i64)))))))))) a0) (kr : ((BA × (List (BA × Int × Int)) × List (BA × (List (Int × Int)) × (List (Int × Int)) × (List (Int × Int)) × Int)) → Int → Option α)) : pf12_Reverse.g N a0 kr = kr (pf12_Reverse.spec a0).1 (pf12_Reverse.spec a0).2 := by
 unfold pf12_Reverse.g pf12_Reverse.spec revE
 simp only [pf12_plain.spec, bne]
 rw [show plainE (a0.1, a0.2.1, a0.2.2) = plainE a0 from rfl]
 unfold plainE
 cases hc : (checkN a0).1 == 0
 ·
  simp only [cond_false]
  rw [hc]
  rfl
 simp only [cond_true]
 cases hq : plainN a0
 ·
  rfl
 have hv := plainN_valid hq
 have hnp := hv.np
 have hnt := hv.nt
 simp only [cond_true]
 rw [show (!((0 : Int) == 0)) = false from rfl, cond_false, ble0 (by omega), cond_true]
 refine (pf12_Reverse.L0.rng (N := N) _ _ _ _ _ _ _ _ (w0.2.2.1) _ N 0 _ (by have := le_fuel (w0.2.2.1) hN; omega) (Nat.zero_le _)).trans ?_
 refine (pf12_Reverse.L0.law _ _ _ _ _ _ _ _ _ _ _ _ (by simp; omega) (by simpa using hv.big) (by simpa using (plainN_iff.1 hq).1)).trans ?_
 rfl
theorem pf12_Reverse.ok : FentOk P 20 pf12_Reverse.fent := fentOk_of (by kernel_rfl) fun ds hk => by
 obtain ⟨a0, l0, rfl, h0⟩ := ds_cons hk
 obtain rfl := ds0 h0
 exact ⟨true, [.dat (.st (.pr (.str) (.pr (.sl (.st (.pr (.str) (.pr (.int .i64) (.int .i64))))) (.sl (.st (.pr (.str) (.pr (.sl (.st (.pr (.int .i64) (.int .i64)))) (.pr (.sl (.st (.pr (.int .i64) (.int .i64)))) (.pr (.sl (.st (.pr (.int .i64) (.int .i64)))) (.int .i64)))))))))) (pf12_Reverse.spec a0).1, .dat (.int .i64) (pf12_Reverse.spec a0).2], fun h hw => pf12_Reverse.calls 18446744073709551616 a0 (pf12_Reverse.law (Nat.le_refl _) a0 hw.1 _), fun α k => rfl⟩
end Go.VI
namespace Go.VI
open Go Go.Proofs
namespace pf09_Weight
def an43 : Ann := [(2, [0, 1, 5], [4])]
def L0.sh : Sh := { sl := [(0, SV.a (SA.d ((K.int IntKind.i64).pr (K.int IntKind.i64)).st.sl)), (1, SV.a (SA.d (K.int IntKind.i64))), (5, SV.a (SA.d (K.int IntKind.i64)))], os := [], nx := 0 }
def L0.x0 : Sh := { sl := [(4, SV.a (SA.d (K.int IntKind.i64)))], os := [], nx := 0 }
def L0.x1 : Sh := { sl := [(4, SV.j)], os := [], nx := 0 }
def L0.st {α : Type} (N : Nat) (x0 : (List (Int × Int))) (x1 : Int) (φ : (Int → Option α)) (x2 : Int) (k0 : (Int → Option α)) (k1 : Option α) : Option α :=
 cond (decide (x2 < (↑x0.length : Int))) (cond (decide (0 ≤ x2) && decide (x2 < (↑x0.length : Int))) (cond ((x0.getD x2.toNat ((0 : Int), (0 : Int))).fst == x1) (cond (decide (0 ≤ x2) && decide (x2 < (↑x0.length : Int))) (k0 ((x0.getD x2.toNat ((0 : Int), (0 : Int))).snd)) (none)) (φ (IntKind.i64.wrap (x2 + 1)))) (none)) (k1 )
def L0.f {α : Type} (N : Nat) (c0 : (List (Int × Int))) (c1 : Int) : Nat → Int → (Int → Option α) → Option α → Option α
 | 0, _, _, _ => none
 | n + 1, d0, k0, k1 => L0.st N c0 c1 (fun e0 => L0.f N c0 c1 n e0 k0 k1) d0 k0 k1
def L0.F {α : Type} (N : Nat) (d : L0.sh.T) (K : Cont α) : Option α := L0.f N d.1.1 d.1.2.1 N d.1.2.2.1 (fun y0 => K (Exit.ret) (L0.x0.enc ((y0, ()), ()))) (K (Exit.exit 0) (L0.x1.enc (((), ()), ())))
def ents43 {α : Type} (N : Nat) : List (SmE α) := [⟨0, 50, 2, [⟨L0.sh, L0.F N⟩]⟩]
def C (N : Nat) : Ctx := ⟨tys, [], [], N⟩
def L0.B {α : Type} (N : Nat) : Env → Cont α → Option α := evC tys 24 0 (evCall (C N) 50) (evCallQ (C N)) N an43 (smL (ents43 N) 0 50) (loopOf 2 Tryd.f43)
theorem L0.r {α : Type} (N : Nat) (c0 : (List (Int × Int))) (c1 : Int) (φ : Env → Option α) (K : Cont α) (d0 : Int) : L0.B N (L0.sh.enc ((c0, (c1, (d0, ()))), ())) (contL φ K (Env.norm 0 [0, 1, 5]) (Env.norm 0 [4])) = L0.st N c0 c1 (fun e0 => φ (L0.sh.enc ((c0, (c1, (e0, ()))), ()))) d0 (fun y0 => K (Exit.ret) (L0.x0.enc ((y0, ()), ()))) (K (Exit.exit 0) (L0.x1.enc (((), ()), ()))) := by kernel_rfl
theorem L0.e {α : Type} (N : Nat) (c0 : (List (Int × Int))) (c1 : Int) : ∀ (n : Nat) (d0 : Int) (K : Cont α), evL (L0.B N) (Env.norm 0 [0, 1, 5]) (Env.norm 0 [4]) n (L0.sh.enc ((c0, (c1, (d0, ()))), ())) K = L0.f N c0 c1 n d0 (fun y0 => K (Exit.ret) (L0.x0.enc ((y0, ()), ()))) (K (Exit.exit 0) (L0.x1.enc (((), ()), ())))
 | 0, d0, K => rfl
 | n + 1, d0, K => evL_contL.trans ((L0.r N c0 c1 (fun e => evL (L0.B N) (Env.norm 0 [0, 1, 5]) (Env.norm 0 [4]) n e K) K d0).trans (congrArg (fun φ => L0.st N c0 c1 φ d0 (fun y0 => K (Exit.ret) (L0.x0.enc ((y0, ()), ()))) (K (Exit.exit 0) (L0.x1.enc (((), ()), ())))) (funext fun e0 => L0.e N c0 c1 n e0 K)))
theorem ents43_ok {α : Type} (N : Nat) : AllP (EntOk (C N) Tryd.f43 an43 (ents43 (α := α) N)) (ents43 N) := ⟨entOk_of (b0 := loopOf 2 Tryd.f43) (li0 := [0, 1, 5]) (lx0 := [4]) (by kernel_rfl) (by kernel_rfl) ⟨fun d K => L0.e N d.1.1 d.1.2.1 N d.1.2.2.1 K, trivial⟩, trivial⟩
def g {α : Type} (N : Nat) (a0 : List (Int × Int)) (a1 : Int) (kr : (Int → Option α)) : Option α :=
 L0.f N (a0) (a1) N (0) (fun x3 => kr (x3)) (kr (0))
theorem eq (N : Nat) (a0 : List (Int × Int)) (a1 : Int) : evF (C N) 50 Tryd.f43 an43 (smL (ents43 N) 0 50) [((.int .i64 : K), false)] [⟨.sl (.st (.pr (.int .i64) (.int .i64))), a0⟩, ⟨.int .i64, a1⟩] = g N a0 a1 (fun r0 => some [.dat (K.int IntKind.i64) r0]) := by kernel_rfl
theorem ctxOk (N : Nat) : CtxOk P (C N) := ctxOk_of tysOk mixedOk trivial trivial
theorem calls (N : Nat) (a0 : List (Int × Int)) (a1 : Int) {rs : List Rs} (h : g N a0 a1 (fun r0 => some [.dat (K.int IntKind.i64) r0]) = some rs) : CallsTo P 43 [⟨.sl (.st (.pr (.int .i64) (.int .i64))), a0⟩, ⟨.int .i64, a1⟩] rs := evF_calls' (ctxOk N) (by rfl) (ents43_ok N) ((eq N a0 a1).trans h)
def L0.l {α : Type} (N : Nat) (x0 : (List (Int × Int))) (x1 : Int) (k0 : (Int → Option α)) (k1 : Option α) : List (Int × Int) → Int → Option α
 | [], x2 => k1 
 | x :: l, x2 => (cond (x.fst == x1) ((k0 (x.snd))) (L0.l N x0 x1 k0 k1 l (x2 + 1)))
theorem L0.rng {α : Type} {N : Nat} (x0 : (List (Int × Int))) (x1 : Int) (hl : x0.length ≤ maxLen) (k0 : (Int → Option α)) (k1 : Option α) : ∀ (n j : Nat), x0.length < n + j → j ≤ x0.length → L0.f N x0 x1 n (j : Int) k0 k1 = L0.l N x0 x1 k0 k1 (x0.drop j) (j : Int)
 | 0, j, h, hj => absurd h (by omega)
 | n + 1, j, h, hj => by
  by_cases hlt : j < x0.length
  ·
   have e1 : decide ((j : Int) < (x0.length : Int)) = true := decide_eq_true (Int.ofNat_lt.2 hlt)
   have e2 : decide ((0 : Int) ≤ (j : Int)) = true := decide_eq_true (Int.natCast_nonneg j)
   have e3 : ∀ z, x0.getD (Int.toNat (j : Int)) z = x0[j] := fun z => by rw [Int.toNat_natCast]; exact (List.getElem_eq_getD z).symm
   have e3' : ∀ z, x0.getD (0 + Int.toNat (j : Int)) z = x0[j] := fun z => by rw [Nat.zero_add]; exact e3 z
   have e4 : IntKind.i64.wrap ((j : Int) + 1) = (j : Int) + 1 := wrap_next hlt hl
   have ih : ∀ (_ : Unit), L0.f N x0 x1 n ((j : Int) + 1) k0 k1 = L0.l N x0 x1 k0 k1 (x0.drop (j + 1)) ((j : Int) + 1) := fun _ => L0.rng x0 x1 hl k0 k1 n (j + 1) (by omega) (by omega)
   rw [List.drop_eq_getElem_cons hlt]
   replace ih := ih ()
   first
    | (simp only [L0.f, L0.st, L0.l, e1, e2, e3, e3', e4, Bool.true_and, Bool.and_true, Bool.and_self, cond_true, ih]; done)
    | (simp only [L0.f, L0.st, L0.l, e1, e2, e3, e3', e4, Bool.true_and, Bool.and_true, Bool.and_self, cond_true, ih]; rfl)
  ·
   have e1 : decide ((j : Int) < (x0.length : Int)) = false := decide_eq_false (fun hc => hlt (Int.ofNat_lt.1 hc))
   rw [List.drop_eq_nil_of_le (by omega)]
   simp only [L0.f, L0.st, L0.l, e1, cond_false]
end pf09_Weight
theorem pf09_Weight.L0.law {α : Type} {N : Nat} (p : Int) (xs : List (Int × Int)) (k0 : Int → Option α) : ∀ (l : List (Int × Int)) (i : Int),
  pf09_Weight.L0.l N xs p k0 (k0 0) l i = k0 (weightS l p)
 | [], i => rfl
 | x :: l, i => by
  rw [pf09_Weight.L0.l, pf09_Weight.L0.law p xs k0 l, weightS]
  cases x.1 == p <;> rfl
theorem pf09_Weight.law {α : Type} {N : Nat} (hN : 18446744073709551616 ≤ N) (a0 : List (Int × Int)) (a1 : Int) (w0 : K.wf (.sl (.st (.pr (.int .i64) (.int .i64)))) a0) (w1 : K.wf (.int .i64) a1) (kr : (Int → Option α)) : pf09_Weight.g N a0 a1 kr = kr (pf09_Weight.spec a0 a1) := by
 unfold pf09_Weight.g pf09_Weight.spec
 refine (pf09_Weight.L0.rng (N := N) a0 a1 w0.1 (fun x => kr x) (kr 0) N 0 (by have := le_fuel w0.1 hN; omega) (Nat.zero_le _)).trans ?_
 rw [List.drop_zero]
 exact pf09_Weight.L0.law a1 a0 (fun x => kr x) a0 0
theorem pf09_Weight.ok : FentOk P 43 pf09_Weight.fent := fentOk_of (by kernel_rfl) fun ds hk => by
 obtain ⟨a0, l0, rfl, h0⟩ := ds_cons hk
 obtain ⟨a1, l1, rfl, h1⟩ := ds_cons h0
 obtain rfl := ds0 h1
 exact ⟨true, [.dat (.int .i64) (pf09_Weight.spec a0 a1)], fun h hw => pf09_Weight.calls 18446744073709551616 a0 a1 (pf09_Weight.law (Nat.le_refl _) a0 a1 hw.1 hw.2.1 _), fun α k => rfl⟩
end Go.VI
namespace Go.VI
open Go Go.Proofs
namespace pf12_Dual
def an22 : Ann := [(8, [1, 2, 5, 6], [1, 2, 5]), (12, [1, 2, 5, 7], [2, 5]), (16, [1, 2, 5, 7, 8, 9], [1, 2, 5, 7, 8])]
def L0.sh : Sh := { sl := [(1, SV.a (SA.fx (Atom.box 0 0))), (2, SV.a (SA.fx (Atom.box 1 0))), (5, SV.a (SA.fx (Atom.box 2 0))), (6, SV.a (SA.d (K.int IntKind.i64)))], os := [(0, SO.box [SA.d K.str, SA.d (K.str.pr ((K.int IntKind.i64).pr (K.int IntKind.i64))).st.sl, SA.d (K.str.pr (((K.int IntKind.i64).pr (K.int IntKind.i64)).st.sl.pr (((K.int IntKind.i64).pr (K.int IntKind.i64)).st.sl.pr (((K.int IntKind.i64).pr (K.int IntKind.i64)).st.sl.pr (K.int IntKind.i64))))).st.sl]), (1, SO.box [SA.d K.str, SA.fx (Atom.sl 3 0 none), SA.fx (Atom.sl 4 0 none)]), (2, SO.box [SA.d K.str, SA.fx (Atom.sl 5 0 none), SA.fx (Atom.sl 6 0 none)]), (3, SO.row (K.str.pr ((K.int IntKind.i64).pr (K.int IntKind.i64))).st 0), (4, SO.row (K.str.pr (((K.int IntKind.i64).pr (K.int IntKind.i64)).st.sl.pr (((K.int IntKind.i64).pr (K.int IntKind.i64)).st.sl.pr (((K.int IntKind.i64).pr (K.int IntKind.i64)).st.sl.pr (K.int IntKind.i64))))).st 0), (5, SO.row (K.str.pr ((K.int IntKind.i64).pr (K.int IntKind.i64))).st 0), (6, SO.row (K.str.pr (((K.int IntKind.i64).pr (K.int IntKind.i64)).st.sl.pr (((K.int IntKind.i64).pr (K.int IntKind.i64)).st.sl.pr (((K.int IntKind.i64).pr (K.int IntKind.i64)).st.sl.pr (K.int IntKind.i64))))).st 0)], nx := 7 }
def L0.x0 : Sh := { sl := [(1, SV.a (SA.fx (Atom.box 0 0))), (2, SV.a (SA.fx (Atom.box 1 0))), (5, SV.a (SA.fx (Atom.box 2 0)))], os := [(0, SO.box [SA.d K.str, SA.d (K.str.pr ((K.int IntKind.i64).pr (K.int IntKind.i64))).st.sl, SA.d (K.str.pr (((K.int IntKind.i64).pr (K.int IntKind.i64)).st.sl.pr (((K.int IntKind.i64).pr (K.int IntKind.i64)).st.sl.pr (((K.int IntKind.i64).pr (K.int IntKind.i64)).st.sl.pr (K.int IntKind.i64))))).st.sl]), (1, SO.box [SA.d K.str, SA.fx (Atom.sl 3 0 none), SA.fx (Atom.sl 4 0 none)]), (2, SO.box [SA.d K.str, SA.fx (Atom.sl 5 0 none), SA.fx (Atom.sl 6 0 none)]), (3, SO.row (K.str.pr ((K.int IntKind.i64).pr (K.int IntKind.i64))).st 0), (4, SO.row (K.str.pr (((K.int IntKind.i64).pr (K.int IntKind.i64)).st.sl.pr (((K.int IntKind.i64).pr (K.int IntKind.i64)).st.sl.pr (((K.int IntKind.i64).pr (K.int IntKind.i64)).st.sl.pr (K.int IntKind.i64))))).st 0), (5, SO.row (K.str.pr ((K.int IntKind.i64).pr (K.int IntKind.i64))).st 0), (6, SO.row (K.str.pr (((K.int IntKind.i64).pr (K.int IntKind.i64)).st.sl.pr (((K.int IntKind.i64).pr (K.int IntKind.i64)).st.sl.pr (((K.int IntKind.i64).pr (K.int IntKind.i64)).st.sl.pr (K.int IntKind.i64))))).st 0)], nx := 7 }
def L0.st {α : Type} (N : Nat) (x1 : BA) (x2 : (List (BA × Int × Int))) (x3 : (List (BA × List (Int × Int) × List (Int × Int) × List (Int × Int) × Int))) (x4 : BA) (x5 : BA) (x6 : (List (BA × Int × Int))) (x7 : (List (BA × List (Int × Int) × List (Int × Int) × List (Int × Int) × Int))) (x9 : (List (BA × List (Int × Int) × List (Int × Int) × List (Int × Int) × Int))) (φ : (Int → (List (BA × Int × Int)) → Option α)) (x0 : Int) (x8 : (List (BA × Int × Int))) (k0 : ((List (BA × Int × Int)) → Option α)) : Option α :=
 cond (decide (x0 < (↑x3.length : Int))) (cond (decide (0 ≤ x0) && decide (x0 < (↑x3.length : Int))) (cond ((x8.length + 1).ble mxl) (φ (IntKind.i64.wrap (x0 + 1)) (x8 ++ [((x3.getD x0.toNat (eBA, [], [], [], 0)).fst, 0, 0)])) (none)) (none)) (k0 (x8))
def L0.f {α : Type} (N : Nat) (c0 : BA) (c1 : (List (BA × Int × Int))) (c2 : (List (BA × List (Int × Int) × List (Int × Int) × List (Int × Int) × Int))) (c3 : BA) (c4 : BA) (c5 : (List (BA × Int × Int))) (c6 : (List (BA × List (Int × Int) × List (Int × Int) × List (Int × Int) × Int))) (c7 : (List (BA × List (Int × Int) × List (Int × Int) × List (Int × Int) × Int))) : Nat → Int → (List (BA × Int × Int)) → ((List (BA × Int × Int)) → Option α) → Option α
 | 0, _, _, _ => none
 | n + 1, d0, d1, k0 => L0.st N c0 c1 c2 c3 c4 c5 c6 c7 (fun e0 e1 => L0.f N c0 c1 c2 c3 c4 c5 c6 c7 n e0 e1 k0) d0 d1 k0
def L0.F {α : Type} (N : Nat) (d : L0.sh.T) (K : Cont α) : Option α := L0.f N d.2.1.1 d.2.1.2.1 d.2.1.2.2.1 d.2.2.1.1 d.2.2.2.1.1 d.2.2.2.2.1 d.2.2.2.2.2.1 d.2.2.2.2.2.2.2.1 N d.1.2.2.2.1 d.2.2.2.2.2.2.1 (fun y0 => K (Exit.exit 0) (L0.x0.enc (((), ((), ((), ()))), ((d.2.1.1, (d.2.1.2.1, (d.2.1.2.2.1, ()))), ((d.2.2.1.1, ((), ((), ()))), ((d.2.2.2.1.1, ((), ((), ()))), (d.2.2.2.2.1, (d.2.2.2.2.2.1, (y0, (d.2.2.2.2.2.2.2.1, ()))))))))))
def L1.sh : Sh := { sl := [(1, SV.a (SA.fx (Atom.box 0 0))), (2, SV.a (SA.fx (Atom.box 1 0))), (5, SV.a (SA.fx (Atom.box 2 0))), (7, SV.a (SA.d (K.int IntKind.i64))), (8, SV.a (SA.fx (Atom.box 3 0))), (9, SV.a (SA.d (K.int IntKind.i64)))], os := [(0, SO.box [SA.d K.str, SA.d (K.str.pr ((K.int IntKind.i64).pr (K.int IntKind.i64))).st.sl, SA.d (K.str.pr (((K.int IntKind.i64).pr (K.int IntKind.i64)).st.sl.pr (((K.int IntKind.i64).pr (K.int IntKind.i64)).st.sl.pr (((K.int IntKind.i64).pr (K.int IntKind.i64)).st.sl.pr (K.int IntKind.i64))))).st.sl]), (1, SO.box [SA.d K.str, SA.fx (Atom.sl 4 0 none), SA.fx (Atom.sl 5 0 none)]), (2, SO.box [SA.d K.str, SA.fx (Atom.sl 6 0 none), SA.fx (Atom.sl 7 0 none)]), (3, SO.box [SA.d K.str, SA.fx (Atom.sl 8 0 none), SA.fx (Atom.sl 9 0 none), SA.fx (Atom.sl 10 0 none), SA.d (K.int IntKind.i64)]), (4, SO.row (K.str.pr ((K.int IntKind.i64).pr (K.int IntKind.i64))).st 0), (5, SO.row (K.str.pr (((K.int IntKind.i64).pr (K.int IntKind.i64)).st.sl.pr (((K.int IntKind.i64).pr (K.int IntKind.i64)).st.sl.pr (((K.int IntKind.i64).pr (K.int IntKind.i64)).st.sl.pr (K.int IntKind.i64))))).st 0), (6, SO.row (K.str.pr ((K.int IntKind.i64).pr (K.int IntKind.i64))).st 0), (7, SO.row (K.str.pr (((K.int IntKind.i64).pr (K.int IntKind.i64)).st.sl.pr (((K.int IntKind.i64).pr (K.int IntKind.i64)).st.sl.pr (((K.int IntKind.i64).pr (K.int IntKind.i64)).st.sl.pr (K.int IntKind.i64))))).st 0), (8, SO.row ((K.int IntKind.i64).pr (K.int IntKind.i64)).st 0), (9, SO.row ((K.int IntKind.i64).pr (K.int IntKind.i64)).st 0), (10, SO.row ((K.int IntKind.i64).pr (K.int IntKind.i64)).st 0)], nx := 11 }
def L1.x0 : Sh := { sl := [(1, SV.a (SA.fx (Atom.box 0 0))), (2, SV.a (SA.fx (Atom.box 1 0))), (5, SV.a (SA.fx (Atom.box 2 0))), (7, SV.a (SA.d (K.int IntKind.i64))), (8, SV.a (SA.fx (Atom.box 3 0)))], os := [(0, SO.box [SA.d K.str, SA.d (K.str.pr ((K.int IntKind.i64).pr (K.int IntKind.i64))).st.sl, SA.d (K.str.pr (((K.int IntKind.i64).pr (K.int IntKind.i64)).st.sl.pr (((K.int IntKind.i64).pr (K.int IntKind.i64)).st.sl.pr (((K.int IntKind.i64).pr (K.int IntKind.i64)).st.sl.pr (K.int IntKind.i64))))).st.sl]), (1, SO.box [SA.d K.str, SA.fx (Atom.sl 4 0 none), SA.fx (Atom.sl 5 0 none)]), (2, SO.box [SA.d K.str, SA.fx (Atom.sl 6 0 none), SA.fx (Atom.sl 7 0 none)]), (3, SO.box [SA.d K.str, SA.fx (Atom.sl 8 0 none), SA.fx (Atom.sl 9 0 none), SA.fx (Atom.sl 10 0 none), SA.d (K.int IntKind.i64)]), (4, SO.row (K.str.pr ((K.int IntKind.i64).pr (K.int IntKind.i64))).st 0), (5, SO.row (K.str.pr (((K.int IntKind.i64).pr (K.int IntKind.i64)).st.sl.pr (((K.int IntKind.i64).pr (K.int IntKind.i64)).st.sl.pr (((K.int IntKind.i64).pr (K.int IntKind.i64)).st.sl.pr (K.int IntKind.i64))))).st 0), (6, SO.row (K.str.pr ((K.int IntKind.i64).pr (K.int IntKind.i64))).st 0), (7, SO.row (K.str.pr (((K.int IntKind.i64).pr (K.int IntKind.i64)).st.sl.pr (((K.int IntKind.i64).pr (K.int IntKind.i64)).st.sl.pr (((K.int IntKind.i64).pr (K.int IntKind.i64)).st.sl.pr (K.int IntKind.i64))))).st 0), (8, SO.row ((K.int IntKind.i64).pr (K.int IntKind.i64)).st 0), (9, SO.row ((K.int IntKind.i64).pr (K.int IntKind.i64)).st 0), (10, SO.row ((K.int IntKind.i64).pr (K.int IntKind.i64)).st 0)], nx := 11 }
def L1.st {α : Type} (N : Nat) (x21 : Int) (x23 : BA) (x24 : (List (BA × Int × Int))) (x25 : (List (BA × List (Int × Int) × List (Int × Int) × List (Int × Int) × Int))) (x26 : BA) (x27 : BA) (x28 : BA) (x29 : Int) (x30 : (List (BA × Int × Int))) (x31 : (List (BA × List (Int × Int) × List (Int × Int) × List (Int × Int) × Int))) (x32 : (List (BA × Int × Int))) (x33 : (List (BA × List (Int × Int) × List (Int × Int) × List (Int × Int) × Int))) (x36 : (List (Int × Int))) (φ : (Int → (List (Int × Int)) → (List (Int × Int)) → Option α)) (x22 : Int) (x34 : (List (Int × Int))) (x35 : (List (Int × Int))) (k0 : ((List (Int × Int)) → (List (Int × Int)) → Option α)) : Option α :=
 cond (decide (x22 < (↑x25.length : Int))) (cond (decide (0 ≤ x22) && decide (x22 < (↑x25.length : Int))) (cond (decide (0 < pf09_Weight.spec (x25.getD x22.toNat (eBA, [], [], [], 0)).snd.snd.fst x21)) (cond ((x34.length + 1).ble mxl) (cond (decide (0 ≤ x22) && decide (x22 < (↑x25.length : Int))) (cond (decide (0 < pf09_Weight.spec (x25.getD x22.toNat (eBA, [], [], [], 0)).snd.fst x21)) (cond ((x35.length + 1).ble mxl) (φ (IntKind.i64.wrap (x22 + 1)) (x34 ++ [(x22, pf09_Weight.spec (x25.getD x22.toNat (eBA, [], [], [], 0)).snd.snd.fst x21)]) (x35 ++ [(x22, pf09_Weight.spec (x25.getD x22.toNat (eBA, [], [], [], 0)).snd.fst x21)])) (none)) (φ (IntKind.i64.wrap (x22 + 1)) (x34 ++ [(x22, pf09_Weight.spec (x25.getD x22.toNat (eBA, [], [], [], 0)).snd.snd.fst x21)]) (x35))) (none)) (none)) (cond (decide (0 ≤ x22) && decide (x22 < (↑x25.length : Int))) (cond (decide (0 < pf09_Weight.spec (x25.getD x22.toNat (eBA, [], [], [], 0)).snd.fst x21)) (cond ((x35.length + 1).ble mxl) (φ (IntKind.i64.wrap (x22 + 1)) (x34) (x35 ++ [(x22, pf09_Weight.spec (x25.getD x22.toNat (eBA, [], [], [], 0)).snd.fst x21)])) (none)) (φ (IntKind.i64.wrap (x22 + 1)) (x34) (x35))) (none))) (none)) (k0 (x34) (x35))
def L1.f {α : Type} (N : Nat) (c0 : Int) (c1 : BA) (c2 : (List (BA × Int × Int))) (c3 : (List (BA × List (Int × Int) × List (Int × Int) × List (Int × Int) × Int))) (c4 : BA) (c5 : BA) (c6 : BA) (c7 : Int) (c8 : (List (BA × Int × Int))) (c9 : (List (BA × List (Int × Int) × List (Int × Int) × List (Int × Int) × Int))) (c10 : (List (BA × Int × Int))) (c11 : (List (BA × List (Int × Int) × List (Int × Int) × List (Int × Int) × Int))) (c12 : (List (Int × Int))) : Nat → Int → (List (Int × Int)) → (List (Int × Int)) → ((List (Int × Int)) → (List (Int × Int)) → Option α) → Option α
 | 0, _, _, _, _ => none
 | n + 1, d0, d1, d2, k0 => L1.st N c0 c1 c2 c3 c4 c5 c6 c7 c8 c9 c10 c11 c12 (fun e0 e1 e2 => L1.f N c0 c1 c2 c3 c4 c5 c6 c7 c8 c9 c10 c11 c12 n e0 e1 e2 k0) d0 d1 d2 k0
def L1.F {α : Type} (N : Nat) (d : L1.sh.T) (K : Cont α) : Option α := L1.f N d.1.2.2.2.1 d.2.1.1 d.2.1.2.1 d.2.1.2.2.1 d.2.2.1.1 d.2.2.2.1.1 d.2.2.2.2.1.1 d.2.2.2.2.1.2.2.2.2.1 d.2.2.2.2.2.1 d.2.2.2.2.2.2.1 d.2.2.2.2.2.2.2.1 d.2.2.2.2.2.2.2.2.1 d.2.2.2.2.2.2.2.2.2.2.2.1 N d.1.2.2.2.2.2.1 d.2.2.2.2.2.2.2.2.2.1 d.2.2.2.2.2.2.2.2.2.2.1 (fun y0 y1 => K (Exit.exit 4) (L1.x0.enc (((), ((), ((), (d.1.2.2.2.1, ((), ()))))), ((d.2.1.1, (d.2.1.2.1, (d.2.1.2.2.1, ()))), ((d.2.2.1.1, ((), ((), ()))), ((d.2.2.2.1.1, ((), ((), ()))), ((d.2.2.2.2.1.1, ((), ((), ((), (d.2.2.2.2.1.2.2.2.2.1, ()))))), (d.2.2.2.2.2.1, (d.2.2.2.2.2.2.1, (d.2.2.2.2.2.2.2.1, (d.2.2.2.2.2.2.2.2.1, (y0, (y1, (d.2.2.2.2.2.2.2.2.2.2.2.1, ()))))))))))))))
def L2.sh : Sh := { sl := [(1, SV.a (SA.fx (Atom.box 0 0))), (2, SV.a (SA.fx (Atom.box 1 0))), (5, SV.a (SA.fx (Atom.box 2 0))), (7, SV.a (SA.d (K.int IntKind.i64)))], os := [(0, SO.box [SA.d K.str, SA.d (K.str.pr ((K.int IntKind.i64).pr (K.int IntKind.i64))).st.sl, SA.d (K.str.pr (((K.int IntKind.i64).pr (K.int IntKind.i64)).st.sl.pr (((K.int IntKind.i64).pr (K.int IntKind.i64)).st.sl.pr (((K.int IntKind.i64).pr (K.int IntKind.i64)).st.sl.pr (K.int IntKind.i64))))).st.sl]), (1, SO.box [SA.d K.str, SA.fx (Atom.sl 3 0 none), SA.fx (Atom.sl 4 0 none)]), (2, SO.box [SA.d K.str, SA.fx (Atom.sl 5 0 none), SA.fx (Atom.sl 6 0 none)]), (3, SO.row (K.str.pr ((K.int IntKind.i64).pr (K.int IntKind.i64))).st 0), (4, SO.row (K.str.pr (((K.int IntKind.i64).pr (K.int IntKind.i64)).st.sl.pr (((K.int IntKind.i64).pr (K.int IntKind.i64)).st.sl.pr (((K.int IntKind.i64).pr (K.int IntKind.i64)).st.sl.pr (K.int IntKind.i64))))).st 0), (5, SO.row (K.str.pr ((K.int IntKind.i64).pr (K.int IntKind.i64))).st 0), (6, SO.row (K.str.pr (((K.int IntKind.i64).pr (K.int IntKind.i64)).st.sl.pr (((K.int IntKind.i64).pr (K.int IntKind.i64)).st.sl.pr (((K.int IntKind.i64).pr (K.int IntKind.i64)).st.sl.pr (K.int IntKind.i64))))).st 0)], nx := 7 }
def L2.x0 : Sh := { sl := [(2, SV.a (SA.fx (Atom.box 0 0))), (5, SV.a (SA.fx (Atom.box 1 0)))], os := [(0, SO.box [SA.d K.str, SA.fx (Atom.sl 2 0 none), SA.fx (Atom.sl 3 0 none)]), (1, SO.box [SA.d K.str, SA.fx (Atom.sl 4 0 none), SA.fx (Atom.sl 5 0 none)]), (2, SO.row (K.str.pr ((K.int IntKind.i64).pr (K.int IntKind.i64))).st 0), (3, SO.row (K.str.pr (((K.int IntKind.i64).pr (K.int IntKind.i64)).st.sl.pr (((K.int IntKind.i64).pr (K.int IntKind.i64)).st.sl.pr (((K.int IntKind.i64).pr (K.int IntKind.i64)).st.sl.pr (K.int IntKind.i64))))).st 0), (4, SO.row (K.str.pr ((K.int IntKind.i64).pr (K.int IntKind.i64))).st 0), (5, SO.row (K.str.pr (((K.int IntKind.i64).pr (K.int IntKind.i64)).st.sl.pr (((K.int IntKind.i64).pr (K.int IntKind.i64)).st.sl.pr (((K.int IntKind.i64).pr (K.int IntKind.i64)).st.sl.pr (K.int IntKind.i64))))).st 0)], nx := 6 }
def L2.st {α : Type} (N : Nat) (x12 : BA) (x13 : (List (BA × Int × Int))) (x14 : (List (BA × List (Int × Int) × List (Int × Int) × List (Int × Int) × Int))) (x15 : BA) (x16 : BA) (x17 : (List (BA × Int × Int))) (x18 : (List (BA × List (Int × Int) × List (Int × Int) × List (Int × Int) × Int))) (x19 : (List (BA × Int × Int))) (φ : (Int → (List (BA × List (Int × Int) × List (Int × Int) × List (Int × Int) × Int)) → Option α)) (x11 : Int) (x20 : (List (BA × List (Int × Int) × List (Int × Int) × List (Int × Int) × Int))) (k0 : ((List (BA × List (Int × Int) × List (Int × Int) × List (Int × Int) × Int)) → Option α)) : Option α :=
 cond (decide (x11 < (↑x13.length : Int))) (cond (decide (0 ≤ x11) && decide (x11 < (↑x13.length : Int))) (L1.f N (x11) (x12) (x13) (x14) (x15) (x16) ((x13.getD x11.toNat (eBA, 0, 0)).fst) (0) (x17) (x18) (x19) (x20) ([]) N (0) ([]) ([]) (fun x37 x38 => cond ((x20.length + 1).ble mxl) (φ (IntKind.i64.wrap (x11 + 1)) (x20 ++ [((x13.getD x11.toNat (eBA, 0, 0)).fst, x37, x38, [], 0)])) (none))) (none)) (k0 (x20))
def L2.f {α : Type} (N : Nat) (c0 : BA) (c1 : (List (BA × Int × Int))) (c2 : (List (BA × List (Int × Int) × List (Int × Int) × List (Int × Int) × Int))) (c3 : BA) (c4 : BA) (c5 : (List (BA × Int × Int))) (c6 : (List (BA × List (Int × Int) × List (Int × Int) × List (Int × Int) × Int))) (c7 : (List (BA × Int × Int))) : Nat → Int → (List (BA × List (Int × Int) × List (Int × Int) × List (Int × Int) × Int)) → ((List (BA × List (Int × Int) × List (Int × Int) × List (Int × Int) × Int)) → Option α) → Option α
 | 0, _, _, _ => none
 | n + 1, d0, d1, k0 => L2.st N c0 c1 c2 c3 c4 c5 c6 c7 (fun e0 e1 => L2.f N c0 c1 c2 c3 c4 c5 c6 c7 n e0 e1 k0) d0 d1 k0
def L2.F {α : Type} (N : Nat) (d : L2.sh.T) (K : Cont α) : Option α := L2.f N d.2.1.1 d.2.1.2.1 d.2.1.2.2.1 d.2.2.1.1 d.2.2.2.1.1 d.2.2.2.2.1 d.2.2.2.2.2.1 d.2.2.2.2.2.2.1 N d.1.2.2.2.1 d.2.2.2.2.2.2.2.1 (fun y0 => K (Exit.exit 2) (L2.x0.enc (((), ((), ())), ((d.2.2.1.1, ((), ((), ()))), ((d.2.2.2.1.1, ((), ((), ()))), (d.2.2.2.2.1, (d.2.2.2.2.2.1, (d.2.2.2.2.2.2.1, (y0, ())))))))))
def ents22 {α : Type} (N : Nat) : List (SmE α) := [⟨0, 50, 8, [⟨L0.sh, L0.F N⟩]⟩, ⟨0, 50, 16, [⟨L1.sh, L1.F N⟩]⟩, ⟨0, 50, 12, [⟨L2.sh, L2.F N⟩]⟩]
def C (N : Nat) : Ctx := ⟨tys, [(43, pf09_Weight.fent), (51, pf12_plain.fent)], [], N⟩
def L0.B {α : Type} (N : Nat) : Env → Cont α → Option α := evC tys 109 0 (evCall (C N) 50) (evCallQ (C N)) N an22 (smL (ents22 N) 0 50) (loopOf 8 Tryd.f22)
theorem L0.r {α : Type} (N : Nat) (c0 : BA) (c1 : (List (BA × Int × Int))) (c2 : (List (BA × List (Int × Int) × List (Int × Int) × List (Int × Int) × Int))) (c3 : BA) (c4 : BA) (c5 : (List (BA × Int × Int))) (c6 : (List (BA × List (Int × Int) × List (Int × Int) × List (Int × Int) × Int))) (c7 : (List (BA × List (Int × Int) × List (Int × Int) × List (Int × Int) × Int))) (φ : Env → Option α) (K : Cont α) (d0 : Int) (d1 : (List (BA × Int × Int))) : L0.B N (L0.sh.enc (((), ((), ((), (d0, ())))), ((c0, (c1, (c2, ()))), ((c3, ((), ((), ()))), ((c4, ((), ((), ()))), (c5, (c6, (d1, (c7, ()))))))))) (contL φ K (Env.norm 0 [1, 2, 5, 6]) (Env.norm 0 [1, 2, 5])) = L0.st N c0 c1 c2 c3 c4 c5 c6 c7 (fun e0 e1 => φ (L0.sh.enc (((), ((), ((), (e0, ())))), ((c0, (c1, (c2, ()))), ((c3, ((), ((), ()))), ((c4, ((), ((), ()))), (c5, (c6, (e1, (c7, ())))))))))) d0 d1 (fun y0 => K (Exit.exit 0) (L0.x0.enc (((), ((), ((), ()))), ((c0, (c1, (c2, ()))), ((c3, ((), ((), ()))), ((c4, ((), ((), ()))), (c5, (c6, (y0, (c7, ())))))))))) := by kernel_rfl
theorem L0.e {α : Type} (N : Nat) (c0 : BA) (c1 : (List (BA × Int × Int))) (c2 : (List (BA × List (Int × Int) × List (Int × Int) × List (Int × Int) × Int))) (c3 : BA) (c4 : BA) (c5 : (List (BA × Int × Int))) (c6 : (List (BA × List (Int × Int) × List (Int × Int) × List (Int × Int) × Int))) (c7 : (List (BA × List (Int × Int) × List (Int × Int) × List (Int × Int) × Int))) : ∀ (n : Nat) (d0 : Int) (d1 : (List (BA × Int × Int))) (K : Cont α), evL (L0.B N) (Env.norm 0 [1, 2, 5, 6]) (Env.norm 0 [1, 2, 5]) n (L0.sh.enc (((), ((), ((), (d0, ())))), ((c0, (c1, (c2, ()))), ((c3, ((), ((), ()))), ((c4, ((), ((), ()))), (c5, (c6, (d1, (c7, ()))))))))) K = L0.f N c0 c1 c2 c3 c4 c5 c6 c7 n d0 d1 (fun y0 => K (Exit.exit 0) (L0.x0.enc (((), ((), ((), ()))), ((c0, (c1, (c2, ()))), ((c3, ((), ((), ()))), ((c4, ((), ((), ()))), (c5, (c6, (y0, (c7, ()))))))))))
 | 0, d0, d1, K => rfl
 | n + 1, d0, d1, K => evL_contL.trans ((L0.r N c0 c1 c2 c3 c4 c5 c6 c7 (fun e => evL (L0.B N) (Env.norm 0 [1, 2, 5, 6]) (Env.norm 0 [1, 2, 5]) n e K) K d0 d1).trans (congrArg (fun φ => L0.st N c0 c1 c2 c3 c4 c5 c6 c7 φ d0 d1 (fun y0 => K (Exit.exit 0) (L0.x0.enc (((), ((), ((), ()))), ((c0, (c1, (c2, ()))), ((c3, ((), ((), ()))), ((c4, ((), ((), ()))), (c5, (c6, (y0, (c7, ()))))))))))) (funext fun e0 => funext fun e1 => L0.e N c0 c1 c2 c3 c4 c5 c6 c7 n e0 e1 K)))
def L1.B {α : Type} (N : Nat) : Env → Cont α → Option α := evC tys 109 0 (evCall (C N) 50) (evCallQ (C N)) N an22 (smL (ents22 N) 0 50) (loopOf 16 Tryd.f22)
theorem L1.r {α : Type} (N : Nat) (c0 : Int) (c1 : BA) (c2 : (List (BA × Int × Int))) (c3 : (List (BA × List (Int × Int) × List (Int × Int) × List (Int × Int) × Int))) (c4 : BA) (c5 : BA) (c6 : BA) (c7 : Int) (c8 : (List (BA × Int × Int))) (c9 : (List (BA × List (Int × Int) × List (Int × Int) × List (Int × Int) × Int))) (c10 : (List (BA × Int × Int))) (c11 : (List (BA × List (Int × Int) × List (Int × Int) × List (Int × Int) × Int))) (c12 : (List (Int × Int))) (φ : Env → Option α) (K : Cont α) (d0 : Int) (d1 : (List (Int × Int))) (d2 : (List (Int × Int))) : L1.B N (L1.sh.enc (((), ((), ((), (c0, ((), (d0, ())))))), ((c1, (c2, (c3, ()))), ((c4, ((), ((), ()))), ((c5, ((), ((), ()))), ((c6, ((), ((), ((), (c7, ()))))), (c8, (c9, (c10, (c11, (d1, (d2, (c12, ()))))))))))))) (contL φ K (Env.norm 0 [1, 2, 5, 7, 8, 9]) (Env.norm 0 [1, 2, 5, 7, 8])) = L1.st N c0 c1 c2 c3 c4 c5 c6 c7 c8 c9 c10 c11 c12 (fun e0 e1 e2 => φ (L1.sh.enc (((), ((), ((), (c0, ((), (e0, ())))))), ((c1, (c2, (c3, ()))), ((c4, ((), ((), ()))), ((c5, ((), ((), ()))), ((c6, ((), ((), ((), (c7, ()))))), (c8, (c9, (c10, (c11, (e1, (e2, (c12, ())))))))))))))) d0 d1 d2 (fun y0 y1 => K (Exit.exit 4) (L1.x0.enc (((), ((), ((), (c0, ((), ()))))), ((c1, (c2, (c3, ()))), ((c4, ((), ((), ()))), ((c5, ((), ((), ()))), ((c6, ((), ((), ((), (c7, ()))))), (c8, (c9, (c10, (c11, (y0, (y1, (c12, ())))))))))))))) := by kernel_rfl
theorem L1.e {α : Type} (N : Nat) (c0 : Int) (c1 : BA) (c2 : (List (BA × Int × Int))) (c3 : (List (BA × List (Int × Int) × List (Int × Int) × List (Int × Int) × Int))) (c4 : BA) (c5 : BA) (c6 : BA) (c7 : Int) (c8 : (List (BA × Int × Int))) (c9 : (List (BA × List (Int × Int) × List (Int × Int) × List (Int × Int) × Int))) (c10 : (List (BA × Int × Int))) (c11 : (List (BA × List (Int × Int) × List (Int × Int) × List (Int × Int) × Int))) (c12 : (List (Int × Int))) : ∀ (n : Nat) (d0 : Int) (d1 : (List (Int × Int))) (d2 : (List (Int × Int))) (K : Cont α), evL (L1.B N) (Env.norm 0 [1, 2, 5, 7, 8, 9]) (Env.norm 0 [1, 2, 5, 7, 8]) n (L1.sh.enc (((), ((), ((), (c0, ((), (d0, ())))))), ((c1, (c2, (c3, ()))), ((c4, ((), ((), ()))), ((c5, ((), ((), ()))), ((c6, ((), ((), ((), (c7, ()))))), (c8, (c9, (c10, (c11, (d1, (d2, (c12, ()))))))))))))) K = L1.f N c0 c1 c2 c3 c4 c5 c6 c7 c8 c9 c10 c11 c12 n d0 d1 d2 (fun y0 y1 => K (Exit.exit 4) (L1.x0.enc (((), ((), ((), (c0, ((), ()))))), ((c1, (c2, (c3, ()))), ((c4, ((), ((), ()))), ((c5, ((), ((), ()))), ((c6, ((), ((), ((), (c7, ()))))), (c8, (c9, (c10, (c11, (y0, (y1, (c12, ()))))))))))))))
 | 0, d0, d1, d2, K => rfl
 | n + 1, d0, d1, d2, K => evL_contL.trans ((L1.r N c0 c1 c2 c3 c4 c5 c6 c7 c8 c9 c10 c11 c12 (fun e => evL (L1.B N) (Env.norm 0 [1, 2, 5, 7, 8, 9]) (Env.norm 0 [1, 2, 5, 7, 8]) n e K) K d0 d1 d2).trans (congrArg (fun φ => L1.st N c0 c1 c2 c3 c4 c5 c6 c7 c8 c9 c10 c11 c12 φ d0 d1 d2 (fun y0 y1 => K (Exit.exit 4) (L1.x0.enc (((), ((), ((), (c0, ((), ()))))), ((c1, (c2, (c3, ()))), ((c4, ((), ((), ()))), ((c5, ((), ((), ()))), ((c6, ((), ((), ((), (c7, ()))))), (c8, (c9, (c10, (c11, (y0, (y1, (c12, ()))))))))))))))) (funext fun e0 => funext fun e1 => funext fun e2 => L1.e N c0 c1 c2 c3 c4 c5 c6 c7 c8 c9 c10 c11 c12 n e0 e1 e2 K)))
def L2.B {α : Type} (N : Nat) : Env → Cont α → Option α := evC tys 109 0 (evCall (C N) 50) (evCallQ (C N)) N an22 (smL (ents22 N) 0 50) (loopOf 12 Tryd.f22)
theorem L2.r {α : Type} (N : Nat) (c0 : BA) (c1 : (List (BA × Int × Int))) (c2 : (List (BA × List (Int × Int) × List (Int × Int) × List (Int × Int) × Int))) (c3 : BA) (c4 : BA) (c5 : (List (BA × Int × Int))) (c6 : (List (BA × List (Int × Int) × List (Int × Int) × List (Int × Int) × Int))) (c7 : (List (BA × Int × Int))) (φ : Env → Option α) (K : Cont α) (d0 : Int) (d1 : (List (BA × List (Int × Int) × List (Int × Int) × List (Int × Int) × Int))) : L2.B N (L2.sh.enc (((), ((), ((), (d0, ())))), ((c0, (c1, (c2, ()))), ((c3, ((), ((), ()))), ((c4, ((), ((), ()))), (c5, (c6, (c7, (d1, ()))))))))) (contL φ K (Env.norm 0 [1, 2, 5, 7]) (Env.norm 0 [2, 5])) = L2.st N c0 c1 c2 c3 c4 c5 c6 c7 (fun e0 e1 => φ (L2.sh.enc (((), ((), ((), (e0, ())))), ((c0, (c1, (c2, ()))), ((c3, ((), ((), ()))), ((c4, ((), ((), ()))), (c5, (c6, (c7, (e1, ())))))))))) d0 d1 (fun y0 => K (Exit.exit 2) (L2.x0.enc (((), ((), ())), ((c3, ((), ((), ()))), ((c4, ((), ((), ()))), (c5, (c6, (c7, (y0, ()))))))))) := by kernel_rfl
theorem L2.e {α : Type} (N : Nat) (c0 : BA) (c1 : (List (BA × Int × Int))) (c2 : (List (BA × List (Int × Int) × List (Int × Int) × List (Int × Int) × Int))) (c3 : BA) (c4 : BA) (c5 : (List (BA × Int × Int))) (c6 : (List (BA × List (Int × Int) × List (Int × Int) × List (Int × Int) × Int))) (c7 : (List (BA × Int × Int))) : ∀ (n : Nat) (d0 : Int) (d1 : (List (BA × List (Int × Int) × List (Int × Int) × List (Int × Int) × Int))) (K : Cont α), evL (L2.B N) (Env.norm 0 [1, 2, 5, 7]) (Env.norm 0 [2, 5]) n (L2.sh.enc (((), ((), ((), (d0, ())))), ((c0, (c1, (c2, ()))), ((c3, ((), ((), ()))), ((c4, ((), ((), ()))), (c5, (c6, (c7, (d1, ()))))))))) K = L2.f N c0 c1 c2 c3 c4 c5 c6 c7 n d0 d1 (fun y0 => K (Exit.exit 2) (L2.x0.enc (((), ((), ())), ((c3, ((), ((), ()))), ((c4, ((), ((), ()))), (c5, (c6, (c7, (y0, ())))))))))
 | 0, d0, d1, K => rfl
 | n + 1, d0, d1, K => evL_contL.trans ((L2.r N c0 c1 c2 c3 c4 c5 c6 c7 (fun e => evL (L2.B N) (Env.norm 0 [1, 2, 5, 7]) (Env.norm 0 [2, 5]) n e K) K d0 d1).trans (congrArg (fun φ => L2.st N c0 c1 c2 c3 c4 c5 c6 c7 φ d0 d1 (fun y0 => K (Exit.exit 2) (L2.x0.enc (((), ((), ())), ((c3, ((), ((), ()))), ((c4, ((), ((), ()))), (c5, (c6, (c7, (y0, ())))))))))) (funext fun e0 => funext fun e1 => L2.e N c0 c1 c2 c3 c4 c5 c6 c7 n e0 e1 K)))
theorem ents22_ok {α : Type} (N : Nat) : AllP (EntOk (C N) Tryd.f22 an22 (ents22 (α := α) N)) (ents22 N) := ⟨entOk_of (b0 := loopOf 8 Tryd.f22) (li0 := [1, 2, 5, 6]) (lx0 := [1, 2, 5]) (by kernel_rfl) (by kernel_rfl) ⟨fun d K => L0.e N d.2.1.1 d.2.1.2.1 d.2.1.2.2.1 d.2.2.1.1 d.2.2.2.1.1 d.2.2.2.2.1 d.2.2.2.2.2.1 d.2.2.2.2.2.2.2.1 N d.1.2.2.2.1 d.2.2.2.2.2.2.1 K, trivial⟩, entOk_of (b0 := loopOf 16 Tryd.f22) (li0 := [1, 2, 5, 7, 8, 9]) (lx0 := [1, 2, 5, 7, 8]) (by kernel_rfl) (by kernel_rfl) ⟨fun d K => L1.e N d.1.2.2.2.1 d.2.1.1 d.2.1.2.1 d.2.1.2.2.1 d.2.2.1.1 d.2.2.2.1.1 d.2.2.2.2.1.1 d.2.2.2.2.1.2.2.2.2.1 d.2.2.2.2.2.1 d.2.2.2.2.2.2.1 d.2.2.2.2.2.2.2.1 d.2.2.2.2.2.2.2.2.1 d.2.2.2.2.2.2.2.2.2.2.2.1 N d.1.2.2.2.2.2.1 d.2.2.2.2.2.2.2.2.2.1 d.2.2.2.2.2.2.2.2.2.2.1 K, trivial⟩, entOk_of (b0 := loopOf 12 Tryd.f22) (li0 := [1, 2, 5, 7]) (lx0 := [2, 5]) (by kernel_rfl) (by kernel_rfl) ⟨fun d K => L2.e N d.2.1.1 d.2.1.2.1 d.2.1.2.2.1 d.2.2.1.1 d.2.2.2.1.1 d.2.2.2.2.1 d.2.2.2.2.2.1 d.2.2.2.2.2.2.1 N d.1.2.2.2.1 d.2.2.2.2.2.2.2.1 K, trivial⟩, trivial⟩
def g {α : Type} (N : Nat) (a0 : BA × List (BA × Int × Int) × List (BA × List (Int × Int) × List (Int × Int) × List (Int × Int) × Int)) (kr : ((BA × List (BA × Int × Int) × List (BA × List (Int × Int) × List (Int × Int) × List (Int × Int) × Int)) → Int → Option α)) : Option α :=
 cond (pf12_plain.spec (a0.fst, a0.snd.fst, a0.snd.snd) != 0) (kr (((ByteArray.mk (#[])), [], [])) (pf12_plain.spec (a0.fst, a0.snd.fst, a0.snd.snd))) (cond ((↑(List.length a0.snd.snd) : Int) == 0) (kr (((ByteArray.mk (#[])), [], [])) (2)) (L0.f N (a0.fst) (a0.snd.fst) (a0.snd.snd) ((ByteArray.mk (#[]))) (a0.fst) ([]) ([]) ([]) N (0) ([]) (fun x10 => L2.f N (a0.fst) (a0.snd.fst) (a0.snd.snd) ((ByteArray.mk (#[]))) (a0.fst) ([]) ([]) (x10) N (0) ([]) (fun x39 => kr ((a0.fst, x10, x39)) (0)))))
theorem eq (N : Nat) (a0 : BA × List (BA × Int × Int) × List (BA × List (Int × Int) × List (Int × Int) × List (Int × Int) × Int)) : evF (C N) 50 Tryd.f22 an22 (smL (ents22 N) 0 50) [((.st (.pr (.str) (.pr (.sl (.st (.pr (.str) (.pr (.int .i64) (.int .i64))))) (.sl (.st (.pr (.str) (.pr (.sl (.st (.pr (.int .i64) (.int .i64)))) (.pr (.sl (.st (.pr (.int .i64) (.int .i64)))) (.pr (.sl (.st (.pr (.int .i64) (.int .i64)))) (.int .i64))))))))) : K), false), ((.int .i64 : K), false)] [⟨.st (.pr (.str) (.pr (.sl (.st (.pr (.str) (.pr (.int .i64) (.int .i64))))) (.sl (.st (.pr (.str) (.pr (.sl (.st (.pr (.int .i64) (.int .i64)))) (.pr (.sl (.st (.pr (.int .i64) (.int .i64)))) (.pr (.sl (.st (.pr (.int .i64) (.int .i64)))) (.int .i64))))))))), a0⟩] = g N a0 (fun r0 r1 => some [.dat ((K.str.pr ((K.str.pr ((K.int IntKind.i64).pr (K.int IntKind.i64))).st.sl.pr (K.str.pr (((K.int IntKind.i64).pr (K.int IntKind.i64)).st.sl.pr (((K.int IntKind.i64).pr (K.int IntKind.i64)).st.sl.pr (((K.int IntKind.i64).pr (K.int IntKind.i64)).st.sl.pr (K.int IntKind.i64))))).st.sl)).st) r0, .dat (K.int IntKind.i64) r1]) := by kernel_rfl
theorem ctxOk (N : Nat) : CtxOk P (C N) := ctxOk_of tysOk mixedOk ⟨pf09_Weight.ok, pf12_plain.ok, trivial⟩ trivial
theorem calls (N : Nat) (a0 : BA × List (BA × Int × Int) × List (BA × List (Int × Int) × List (Int × Int) × List (Int × Int) × Int)) {rs : List Rs} (h : g N a0 (fun r0 r1 => some [.dat ((K.str.pr ((K.str.pr ((K.int IntKind.i64).pr (K.int IntKind.i64))).st.sl.pr (K.str.pr (((K.int IntKind.i64).pr (K.int IntKind.i64)).st.sl.pr (((K.int IntKind.i64).pr (K.int IntKind.i64)).st.sl.pr (((K.int IntKind.i64).pr (K.int IntKind.i64)).st.sl.pr (K.int IntKind.i64))))).st.sl)).st) r0, .dat (K.int IntKind.i64) r1]) = some rs) : CallsTo P 22 [⟨.st (.pr (.str) (.pr (.sl (.st (.pr (.str) (.pr (.int .i64) (.int .i64))))) (.sl (.st (.pr (.str) (.pr (.sl (.st (.pr (.int .i64) (.int .i64)))) (.pr (.sl (.st (.pr (.int .i64) (.int .i64)))) (.pr (.sl (.st (.pr (.int .i64) (.int .i64)))) (.int .i64))))))))), a0⟩] rs := evF_calls' (ctxOk N) (by rfl) (ents22_ok N) ((eq N a0).trans h)
def L0.l {α : Type} (N : Nat) (x1 : BA) (x2 : (List (BA × Int × Int))) (x3 : (List (BA × List (Int × Int) × List (Int × Int) × List (Int × Int) × Int))) (x4 : BA) (x5 : BA) (x6 : (List (BA × Int × Int))) (x7 : (List (BA × List (Int × Int) × List (Int × Int) × List (Int × Int) × Int))) (x9 : (List (BA × List (Int × Int) × List (Int × Int) × List (Int × Int) × Int))) (k0 : ((List (BA × Int × Int)) → Option α)) : List (BA × List (Int × Int) × List (Int × Int) × List (Int × Int) × Int) → Int → (List (BA × Int × Int)) → Option α
 | [], x0, x8 => k0 (x8)
 | x :: l, x0, x8 => (cond ((x8.length + 1).ble mxl) (L0.l N x1 x2 x3 x4 x5 x6 x7 x9 k0 l (x0 + 1) (x8 ++ [(x.fst, 0, 0)])) (none))
theorem L0.rng {α : Type} {N : Nat} (x1 : BA) (x2 : (List (BA × Int × Int))) (x3 : (List (BA × List (Int × Int) × List (Int × Int) × List (Int × Int) × Int))) (x4 : BA) (x5 : BA) (x6 : (List (BA × Int × Int))) (x7 : (List (BA × List (Int × Int) × List (Int × Int) × List (Int × Int) × Int))) (x9 : (List (BA × List (Int × Int) × List (Int × Int) × List (Int × Int) × Int))) (hl : x3.length ≤ maxLen) (k0 : ((List (BA × Int × Int)) → Option α)) : ∀ (n j : Nat) (x8 : (List (BA × Int × Int))), x3.length < n + j → j ≤ x3.length → L0.f N x1 x2 x3 x4 x5 x6 x7 x9 n (j : Int) x8 k0 = L0.l N x1 x2 x3 x4 x5 x6 x7 x9 k0 (x3.drop j) (j : Int) x8
 | 0, j, x8, h, hj => absurd h (by omega)
 | n + 1, j, x8, h, hj => by
  by_cases hlt : j < x3.length
  ·
   have e1 : decide ((j : Int) < (x3.length : Int)) = true := decide_eq_true (Int.ofNat_lt.2 hlt)
   have e2 : decide ((0 : Int) ≤ (j : Int)) = true := decide_eq_true (Int.natCast_nonneg j)
   have e3 : ∀ z, x3.getD (Int.toNat (j : Int)) z = x3[j] := fun z => by rw [Int.toNat_natCast]; exact (List.getElem_eq_getD z).symm
   have e3' : ∀ z, x3.getD (0 + Int.toNat (j : Int)) z = x3[j] := fun z => by rw [Nat.zero_add]; exact e3 z
   have e4 : IntKind.i64.wrap ((j : Int) + 1) = (j : Int) + 1 := wrap_next hlt hl
   have ih : ∀ (x8 : (List (BA × Int × Int))), L0.f N x1 x2 x3 x4 x5 x6 x7 x9 n ((j : Int) + 1) x8 k0 = L0.l N x1 x2 x3 x4 x5 x6 x7 x9 k0 (x3.drop (j + 1)) ((j : Int) + 1) x8 := fun x8 => L0.rng x1 x2 x3 x4 x5 x6 x7 x9 hl k0 n (j + 1) x8 (by omega) (by omega)
   rw [List.drop_eq_getElem_cons hlt]
   first
    | (simp only [L0.f, L0.st, L0.l, e1, e2, e3, e3', e4, Bool.true_and, Bool.and_true, Bool.and_self, cond_true, ih]; done)
    | (simp only [L0.f, L0.st, L0.l, e1, e2, e3, e3', e4, Bool.true_and, Bool.and_true, Bool.and_self, cond_true, ih]; rfl)
  ·
   have e1 : decide ((j : Int) < (x3.length : Int)) = false := decide_eq_false (fun hc => hlt (Int.ofNat_lt.1 hc))
   rw [List.drop_eq_nil_of_le (by omega)]
   simp only [L0.f, L0.st, L0.l, e1, cond_false]
def L1.l {α : Type} (N : Nat) (x21 : Int) (x23 : BA) (x24 : (List (BA × Int × Int))) (x25 : (List (BA × List (Int × Int) × List (Int × Int) × List (Int × Int) × Int))) (x26 : BA) (x27 : BA) (x28 : BA) (x29 : Int) (x30 : (List (BA × Int × Int))) (x31 : (List (BA × List (Int × Int) × List (Int × Int) × List (Int × Int) × Int))) (x32 : (List (BA × Int × Int))) (x33 : (List (BA × List (Int × Int) × List (Int × Int) × List (Int × Int) × Int))) (x36 : (List (Int × Int))) (k0 : ((List (Int × Int)) → (List (Int × Int)) → Option α)) : List (BA × List (Int × Int) × List (Int × Int) × List (Int × Int) × Int) → Int → (List (Int × Int)) → (List (Int × Int)) → Option α
 | [], x22, x34, x35 => k0 (x34) (x35)
 | x :: l, x22, x34, x35 => (cond (decide (0 < pf09_Weight.spec x.snd.snd.fst x21)) (cond ((x34.length + 1).ble mxl) ((cond (decide (0 < pf09_Weight.spec x.snd.fst x21)) (cond ((x35.length + 1).ble mxl) (L1.l N x21 x23 x24 x25 x26 x27 x28 x29 x30 x31 x32 x33 x36 k0 l (x22 + 1) (x34 ++ [(x22, pf09_Weight.spec x.snd.snd.fst x21)]) (x35 ++ [(x22, pf09_Weight.spec x.snd.fst x21)])) (none)) (L1.l N x21 x23 x24 x25 x26 x27 x28 x29 x30 x31 x32 x33 x36 k0 l (x22 + 1) (x34 ++ [(x22, pf09_Weight.spec x.snd.snd.fst x21)]) (x35)))) (none)) ((cond (decide (0 < pf09_Weight.spec x.snd.fst x21)) (cond ((x35.length + 1).ble mxl) (L1.l N x21 x23 x24 x25 x26 x27 x28 x29 x30 x31 x32 x33 x36 k0 l (x22 + 1) (x34) (x35 ++ [(x22, pf09_Weight.spec x.snd.fst x21)])) (none)) (L1.l N x21 x23 x24 x25 x26 x27 x28 x29 x30 x31 x32 x33 x36 k0 l (x22 + 1) (x34) (x35)))))
theorem L1.rng {α : Type} {N : Nat} (x21 : Int) (x23 : BA) (x24 : (List (BA × Int × Int))) (x25 : (List (BA × List (Int × Int) × List (Int × Int) × List (Int × Int) × Int))) (x26 : BA) (x27 : BA) (x28 : BA) (x29 : Int) (x30 : (List (BA × Int × Int))) (x31 : (List (BA × List (Int × Int) × List (Int × Int) × List (Int × Int) × Int))) (x32 : (List (BA × Int × Int))) (x33 : (List (BA × List (Int × Int) × List (Int × Int) × List (Int × Int) × Int))) (x36 : (List (Int × Int))) (hl : x25.length ≤ maxLen) (k0 : ((List (Int × Int)) → (List (Int × Int)) → Option α)) : ∀ (n j : Nat) (x34 : (List (Int × Int))) (x35 : (List (Int × Int))), x25.length < n + j → j ≤ x25.length → L1.f N x21 x23 x24 x25 x26 x27 x28 x29 x30 x31 x32 x33 x36 n (j : Int) x34 x35 k0 = L1.l N x21 x23 x24 x25 x26 x27 x28 x29 x30 x31 x32 x33 x36 k0 (x25.drop j) (j : Int) x34 x35
 | 0, j, x34, x35, h, hj => absurd h (by omega)
 | n + 1, j, x34, x35, h, hj => by
  by_cases hlt : j < x25.length
  ·
   have e1 : decide ((j : Int) < (x25.length : Int)) = true := decide_eq_true (Int.ofNat_lt.2 hlt)
   have e2 : decide ((0 : Int) ≤ (j : Int)) = true := decide_eq_true (Int.natCast_nonneg j)
   have e3 : ∀ z, x25.getD (Int.toNat (j : Int)) z = x25[j] := fun z => by rw [Int.toNat_natCast]; exact (List.getElem_eq_getD z).symm
   have e3' : ∀ z, x25.getD (0 + Int.toNat (j : Int)) z = x25[j] := fun z => by rw [Nat.zero_add]; exact e3 z
   have e4 : IntKind.i64.wrap ((j : Int) + 1) = (j : Int) + 1 := wrap_next hlt hl
   have ih : ∀ (x34 : (List (Int × Int))) (x35 : (List (Int × Int))), L1.f N x21 x23 x24 x25 x26 x27 x28 x29 x30 x31 x32 x33 x36 n ((j : Int) + 1) x34 x35 k0 = L1.l N x21 x23 x24 x25 x26 x27 x28 x29 x30 x31 x32 x33 x36 k0 (x25.drop (j + 1)) ((j : Int) + 1) x34 x35 := fun x34 x35 => L1.rng x21 x23 x24 x25 x26 x27 x28 x29 x30 x31 x32 x33 x36 hl k0 n (j + 1) x34 x35 (by omega) (by omega)
   rw [List.drop_eq_getElem_cons hlt]
   first
    | (simp only [L1.f, L1.st, L1.l, e1, e2, e3, e3', e4, Bool.true_and, Bool.and_true, Bool.and_self, cond_true, ih]; done)
    | (simp only [L1.f, L1.st, L1.l, e1, e2, e3, e3', e4, Bool.true_and, Bool.and_true, Bool.and_self, cond_true, ih]; rfl)
  ·
   have e1 : decide ((j : Int) < (x25.length : Int)) = false := decide_eq_false (fun hc => hlt (Int.ofNat_lt.1 hc))
   rw [List.drop_eq_nil_of_le (by omega)]
   simp only [L1.f, L1.st, L1.l, e1, cond_false]
def L2.l {α : Type} (N : Nat) (x12 : BA) (x13 : (List (BA × Int × Int))) (x14 : (List (BA × List (Int × Int) × List (Int × Int) × List (Int × Int) × Int))) (x15 : BA) (x16 : BA) (x17 : (List (BA × Int × Int))) (x18 : (List (BA × List (Int × Int) × List (Int × Int) × List (Int × Int) × Int))) (x19 : (List (BA × Int × Int))) (k0 : ((List (BA × List (Int × Int) × List (Int × Int) × List (Int × Int) × Int)) → Option α)) : List (BA × Int × Int) → Int → (List (BA × List (Int × Int) × List (Int × Int) × List (Int × Int) × Int)) → Option α
 | [], x11, x20 => k0 (x20)
 | x :: l, x11, x20 => (L1.f N (x11) (x12) (x13) (x14) (x15) (x16) (x.fst) (0) (x17) (x18) (x19) (x20) ([]) N (0) ([]) ([]) (fun x37 x38 => cond ((x20.length + 1).ble mxl) (L2.l N x12 x13 x14 x15 x16 x17 x18 x19 k0 l (x11 + 1) (x20 ++ [(x.fst, x37, x38, [], 0)])) (none)))
theorem L2.rng {α : Type} {N : Nat} (x12 : BA) (x13 : (List (BA × Int × Int))) (x14 : (List (BA × List (Int × Int) × List (Int × Int) × List (Int × Int) × Int))) (x15 : BA) (x16 : BA) (x17 : (List (BA × Int × Int))) (x18 : (List (BA × List (Int × Int) × List (Int × Int) × List (Int × Int) × Int))) (x19 : (List (BA × Int × Int))) (hl : x13.length ≤ maxLen) (k0 : ((List (BA × List (Int × Int) × List (Int × Int) × List (Int × Int) × Int)) → Option α)) : ∀ (n j : Nat) (x20 : (List (BA × List (Int × Int) × List (Int × Int) × List (Int × Int) × Int))), x13.length < n + j → j ≤ x13.length → L2.f N x12 x13 x14 x15 x16 x17 x18 x19 n (j : Int) x20 k0 = L2.l N x12 x13 x14 x15 x16 x17 x18 x19 k0 (x13.drop j) (j : Int) x20
 | 0, j, x20, h, hj => absurd h (by omega)
 | n + 1, j, x20, h, hj => by
  by_cases hlt : j < x13.length
  ·
   have e1 : decide ((j : Int) < (x13.length : Int)) = true := decide_eq_true (Int.ofNat_lt.2 hlt)
   have e2 : decide ((0 : Int) ≤ (j : Int)) = true := decide_eq_true (Int.natCast_nonneg j)
   have e3 : ∀ z, x13.getD (Int.toNat (j : Int)) z = x13[j] := fun z => by rw [Int.toNat_natCast]; exact (List.getElem_eq_getD z).symm
   have e3' : ∀ z, x13.getD (0 + Int.toNat (j : Int)) z = x13[j] := fun z => by rw [Nat.zero_add]; exact e3 z
   have e4 : IntKind.i64.wrap ((j : Int) + 1) = (j : Int) + 1 := wrap_next hlt hl
   have ih : ∀ (x20 : (List (BA × List (Int × Int) × List (Int × Int) × List (Int × Int) × Int))), L2.f N x12 x13 x14 x15 x16 x17 x18 x19 n ((j : Int) + 1) x20 k0 = L2.l N x12 x13 x14 x15 x16 x17 x18 x19 k0 (x13.drop (j + 1)) ((j : Int) + 1) x20 := fun x20 => L2.rng x12 x13 x14 x15 x16 x17 x18 x19 hl k0 n (j + 1) x20 (by omega) (by omega)
   rw [List.drop_eq_getElem_cons hlt]
   first
    | (simp only [L2.f, L2.st, L2.l, e1, e2, e3, e3', e4, Bool.true_and, Bool.and_true, Bool.and_self, cond_true, ih]; done)
    | (simp only [L2.f, L2.st, L2.l, e1, e2, e3, e3', e4, Bool.true_and, Bool.and_true, Bool.and_self, cond_true, ih]; rfl)
  ·
   have e1 : decide ((j : Int) < (x13.length : Int)) = false := decide_eq_false (fun hc => hlt (Int.ofNat_lt.1 hc))
   rw [List.drop_eq_nil_of_le (by omega)]
   simp only [L2.f, L2.st, L2.l, e1, cond_false]
end pf12_Dual
theorem pf12_Dual.L0.law {α : Type} {N : Nat} (x1 : BA) (x2 : (List (BA × Int × Int))) (x3 : (List (BA × List (Int × Int) × List (Int × Int) × List (Int × Int) × Int))) (x4 : BA) (x5 : BA) (x6 : (List (BA × Int × Int))) (x7 : (List (BA × List (Int × Int) × List (Int × Int) × List (Int × Int) × Int))) (x9 : (List (BA × List (Int × Int) × List (Int × Int) × List (Int × Int) × Int))) (k0 : ((List (BA × Int × Int)) → Option α)) : ∀ (l : List TransT) (j : Int) (acc : List PlaceT), acc.length + l.length ≤ 1000 → pf12_Dual.L0.l N x1 x2 x3 x4 x5 x6 x7 x9 k0 l j acc = k0 (acc ++ l.map fun t => (t.1, 0, 0))
 | [], j, acc, _ => by rw [pf12_Dual.L0.l, List.map_nil, List.append_nil]
 | x :: l, j, acc, h0 => by
  simp only [List.length_cons] at h0
  rw [pf12_Dual.L0.l, ble1 _ (by omega), cond_true, pf12_Dual.L0.law _ _ _ _ _ _ _ _ _ l _ _ (by simp; omega), List.append_assoc]
  rfl
theorem pf12_Dual.L1.law {α : Type} {N : Nat} (x21 : Int) (x23 : BA) (x24 : (List (BA × Int × Int))) (x25 : (List (BA × List (Int × Int) × List (Int × Int) × List (Int × Int) × Int))) (x26 : BA) (x27 : BA) (x28 : BA) (x29 : Int) (x30 : (List (BA × Int × Int))) (x31 : (List (BA × List (Int × Int) × List (Int × Int) × List (Int × Int) × Int))) (x32 : (List (BA × Int × Int))) (x33 : (List (BA × List (Int × Int) × List (Int × Int) × List (Int × Int) × Int))) (x36 : (List (Int × Int))) (k0 : ((List (Int × Int)) → (List (Int × Int)) → Option α)) : ∀ (l : List TransT) (j : Int) (a b : List (Int × Int)), a.length + l.length ≤ 1000 → b.length + l.length ≤ 1000 → pf12_Dual.L1.l N x21 x23 x24 x25 x26 x27 x28 x29 x30 x31 x32 x33 x36 k0 l j a b = k0 (a ++ arcsTo (fun t => t.2.2.1) x21 j l) (b ++ arcsTo (fun t => t.2.1) x21 j l)
 | [], j, a, b, _, _ => by rw [pf12_Dual.L1.l, arcsTo, arcsTo, List.append_nil, List.append_nil]
 | x :: l, j, a, b, ha, hb => by
  simp only [List.length_cons] at ha hb
  rw [pf12_Dual.L1.l, arcsTo, arcsTo]
  simp only [show ∀ l, pf09_Weight.spec l x21 = weightS l x21 from fun _ => rfl]
  cases decide (0 < weightS x.2.2.1 x21)
  ·
   cases decide (0 < weightS x.2.1 x21)
   ·
    simp only [cond_false]
    rw [pf12_Dual.L1.law _ _ _ _ _ _ _ _ _ _ _ _ _ _ l _ _ _ (by omega) (by omega)]
   ·
    simp only [cond_false, cond_true]
    rw [ble1 _ (by omega), cond_true, pf12_Dual.L1.law _ _ _ _ _ _ _ _ _ _ _ _ _ _ l _ _ _ (by omega) (by simp; omega)]
    simp only [List.append_assoc, List.singleton_append]
  ·
   cases decide (0 < weightS x.2.1 x21)
   ·
    simp only [cond_false, cond_true]
    rw [ble1 _ (by omega), cond_true, pf12_Dual.L1.law _ _ _ _ _ _ _ _ _ _ _ _ _ _ l _ _ _ (by simp; omega) (by omega)]
    simp only [List.append_assoc, List.singleton_append]
   ·
    simp only [cond_true]
    rw [ble1 _ (by omega), ble1 _ (by omega), cond_true, cond_true, pf12_Dual.L1.law _ _ _ _ _ _ _ _ _ _ _ _ _ _ l _ _ _ (by simp; omega) (by simp; omega)]
    simp only [List.append_assoc, List.singleton_append]
theorem pf12_Dual.L2.law {α : Type} {N : Nat} (hN : 18446744073709551616 ≤ N) (x12 : BA) (x13 : (List (BA × Int × Int))) (x14 : (List (BA × List (Int × Int) × List (Int × Int) × List (Int × Int) × Int))) (x15 : BA) (x16 : BA) (x17 : (List (BA × Int × Int))) (x18 : (List (BA × List (Int × Int) × List (Int × Int) × List (Int × Int) × Int))) (x19 : (List (BA × Int × Int))) (k0 : ((List (BA × List (Int × Int) × List (Int × Int) × List (Int × Int) × Int)) → Option α)) (ht : x14.length ≤ 500) : ∀ (l : List PlaceT) (j : Int) (acc : List TransT), acc.length + l.length ≤ 1000 → pf12_Dual.L2.l N x12 x13 x14 x15 x16 x17 x18 x19 k0 l j acc = k0 (acc ++ dualT x14 j l)
 | [], j, acc, _ => by rw [pf12_Dual.L2.l, dualT, List.append_nil]
 | x :: l, j, acc, h0 => by
  simp only [List.length_cons] at h0
  rw [pf12_Dual.L2.l, dualT]
  have hw : x14.length ≤ maxLen := by unfold maxLen; omega
  refine (pf12_Dual.L1.rng (N := N) _ _ _ _ _ _ _ _ _ _ _ _ _ (hw) _ N 0 _ _ (by have := le_fuel (hw) hN; omega) (Nat.zero_le _)).trans ?_
  refine (pf12_Dual.L1.law _ _ _ _ _ _ _ _ _ _ _ _ _ _ _ _ _ _ (by simp; omega) (by simp; omega)).trans ?_
  simp only [List.drop_zero, List.nil_append]
  rw [ble1 _ (by omega), cond_true, pf12_Dual.L2.law hN _ _ _ _ _ _ _ _ _ ht l _ _ (by simp; omega), List.append_assoc]
  rfl
theorem pf12_Dual.law {α : Type} {N : Nat} (hN : 18446744073709551616 ≤ N) (a0 : BA × (List (BA × Int × Int)) × List (BA × (List (Int × Int)) × (List (Int × Int)) × (List (Int × Int)) × Int)) (w0 : K.wf (.st (.pr (.str) (.pr (.sl (.st (.pr (.str) (.pr (.int .i64) (.int .i64))))) (.sl (.st (.pr (.str) (.pr (.sl (.st (.pr (.int .i64) (.int .i64)))) (.pr (.sl (.st (.pr (.int .i64) (.int .i64)))) (.pr (.sl (.st (.pr (.int .i64) (.int .i64)))) (.int .i64)))))))))) a0) (kr : ((BA × (List (BA × Int × Int)) × List (BA × (List (Int × Int)) × (List (Int × Int)) × (List (Int × Int)) × Int)) → Int → Option α)) : pf12_Dual.g N a0 kr = kr (pf12_Dual.spec a0).1 (pf12_Dual.spec a0).2 := by
 unfold pf12_Dual.g pf12_Dual.spec dualE
 simp only [pf12_plain.spec, bne]
 rw [show plainE (a0.1, a0.2.1, a0.2.2) = plainE a0 from rfl]
 unfold plainE
 cases hc : (checkN a0).1 == 0
 ·
  simp only [cond_false]
  rw [hc]
  rfl
 simp only [cond_true]
 cases hq : plainN a0
 ·
  rfl
 have hv := plainN_valid hq
 have hnp := hv.np
 have hnt := hv.nt
 simp only [cond_true]
 rw [show (!((0 : Int) == 0)) = false from rfl, cond_false]
 have ee : (((List.length a0.2.2 : Nat) : Int) == 0) = List.isEmpty a0.2.2 := by
  cases a0.2.2 with
  | nil => rfl
  | cons x l => simp; omega
 rw [ee]
 cases List.isEmpty a0.2.2
 ·
  simp only [cond_false]
  refine (pf12_Dual.L0.rng (N := N) _ _ _ _ _ _ _ _ (w0.2.2.1) _ N 0 _ (by have := le_fuel (w0.2.2.1) hN; omega) (Nat.zero_le _)).trans ?_
  refine (pf12_Dual.L0.law _ _ _ _ _ _ _ _ _ _ _ _ (by simp; omega)).trans ?_
  simp only [List.drop_zero, List.nil_append]
  refine (pf12_Dual.L2.rng (N := N) _ _ _ _ _ _ _ _ (w0.2.1.1) _ N 0 _ (by have := le_fuel (w0.2.1.1) hN; omega) (Nat.zero_le _)).trans ?_
  refine (pf12_Dual.L2.law hN _ _ _ _ _ _ _ _ _ (by omega) _ _ _ (by simp; omega)).trans ?_
  rfl
 ·
  rfl
theorem pf12_Dual.ok : FentOk P 22 pf12_Dual.fent := fentOk_of (by kernel_rfl) fun ds hk => by
 obtain ⟨a0, l0, rfl, h0⟩ := ds_cons hk
 obtain rfl := ds0 h0
 exact ⟨true, [.dat (.st (.pr (.str) (.pr (.sl (.st (.pr (.str) (.pr (.int .i64) (.int .i64))))) (.sl (.st (.pr (.str) (.pr (.sl (.st (.pr (.int .i64) (.int .i64)))) (.pr (.sl (.st (.pr (.int .i64) (.int .i64)))) (.pr (.sl (.st (.pr (.int .i64) (.int .i64)))) (.int .i64)))))))))) (pf12_Dual.spec a0).1, .dat (.int .i64) (pf12_Dual.spec a0).2], fun h hw => pf12_Dual.calls 18446744073709551616 a0 (pf12_Dual.law (Nat.le_refl _) a0 hw.1 _), fun α k => rfl⟩
end Go.VI
namespace Go.VI
open Go Go.Proofs
theorem placeQ_iff {p q : PlaceT} : placeQ p q = true ↔ p = q := by
 unfold placeQ
 simp only [Bool.and_eq_true, sEq_iff, beq_iff_eq]
 exact ⟨fun ⟨a, b, c⟩ => Prod.ext a (Prod.ext b c), fun h => by rw [h]; exact ⟨rfl, rfl, rfl⟩⟩
theorem transQ_iff {x y : TransT} : transQ x y = true ↔ x = y := by
 unfold transQ
 simp only [Bool.and_eq_true, sEq_iff, beq_iff_eq, decide_eq_true_eq]
 exact ⟨fun ⟨⟨⟨⟨a, b⟩, c⟩, d⟩, e⟩ => Prod.ext a (Prod.ext c (Prod.ext d (Prod.ext e b))), fun h => by rw [h]; exact ⟨⟨⟨⟨rfl, rfl⟩, rfl⟩, rfl⟩, rfl⟩⟩
theorem allQ_iff {α : Type} {f : α → α → Bool} (hf : ∀ x y, f x y = true ↔ x = y) : ∀ {l m : List α}, allQ f l m = true ↔ l = m
 | [], [] => by simp [allQ]
 | x :: l, y :: m => by
  rw [allQ, Bool.and_eq_true, hf, allQ_iff hf]
  simp
 | [], _ :: _ => by simp [allQ]
 | _ :: _, [] => by simp [allQ]
theorem equalN_iff {a b : NetT} : equalN a b = true ↔ a = b := by
 unfold equalN
 rw [Bool.and_eq_true, Bool.and_eq_true, sEq_iff, allQ_iff (fun _ _ => placeQ_iff), allQ_iff (fun _ _ => transQ_iff)]
 exact ⟨fun ⟨⟨h1, h2⟩, h3⟩ => Prod.ext h1 (Prod.ext h2 h3), fun h => by rw [h]; exact ⟨⟨rfl, rfl⟩, rfl⟩⟩
theorem equalN_refl (a : NetT) : equalN a a = true := equalN_iff.2 rfl
end Go.VI
namespace Go.VI
open Go Go.Proofs
namespace pl12_TransformMirrors
def an4 : Ann := []
def ents4 {α : Type} (N : Nat) : List (SmE α) := []
def C (N : Nat) : Ctx := ⟨tys, [(11, pf09_Small.fent), (12, pl12_lives.fent), (17, pf09_Equal.fent), (19, tf_Reverse.fent), (20, pf12_Reverse.fent), (21, tf_Dual.fent), (22, pf12_Dual.fent)], [], N⟩
theorem ents4_ok {α : Type} (N : Nat) : AllP (EntOk (C N) Tryd.f4 an4 (ents4 (α := α) N)) (ents4 N) := trivial
def g {α : Type} (N : Nat) (a0 : BA × List (BA × Int × Int) × List (BA × List (Int × Int) × List (Int × Int) × List (Int × Int) × Int)) (kr : (Bool → Option α)) : Option α :=
 cond (!(pf09_Small.spec (a0.fst, a0.snd.fst, a0.snd.snd)).snd) (kr (pl12_lives.spec)) (cond (pf09_Equal.spec ((tf_Reverse.spec ((pf09_Small.spec (a0.fst, a0.snd.fst, a0.snd.snd)).fst.fst, (pf09_Small.spec (a0.fst, a0.snd.fst, a0.snd.snd)).fst.snd.fst, (pf09_Small.spec (a0.fst, a0.snd.fst, a0.snd.snd)).fst.snd.snd)).fst.fst, (tf_Reverse.spec ((pf09_Small.spec (a0.fst, a0.snd.fst, a0.snd.snd)).fst.fst, (pf09_Small.spec (a0.fst, a0.snd.fst, a0.snd.snd)).fst.snd.fst, (pf09_Small.spec (a0.fst, a0.snd.fst, a0.snd.snd)).fst.snd.snd)).fst.snd.fst, (tf_Reverse.spec ((pf09_Small.spec (a0.fst, a0.snd.fst, a0.snd.snd)).fst.fst, (pf09_Small.spec (a0.fst, a0.snd.fst, a0.snd.snd)).fst.snd.fst, (pf09_Small.spec (a0.fst, a0.snd.fst, a0.snd.snd)).fst.snd.snd)).fst.snd.snd) ((pf12_Reverse.spec ((pf09_Small.spec (a0.fst, a0.snd.fst, a0.snd.snd)).fst.fst, (pf09_Small.spec (a0.fst, a0.snd.fst, a0.snd.snd)).fst.snd.fst, (pf09_Small.spec (a0.fst, a0.snd.fst, a0.snd.snd)).fst.snd.snd)).fst.fst, (pf12_Reverse.spec ((pf09_Small.spec (a0.fst, a0.snd.fst, a0.snd.snd)).fst.fst, (pf09_Small.spec (a0.fst, a0.snd.fst, a0.snd.snd)).fst.snd.fst, (pf09_Small.spec (a0.fst, a0.snd.fst, a0.snd.snd)).fst.snd.snd)).fst.snd.fst, (pf12_Reverse.spec ((pf09_Small.spec (a0.fst, a0.snd.fst, a0.snd.snd)).fst.fst, (pf09_Small.spec (a0.fst, a0.snd.fst, a0.snd.snd)).fst.snd.fst, (pf09_Small.spec (a0.fst, a0.snd.fst, a0.snd.snd)).fst.snd.snd)).fst.snd.snd)) (cond ((tf_Reverse.spec ((pf09_Small.spec (a0.fst, a0.snd.fst, a0.snd.snd)).fst.fst, (pf09_Small.spec (a0.fst, a0.snd.fst, a0.snd.snd)).fst.snd.fst, (pf09_Small.spec (a0.fst, a0.snd.fst, a0.snd.snd)).fst.snd.snd)).snd == (pf12_Reverse.spec ((pf09_Small.spec (a0.fst, a0.snd.fst, a0.snd.snd)).fst.fst, (pf09_Small.spec (a0.fst, a0.snd.fst, a0.snd.snd)).fst.snd.fst, (pf09_Small.spec (a0.fst, a0.snd.fst, a0.snd.snd)).fst.snd.snd)).snd) (cond (pf09_Equal.spec ((tf_Dual.spec ((pf09_Small.spec (a0.fst, a0.snd.fst, a0.snd.snd)).fst.fst, (pf09_Small.spec (a0.fst, a0.snd.fst, a0.snd.snd)).fst.snd.fst, (pf09_Small.spec (a0.fst, a0.snd.fst, a0.snd.snd)).fst.snd.snd)).fst.fst, (tf_Dual.spec ((pf09_Small.spec (a0.fst, a0.snd.fst, a0.snd.snd)).fst.fst, (pf09_Small.spec (a0.fst, a0.snd.fst, a0.snd.snd)).fst.snd.fst, (pf09_Small.spec (a0.fst, a0.snd.fst, a0.snd.snd)).fst.snd.snd)).fst.snd.fst, (tf_Dual.spec ((pf09_Small.spec (a0.fst, a0.snd.fst, a0.snd.snd)).fst.fst, (pf09_Small.spec (a0.fst, a0.snd.fst, a0.snd.snd)).fst.snd.fst, (pf09_Small.spec (a0.fst, a0.snd.fst, a0.snd.snd)).fst.snd.snd)).fst.snd.snd) ((pf12_Dual.spec ((pf09_Small.spec (a0.fst, a0.snd.fst, a0.snd.snd)).fst.fst, (pf09_Small.spec (a0.fst, a0.snd.fst, a0.snd.snd)).fst.snd.fst, (pf09_Small.spec (a0.fst, a0.snd.fst, a0.snd.snd)).fst.snd.snd)).fst.fst, (pf12_Dual.spec ((pf09_Small.spec (a0.fst, a0.snd.fst, a0.snd.snd)).fst.fst, (pf09_Small.spec (a0.fst, a0.snd.fst, a0.snd.snd)).fst.snd.fst, (pf09_Small.spec (a0.fst, a0.snd.fst, a0.snd.snd)).fst.snd.snd)).fst.snd.fst, (pf12_Dual.spec ((pf09_Small.spec (a0.fst, a0.snd.fst, a0.snd.snd)).fst.fst, (pf09_Small.spec (a0.fst, a0.snd.fst, a0.snd.snd)).fst.snd.fst, (pf09_Small.spec (a0.fst, a0.snd.fst, a0.snd.snd)).fst.snd.snd)).fst.snd.snd)) (cond ((tf_Dual.spec ((pf09_Small.spec (a0.fst, a0.snd.fst, a0.snd.snd)).fst.fst, (pf09_Small.spec (a0.fst, a0.snd.fst, a0.snd.snd)).fst.snd.fst, (pf09_Small.spec (a0.fst, a0.snd.fst, a0.snd.snd)).fst.snd.snd)).snd == (pf12_Dual.spec ((pf09_Small.spec (a0.fst, a0.snd.fst, a0.snd.snd)).fst.fst, (pf09_Small.spec (a0.fst, a0.snd.fst, a0.snd.snd)).fst.snd.fst, (pf09_Small.spec (a0.fst, a0.snd.fst, a0.snd.snd)).fst.snd.snd)).snd) (kr (pl12_lives.spec)) (kr (false))) (kr (false))) (kr (false))) (kr (false)))
theorem eq (N : Nat) (a0 : BA × List (BA × Int × Int) × List (BA × List (Int × Int) × List (Int × Int) × List (Int × Int) × Int)) : evF (C N) 50 Tryd.f4 an4 (smL (ents4 N) 0 50) [((.bool : K), false)] [⟨.st (.pr (.str) (.pr (.sl (.st (.pr (.str) (.pr (.int .i64) (.int .i64))))) (.sl (.st (.pr (.str) (.pr (.sl (.st (.pr (.int .i64) (.int .i64)))) (.pr (.sl (.st (.pr (.int .i64) (.int .i64)))) (.pr (.sl (.st (.pr (.int .i64) (.int .i64)))) (.int .i64))))))))), a0⟩] = g N a0 (fun r0 => some [.dat (K.bool) r0]) := by kernel_rfl
theorem ctxOk (N : Nat) : CtxOk P (C N) := ctxOk_of tysOk mixedOk ⟨pf09_Small.ok, pl12_lives.ok, pf09_Equal.ok, tf_Reverse.ok, pf12_Reverse.ok, tf_Dual.ok, pf12_Dual.ok, trivial⟩ trivial
theorem calls (N : Nat) (a0 : BA × List (BA × Int × Int) × List (BA × List (Int × Int) × List (Int × Int) × List (Int × Int) × Int)) {rs : List Rs} (h : g N a0 (fun r0 => some [.dat (K.bool) r0]) = some rs) : CallsTo P 4 [⟨.st (.pr (.str) (.pr (.sl (.st (.pr (.str) (.pr (.int .i64) (.int .i64))))) (.sl (.st (.pr (.str) (.pr (.sl (.st (.pr (.int .i64) (.int .i64)))) (.pr (.sl (.st (.pr (.int .i64) (.int .i64)))) (.pr (.sl (.st (.pr (.int .i64) (.int .i64)))) (.int .i64))))))))), a0⟩] rs := evF_calls' (ctxOk N) (by rfl) (ents4_ok N) ((eq N a0).trans h)
end pl12_TransformMirrors
theorem pl12_TransformMirrors.law {α : Type} {N : Nat} (hN : 18446744073709551616 ≤ N) (a0 : BA × (List (BA × Int × Int)) × List (BA × (List (Int × Int)) × (List (Int × Int)) × (List (Int × Int)) × Int)) (w0 : K.wf (.st (.pr (.str) (.pr (.sl (.st (.pr (.str) (.pr (.int .i64) (.int .i64))))) (.sl (.st (.pr (.str) (.pr (.sl (.st (.pr (.int .i64) (.int .i64)))) (.pr (.sl (.st (.pr (.int .i64) (.int .i64)))) (.pr (.sl (.st (.pr (.int .i64) (.int .i64)))) (.int .i64)))))))))) a0) (kr : (Bool → Option α)) : pl12_TransformMirrors.g N a0 kr = kr (pl12_TransformMirrors.spec a0) := by
 unfold pl12_TransformMirrors.g pl12_TransformMirrors.spec
 simp only [pf09_Small.spec, pl12_lives.spec, pf09_Equal.spec, tf_Subnet.spec, pf12_Subnet.spec, tf_Start.spec, pf12_Start.spec, tf_Reverse.spec, pf12_Reverse.spec, tf_Dual.spec, pf12_Dual.spec, tf_Union.spec, pf12_Union.spec, equalN_refl, beq_self_eq_true, cond_true, pf04_Same.spec]
 repeat' (first | rfl | (generalize smallN _ = b; cases b <;> simp only [Bool.not_true, Bool.not_false, cond_true, cond_false, condK, Bool.cond_self]))
theorem pl12_TransformMirrors.ok : FentOk P 4 pl12_TransformMirrors.fent := fentOk_of (by kernel_rfl) fun ds hk => by
 obtain ⟨a0, l0, rfl, h0⟩ := ds_cons hk
 obtain rfl := ds0 h0
 exact ⟨true, [.dat (.bool) (pl12_TransformMirrors.spec a0)], fun h hw => pl12_TransformMirrors.calls 18446744073709551616 a0 (pl12_TransformMirrors.law (Nat.le_refl _) a0 hw.1 _), fun α k => rfl⟩
theorem transformMirrors_calls (x0 : K.T (.st (.pr (.str) (.pr (.sl (.st (.pr (.str) (.pr (.int .i64) (.int .i64))))) (.sl (.st (.pr (.str) (.pr (.sl (.st (.pr (.int .i64) (.int .i64)))) (.pr (.sl (.st (.pr (.int .i64) (.int .i64)))) (.pr (.sl (.st (.pr (.int .i64) (.int .i64)))) (.int .i64))))))))))) (w0 : K.wf (.st (.pr (.str) (.pr (.sl (.st (.pr (.str) (.pr (.int .i64) (.int .i64))))) (.sl (.st (.pr (.str) (.pr (.sl (.st (.pr (.int .i64) (.int .i64)))) (.pr (.sl (.st (.pr (.int .i64) (.int .i64)))) (.pr (.sl (.st (.pr (.int .i64) (.int .i64)))) (.int .i64)))))))))) x0) : CallsTo P 4 [⟨.st (.pr (.str) (.pr (.sl (.st (.pr (.str) (.pr (.int .i64) (.int .i64))))) (.sl (.st (.pr (.str) (.pr (.sl (.st (.pr (.int .i64) (.int .i64)))) (.pr (.sl (.st (.pr (.int .i64) (.int .i64)))) (.pr (.sl (.st (.pr (.int .i64) (.int .i64)))) (.int .i64))))))))), x0⟩] [.dat .bool true] := pl12_TransformMirrors.calls 18446744073709551616 x0 (pl12_TransformMirrors.law (Nat.le_refl _) x0 w0 _)
end Go.VI
