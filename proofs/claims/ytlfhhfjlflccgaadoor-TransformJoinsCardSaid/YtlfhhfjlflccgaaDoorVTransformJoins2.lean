/- What the functions that TransformJoins calls compute: printed out of the interpreter's normal forms (wip/vi/vigen.py) and proved. -/
import Derived.Test.YtlfhhfjlflccgaaDoorVTransformJoins1
import Derived.Test.YtlfhhfjlflccgaaDoorProg
set_option linter.unusedVariables false
set_option linter.unusedSimpArgs false
set_option maxRecDepth 100000
set_option maxHeartbeats 4000000
noncomputable section
namespace Go.VI
open Go Go.Proofs
namespace pl12_all
def an30 : Ann := [(3, [0, 3, 4], [3])]
def L0.sh : Sh := { sl := [(0, SV.a (SA.d (K.int IntKind.i64))), (3, SV.a (SA.d (K.int IntKind.u64))), (4, SV.a (SA.d (K.int IntKind.i64)))], os := [], nx := 0 }
def L0.x0 : Sh := { sl := [(3, SV.a (SA.d (K.int IntKind.u64)))], os := [], nx := 0 }
def L0.st {α : Type} (N : Nat) (x0 : Int) (φ : (Int → Int → Option α)) (x1 : Int) (x2 : Int) (k0 : (Int → Option α)) : Option α :=
 cond (decide (x2 < x0)) (cond (decide (x2 < 64)) (φ (IntKind.u64.wrap (IntKind.u64.wrap (2 * x1) + 1)) (IntKind.i64.wrap (x2 + 1))) (k0 (x1))) (k0 (x1))
def L0.f {α : Type} (N : Nat) (c0 : Int) : Nat → Int → Int → (Int → Option α) → Option α
 | 0, _, _, _ => none
 | n + 1, d0, d1, k0 => L0.st N c0 (fun e0 e1 => L0.f N c0 n e0 e1 k0) d0 d1 k0
def L0.up (d : L0.sh.T) (e0 : Int) (e1 : Int) : L0.sh.T := ((d.1.1, (e0, (e1, ()))), ())
def L0.k0 {α : Type} (d : L0.sh.T) (K : Cont α) : (Int → Option α) := fun y0 => K (Exit.exit 0) (L0.x0.enc ((y0, ()), ()))
def L0.F {α : Type} (N : Nat) (d : L0.sh.T) (K : Cont α) : Option α := L0.f N d.1.1 N d.1.2.1 d.1.2.2.1 (L0.k0 d K)
def ents30 {α : Type} (N : Nat) : List (SmE α) := [⟨0, 50, 3, [⟨L0.sh, L0.F N⟩]⟩]
def C (N : Nat) : Ctx := ⟨tys, [], [], N⟩
def L0.B {α : Type} (N : Nat) : Env → Cont α → Option α := evC tys 18 0 (evCall (C N) 50) (evCallQ (C N)) N an30 (smL (ents30 N) 0 50) (loopOf 3 Tryd.f30)
theorem L0.r {α : Type} (N : Nat) (φ : Env → Option α) (K : Cont α) (d : L0.sh.T) : L0.B N (L0.sh.enc d) (contL φ K (Env.norm 0 [0, 3, 4]) (Env.norm 0 [3])) = L0.st N d.1.1 (fun e0 e1 => φ (L0.sh.enc (L0.up d e0 e1))) d.1.2.1 d.1.2.2.1 (L0.k0 d K) := by kernel_rfl
theorem L0.e {α : Type} (N : Nat) : ∀ (n : Nat) (d : L0.sh.T) (K : Cont α), evL (L0.B N) (Env.norm 0 [0, 3, 4]) (Env.norm 0 [3]) n (L0.sh.enc d) K = L0.f N d.1.1 n d.1.2.1 d.1.2.2.1 (L0.k0 d K)
 | 0, d, K => rfl
 | n + 1, d, K => evL_contL.trans ((L0.r N _ K d).trans (congrArg (fun φ => L0.st N d.1.1 φ d.1.2.1 d.1.2.2.1 (L0.k0 d K)) (funext fun e0 => funext fun e1 => L0.e N n (L0.up d e0 e1) K)))
theorem ents30_ok {α : Type} (N : Nat) : AllP (EntOk (C N) Tryd.f30 an30 (ents30 (α := α) N)) (ents30 N) := ⟨entOk_of (b0 := loopOf 3 Tryd.f30) (li0 := [0, 3, 4]) (lx0 := [3]) (by kernel_rfl) (by kernel_rfl) ⟨fun d K => L0.e N N d K, trivial⟩, trivial⟩
def g {α : Type} (N : Nat) (a0 : Int) (kr : (Int → Option α)) : Option α :=
 L0.f N (a0) N (0) (0) (fun x3 => kr (x3))
theorem eq (N : Nat) (a0 : Int) : evF (C N) 50 Tryd.f30 an30 (smL (ents30 N) 0 50) [((.int .u64 : K), false)] [⟨.int .i64, a0⟩] = g N a0 (fun r0 => some [.dat (K.int IntKind.u64) r0]) := by kernel_rfl
theorem ctxOk (N : Nat) : CtxOk P (C N) := ctxOk_of tysOk mixedOk trivial trivial
theorem calls (N : Nat) (a0 : Int) {rs : List Rs} (h : g N a0 (fun r0 => some [.dat (K.int IntKind.u64) r0]) = some rs) : CallsTo P 30 [⟨.int .i64, a0⟩] rs := evF_calls' (ctxOk N) (by rfl) (ents30_ok N) ((eq N a0).trans h)
end pl12_all
theorem pl12_all.L0.law {α : Type} {N : Nat} (a : Int) (k0 : Int → Option α) : ∀ (n i : Nat), 64 < n + i → i ≤ 64 → (i : Int) ≤ a ∨ i = 0 → pl12_all.L0.f N a n (2 ^ i - 1) (i : Int) k0 = k0 (2 ^ (min a.toNat 64) - 1)
 | 0, i, h, hi, _ => absurd h (by omega)
 | n + 1, i, h, hi, ha => by
  rw [pl12_all.L0.f, pl12_all.L0.st]
  by_cases h1 : (i : Int) < a
  ·
   rw [decide_eq_true h1, cond_true]
   by_cases h2 : (i : Int) < 64
   ·
    rw [decide_eq_true h2, cond_true]
    have e1 : IntKind.u64.wrap (IntKind.u64.wrap (2 * (2 ^ i - 1)) + 1) = 2 ^ (i + 1) - 1 := by
     have hb : (2 : Int) ^ i ≤ 2 ^ 63 := by
      have := Nat.pow_le_pow_right (n := 2) (by decide) (show i ≤ 63 by omega)
      exact_mod_cast this
     have hp : (0 : Int) < 2 ^ i := Int.pow_pos (by decide)
     have e0 : (2 : Int) ^ 63 = 9223372036854775808 := by decide
     have e2 : (2 : Int) ^ (i + 1) = 2 * 2 ^ i := by rw [Int.pow_succ]; omega
     rw [e2, wrap_u64 (x := 2 * (2 ^ i - 1)) (by omega), wrap_u64 (by omega)]
     omega
    have e3 : IntKind.i64.wrap ((i : Int) + 1) = ((i + 1 : Nat) : Int) := by rw [wrap_i64 (inI_i64.2 (by omega))]; omega
    rw [e1, e3]
    exact pl12_all.L0.law a k0 n (i + 1) (by omega) (by omega) (by omega)
   ·
    rw [decide_eq_false h2, cond_false, show min a.toNat 64 = i by omega]
  ·
   rw [decide_eq_false h1, cond_false, show min a.toNat 64 = i by omega]
theorem pl12_all.law {α : Type} {N : Nat} (hN : 18446744073709551616 ≤ N) (a0 : Int) (w0 : K.wf (.int .i64) a0) (kr : (Int → Option α)) : pl12_all.g N a0 kr = kr (pl12_all.spec a0) := by
 unfold pl12_all.g pl12_all.spec allB
 exact pl12_all.L0.law a0 (fun x => kr x) N 0 (by omega) (by omega) (.inr rfl)
theorem pl12_all.ok : FentOk P 30 pl12_all.fent := fentOk_of (by kernel_rfl) fun ds hk => by
 obtain ⟨a0, l0, rfl, h0⟩ := ds_cons hk
 obtain rfl := ds0 h0
 exact ⟨true, [.dat (.int .u64) (pl12_all.spec a0)], fun h hw => pl12_all.calls 18446744073709551616 a0 (pl12_all.law (Nat.le_refl _) a0 hw.1 _), fun α k => rfl⟩
end Go.VI
namespace Go.VI
open Go Go.Proofs
namespace pf12_copied
def an52 : Ann := []
def ents52 {α : Type} (N : Nat) : List (SmE α) := []
def C (N : Nat) : Ctx := ⟨tys, [], [], N⟩
theorem ents52_ok {α : Type} (N : Nat) : AllP (EntOk (C N) Tryd.f52 an52 (ents52 (α := α) N)) (ents52 N) := trivial
def g {α : Type} (N : Nat) (a0 : List (Int × Int)) (kr : ((List (Int × Int)) → Option α)) : Option α :=
 cond (a0.length.ble mxl) (kr (a0)) (none)
theorem eq (N : Nat) (a0 : List (Int × Int)) : evF (C N) 50 Tryd.f52 an52 (smL (ents52 N) 0 50) [(((.st (.pr (.int .i64) (.int .i64))) : K), true)] [⟨.sl (.st (.pr (.int .i64) (.int .i64))), a0⟩] = g N a0 (fun r0 => some [.own (((K.int IntKind.i64).pr (K.int IntKind.i64)).st) r0]) := by kernel_rfl
theorem ctxOk (N : Nat) : CtxOk P (C N) := ctxOk_of tysOk mixedOk trivial trivial
theorem calls (N : Nat) (a0 : List (Int × Int)) {rs : List Rs} (h : g N a0 (fun r0 => some [.own (((K.int IntKind.i64).pr (K.int IntKind.i64)).st) r0]) = some rs) : CallsTo P 52 [⟨.sl (.st (.pr (.int .i64) (.int .i64))), a0⟩] rs := evF_calls' (ctxOk N) (by rfl) (ents52_ok N) ((eq N a0).trans h)
end pf12_copied
theorem pf12_copied.law {α : Type} {N : Nat} (hN : 18446744073709551616 ≤ N) (a0 : List (Int × Int)) (w0 : K.wf (.sl (.st (.pr (.int .i64) (.int .i64)))) a0) (hp : pf12_copied.pre a0 = true) (kr : ((List (Int × Int)) → Option α)) : pf12_copied.g N a0 kr = kr (pf12_copied.spec a0) := by
 have hp' : a0.length ≤ 1073741824 := of_decide_eq_true hp
 unfold pf12_copied.g pf12_copied.spec
 rw [show a0.length.ble mxl = true from Nat.ble_eq_true_of_le hp', cond_true]
theorem pf12_copied.ok : FentOk P 52 pf12_copied.fent := fentOk_of (by kernel_rfl) fun ds hk => by
 obtain ⟨a0, l0, rfl, h0⟩ := ds_cons hk
 obtain rfl := ds0 h0
 exact ⟨pf12_copied.pre a0, [.own (.st (.pr (.int .i64) (.int .i64))) (pf12_copied.spec a0)], fun h hw => pf12_copied.calls 18446744073709551616 a0 (pf12_copied.law (Nat.le_refl _) a0 hw.1 h _), fun α k => rfl⟩
end Go.VI
namespace Go.VI
open Go Go.Proofs
theorem placeQ_iff {p q : PlaceT} : placeQ p q = true ↔ p = q := by
 unfold placeQ
 simp only [Bool.and_eq_true, sEq_iff, beq_iff_eq]
 exact ⟨fun ⟨a, b, c⟩ => Prod.ext a (Prod.ext b c), fun h => by rw [h]; exact ⟨rfl, rfl, rfl⟩⟩
theorem transQ_iff {x y : TransT} : transQ x y = true ↔ x = y := by
 unfold transQ
 simp only [Bool.and_eq_true, sEq_iff, beq_iff_eq, decide_eq_true_eq]
 exact ⟨fun ⟨⟨⟨⟨a, b⟩, c⟩, d⟩, e⟩ => Prod.ext a (Prod.ext c (Prod.ext d (Prod.ext e b))), fun h => by rw [h]; exact ⟨⟨⟨⟨rfl, rfl⟩, rfl⟩, rfl⟩, rfl⟩⟩
theorem allQ_iff {α : Type} {f : α → α → Bool} (hf : ∀ x y, f x y = true ↔ x = y) : ∀ {l m : List α}, allQ f l m = true ↔ l = m
 | [], [] => by simp [allQ]
 | x :: l, y :: m => by
  rw [allQ, Bool.and_eq_true, hf, allQ_iff hf]
  simp
 | [], _ :: _ => by simp [allQ]
 | _ :: _, [] => by simp [allQ]
theorem equalN_iff {a b : NetT} : equalN a b = true ↔ a = b := by
 unfold equalN
 rw [Bool.and_eq_true, Bool.and_eq_true, sEq_iff, allQ_iff (fun _ _ => placeQ_iff), allQ_iff (fun _ _ => transQ_iff)]
 exact ⟨fun ⟨⟨h1, h2⟩, h3⟩ => Prod.ext h1 (Prod.ext h2 h3), fun h => by rw [h]; exact ⟨⟨rfl, rfl⟩, rfl⟩⟩
theorem equalN_refl (a : NetT) : equalN a a = true := equalN_iff.2 rfl
end Go.VI
namespace Go.VI
open Go Go.Proofs
namespace pl12_TransformJoins
def an8 : Ann := []
def an29 : Ann := [(4, [1, 2, 3, 4], [2, 3])]
def L0.sh : Sh := { sl := [(1, SV.a (SA.fx (Atom.box 8 0))), (2, SV.a (SA.fx (Atom.box 9 0))), (3, SV.a (SA.fx (Atom.box 10 0))), (4, SV.a (SA.d (K.int IntKind.i64)))], os := [(8, SO.box [SA.d K.str, SA.d (K.str.pr ((K.int IntKind.i64).pr (K.int IntKind.i64))).st.sl, SA.d (K.str.pr (((K.int IntKind.i64).pr (K.int IntKind.i64)).st.sl.pr (((K.int IntKind.i64).pr (K.int IntKind.i64)).st.sl.pr (((K.int IntKind.i64).pr (K.int IntKind.i64)).st.sl.pr (K.int IntKind.i64))))).st.sl]), (9, SO.box [SA.d K.str, SA.fx (Atom.sl 11 0 none), SA.fx (Atom.sl 12 0 none)]), (10, SO.box [SA.d K.str, SA.fx (Atom.sl 13 0 none), SA.fx (Atom.sl 14 0 none)]), (11, SO.row (K.str.pr ((K.int IntKind.i64).pr (K.int IntKind.i64))).st 0), (12, SO.row (K.str.pr (((K.int IntKind.i64).pr (K.int IntKind.i64)).st.sl.pr (((K.int IntKind.i64).pr (K.int IntKind.i64)).st.sl.pr (((K.int IntKind.i64).pr (K.int IntKind.i64)).st.sl.pr (K.int IntKind.i64))))).st 0), (13, SO.row (K.str.pr ((K.int IntKind.i64).pr (K.int IntKind.i64))).st 0), (14, SO.row (K.str.pr (((K.int IntKind.i64).pr (K.int IntKind.i64)).st.sl.pr (((K.int IntKind.i64).pr (K.int IntKind.i64)).st.sl.pr (((K.int IntKind.i64).pr (K.int IntKind.i64)).st.sl.pr (K.int IntKind.i64))))).st 0), (7, SO.box [SA.d K.str, SA.d (K.str.pr ((K.int IntKind.i64).pr (K.int IntKind.i64))).st.sl, SA.d (K.str.pr (((K.int IntKind.i64).pr (K.int IntKind.i64)).st.sl.pr (((K.int IntKind.i64).pr (K.int IntKind.i64)).st.sl.pr (((K.int IntKind.i64).pr (K.int IntKind.i64)).st.sl.pr (K.int IntKind.i64))))).st.sl]), (6, SO.box [SA.d K.str, SA.d (K.str.pr ((K.int IntKind.i64).pr (K.int IntKind.i64))).st.sl, SA.d (K.str.pr (((K.int IntKind.i64).pr (K.int IntKind.i64)).st.sl.pr (((K.int IntKind.i64).pr (K.int IntKind.i64)).st.sl.pr (((K.int IntKind.i64).pr (K.int IntKind.i64)).st.sl.pr (K.int IntKind.i64))))).st.sl]), (5, SO.box [SA.d K.str, SA.d (K.str.pr ((K.int IntKind.i64).pr (K.int IntKind.i64))).st.sl, SA.d (K.str.pr (((K.int IntKind.i64).pr (K.int IntKind.i64)).st.sl.pr (((K.int IntKind.i64).pr (K.int IntKind.i64)).st.sl.pr (((K.int IntKind.i64).pr (K.int IntKind.i64)).st.sl.pr (K.int IntKind.i64))))).st.sl]), (4, SO.box [SA.d K.str, SA.d (K.str.pr ((K.int IntKind.i64).pr (K.int IntKind.i64))).st.sl, SA.d (K.str.pr (((K.int IntKind.i64).pr (K.int IntKind.i64)).st.sl.pr (((K.int IntKind.i64).pr (K.int IntKind.i64)).st.sl.pr (((K.int IntKind.i64).pr (K.int IntKind.i64)).st.sl.pr (K.int IntKind.i64))))).st.sl]), (3, SO.box [SA.d K.str, SA.d (K.str.pr ((K.int IntKind.i64).pr (K.int IntKind.i64))).st.sl, SA.d (K.str.pr (((K.int IntKind.i64).pr (K.int IntKind.i64)).st.sl.pr (((K.int IntKind.i64).pr (K.int IntKind.i64)).st.sl.pr (((K.int IntKind.i64).pr (K.int IntKind.i64)).st.sl.pr (K.int IntKind.i64))))).st.sl]), (2, SO.box [SA.d K.str, SA.d (K.str.pr ((K.int IntKind.i64).pr (K.int IntKind.i64))).st.sl, SA.d (K.str.pr (((K.int IntKind.i64).pr (K.int IntKind.i64)).st.sl.pr (((K.int IntKind.i64).pr (K.int IntKind.i64)).st.sl.pr (((K.int IntKind.i64).pr (K.int IntKind.i64)).st.sl.pr (K.int IntKind.i64))))).st.sl]), (1, SO.box [SA.d K.str, SA.d (K.str.pr ((K.int IntKind.i64).pr (K.int IntKind.i64))).st.sl, SA.d (K.str.pr (((K.int IntKind.i64).pr (K.int IntKind.i64)).st.sl.pr (((K.int IntKind.i64).pr (K.int IntKind.i64)).st.sl.pr (((K.int IntKind.i64).pr (K.int IntKind.i64)).st.sl.pr (K.int IntKind.i64))))).st.sl]), (0, SO.box [SA.d K.str, SA.d (K.str.pr ((K.int IntKind.i64).pr (K.int IntKind.i64))).st.sl, SA.d (K.str.pr (((K.int IntKind.i64).pr (K.int IntKind.i64)).st.sl.pr (((K.int IntKind.i64).pr (K.int IntKind.i64)).st.sl.pr (((K.int IntKind.i64).pr (K.int IntKind.i64)).st.sl.pr (K.int IntKind.i64))))).st.sl])], nx := 15 }
def L0.x0 : Sh := { sl := [(2, SV.a (SA.fx (Atom.box 8 0))), (3, SV.a (SA.fx (Atom.box 9 0)))], os := [(8, SO.box [SA.d K.str, SA.fx (Atom.sl 10 0 none), SA.fx (Atom.sl 11 0 none)]), (9, SO.box [SA.d K.str, SA.fx (Atom.sl 12 0 none), SA.fx (Atom.sl 13 0 none)]), (10, SO.row (K.str.pr ((K.int IntKind.i64).pr (K.int IntKind.i64))).st 0), (11, SO.row (K.str.pr (((K.int IntKind.i64).pr (K.int IntKind.i64)).st.sl.pr (((K.int IntKind.i64).pr (K.int IntKind.i64)).st.sl.pr (((K.int IntKind.i64).pr (K.int IntKind.i64)).st.sl.pr (K.int IntKind.i64))))).st 0), (12, SO.row (K.str.pr ((K.int IntKind.i64).pr (K.int IntKind.i64))).st 0), (13, SO.row (K.str.pr (((K.int IntKind.i64).pr (K.int IntKind.i64)).st.sl.pr (((K.int IntKind.i64).pr (K.int IntKind.i64)).st.sl.pr (((K.int IntKind.i64).pr (K.int IntKind.i64)).st.sl.pr (K.int IntKind.i64))))).st 0), (7, SO.box [SA.d K.str, SA.d (K.str.pr ((K.int IntKind.i64).pr (K.int IntKind.i64))).st.sl, SA.d (K.str.pr (((K.int IntKind.i64).pr (K.int IntKind.i64)).st.sl.pr (((K.int IntKind.i64).pr (K.int IntKind.i64)).st.sl.pr (((K.int IntKind.i64).pr (K.int IntKind.i64)).st.sl.pr (K.int IntKind.i64))))).st.sl]), (6, SO.box [SA.d K.str, SA.d (K.str.pr ((K.int IntKind.i64).pr (K.int IntKind.i64))).st.sl, SA.d (K.str.pr (((K.int IntKind.i64).pr (K.int IntKind.i64)).st.sl.pr (((K.int IntKind.i64).pr (K.int IntKind.i64)).st.sl.pr (((K.int IntKind.i64).pr (K.int IntKind.i64)).st.sl.pr (K.int IntKind.i64))))).st.sl]), (5, SO.box [SA.d K.str, SA.d (K.str.pr ((K.int IntKind.i64).pr (K.int IntKind.i64))).st.sl, SA.d (K.str.pr (((K.int IntKind.i64).pr (K.int IntKind.i64)).st.sl.pr (((K.int IntKind.i64).pr (K.int IntKind.i64)).st.sl.pr (((K.int IntKind.i64).pr (K.int IntKind.i64)).st.sl.pr (K.int IntKind.i64))))).st.sl]), (4, SO.box [SA.d K.str, SA.d (K.str.pr ((K.int IntKind.i64).pr (K.int IntKind.i64))).st.sl, SA.d (K.str.pr (((K.int IntKind.i64).pr (K.int IntKind.i64)).st.sl.pr (((K.int IntKind.i64).pr (K.int IntKind.i64)).st.sl.pr (((K.int IntKind.i64).pr (K.int IntKind.i64)).st.sl.pr (K.int IntKind.i64))))).st.sl]), (3, SO.box [SA.d K.str, SA.d (K.str.pr ((K.int IntKind.i64).pr (K.int IntKind.i64))).st.sl, SA.d (K.str.pr (((K.int IntKind.i64).pr (K.int IntKind.i64)).st.sl.pr (((K.int IntKind.i64).pr (K.int IntKind.i64)).st.sl.pr (((K.int IntKind.i64).pr (K.int IntKind.i64)).st.sl.pr (K.int IntKind.i64))))).st.sl]), (2, SO.box [SA.d K.str, SA.d (K.str.pr ((K.int IntKind.i64).pr (K.int IntKind.i64))).st.sl, SA.d (K.str.pr (((K.int IntKind.i64).pr (K.int IntKind.i64)).st.sl.pr (((K.int IntKind.i64).pr (K.int IntKind.i64)).st.sl.pr (((K.int IntKind.i64).pr (K.int IntKind.i64)).st.sl.pr (K.int IntKind.i64))))).st.sl]), (1, SO.box [SA.d K.str, SA.d (K.str.pr ((K.int IntKind.i64).pr (K.int IntKind.i64))).st.sl, SA.d (K.str.pr (((K.int IntKind.i64).pr (K.int IntKind.i64)).st.sl.pr (((K.int IntKind.i64).pr (K.int IntKind.i64)).st.sl.pr (((K.int IntKind.i64).pr (K.int IntKind.i64)).st.sl.pr (K.int IntKind.i64))))).st.sl]), (0, SO.box [SA.d K.str, SA.d (K.str.pr ((K.int IntKind.i64).pr (K.int IntKind.i64))).st.sl, SA.d (K.str.pr (((K.int IntKind.i64).pr (K.int IntKind.i64)).st.sl.pr (((K.int IntKind.i64).pr (K.int IntKind.i64)).st.sl.pr (((K.int IntKind.i64).pr (K.int IntKind.i64)).st.sl.pr (K.int IntKind.i64))))).st.sl])], nx := 14 }
def L0.st {α : Type} (N : Nat) (x3 : (List (BA × List (Int × Int) × List (Int × Int) × List (Int × Int) × Int))) (φ : (Int → (List (BA × List (Int × Int) × List (Int × Int) × List (Int × Int) × Int)) → Option α)) (x0 : Int) (x9 : (List (BA × List (Int × Int) × List (Int × Int) × List (Int × Int) × Int))) (k0 : ((List (BA × List (Int × Int) × List (Int × Int) × List (Int × Int) × Int)) → Option α)) : Option α :=
 cond (decide (x0 < (↑x3.length : Int))) (cond (decide (0 ≤ x0) && decide (x0 < (↑x3.length : Int))) (cond (pf12_copied.pre (x3.getD x0.toNat (eBA, [], [], [], 0)).snd.fst) (cond (pf12_copied.pre (x3.getD x0.toNat (eBA, [], [], [], 0)).snd.snd.fst) (cond (pf12_copied.pre (x3.getD x0.toNat (eBA, [], [], [], 0)).snd.snd.snd.fst) (cond ((x9.length + 1).ble mxl) (cond (pf12_copied.pre (x3.getD x0.toNat (eBA, [], [], [], 0)).snd.fst) (cond (pf12_copied.pre (x3.getD x0.toNat (eBA, [], [], [], 0)).snd.snd.fst) (cond (pf12_copied.pre (x3.getD x0.toNat (eBA, [], [], [], 0)).snd.snd.snd.fst) (cond ((x9.length + 1).ble mxl) (φ (IntKind.i64.wrap (x0 + 1)) (x9 ++ [((x3.getD x0.toNat (eBA, [], [], [], 0)).fst, (pf12_copied.spec (x3.getD x0.toNat (eBA, [], [], [], 0)).snd.fst), (pf12_copied.spec (x3.getD x0.toNat (eBA, [], [], [], 0)).snd.snd.fst), (pf12_copied.spec (x3.getD x0.toNat (eBA, [], [], [], 0)).snd.snd.snd.fst), (x3.getD x0.toNat (eBA, [], [], [], 0)).snd.snd.snd.snd)])) (none)) (none)) (none)) (none)) (none)) (none)) (none)) (none)) (none)) (k0 (x9))
def L0.f {α : Type} (N : Nat) (c2 : (List (BA × List (Int × Int) × List (Int × Int) × List (Int × Int) × Int))) : Nat → Int → (List (BA × List (Int × Int) × List (Int × Int) × List (Int × Int) × Int)) → ((List (BA × List (Int × Int) × List (Int × Int) × List (Int × Int) × Int)) → Option α) → Option α
 | 0, _, _, _ => none
 | n + 1, d0, d1, k0 => L0.st N c2 (fun e0 e1 => L0.f N c2 n e0 e1 k0) d0 d1 k0
def L0.up (d : L0.sh.T) (e0 : Int) (e1 : (List (BA × List (Int × Int) × List (Int × Int) × List (Int × Int) × Int))) : L0.sh.T := (((), ((), ((), (e0, ())))), ((d.2.1.1, (d.2.1.2.1, (d.2.1.2.2.1, ()))), ((d.2.2.1.1, ((), ((), ()))), ((d.2.2.2.1.1, ((), ((), ()))), (d.2.2.2.2.1, (d.2.2.2.2.2.1, (d.2.2.2.2.2.2.1, (e1, ((d.2.2.2.2.2.2.2.2.1.1, (d.2.2.2.2.2.2.2.2.1.2.1, (d.2.2.2.2.2.2.2.2.1.2.2.1, ()))), ((d.2.2.2.2.2.2.2.2.2.1.1, (d.2.2.2.2.2.2.2.2.2.1.2.1, (d.2.2.2.2.2.2.2.2.2.1.2.2.1, ()))), ((d.2.2.2.2.2.2.2.2.2.2.1.1, (d.2.2.2.2.2.2.2.2.2.2.1.2.1, (d.2.2.2.2.2.2.2.2.2.2.1.2.2.1, ()))), ((d.2.2.2.2.2.2.2.2.2.2.2.1.1, (d.2.2.2.2.2.2.2.2.2.2.2.1.2.1, (d.2.2.2.2.2.2.2.2.2.2.2.1.2.2.1, ()))), ((d.2.2.2.2.2.2.2.2.2.2.2.2.1.1, (d.2.2.2.2.2.2.2.2.2.2.2.2.1.2.1, (d.2.2.2.2.2.2.2.2.2.2.2.2.1.2.2.1, ()))), ((d.2.2.2.2.2.2.2.2.2.2.2.2.2.1.1, (d.2.2.2.2.2.2.2.2.2.2.2.2.2.1.2.1, (d.2.2.2.2.2.2.2.2.2.2.2.2.2.1.2.2.1, ()))), ((d.2.2.2.2.2.2.2.2.2.2.2.2.2.2.1.1, (d.2.2.2.2.2.2.2.2.2.2.2.2.2.2.1.2.1, (d.2.2.2.2.2.2.2.2.2.2.2.2.2.2.1.2.2.1, ()))), ((d.2.2.2.2.2.2.2.2.2.2.2.2.2.2.2.1.1, (d.2.2.2.2.2.2.2.2.2.2.2.2.2.2.2.1.2.1, (d.2.2.2.2.2.2.2.2.2.2.2.2.2.2.2.1.2.2.1, ()))), ()))))))))))))))))
def L0.k0 {α : Type} (d : L0.sh.T) (K : Cont α) : ((List (BA × List (Int × Int) × List (Int × Int) × List (Int × Int) × Int)) → Option α) := fun y0 => K (Exit.exit 0) (L0.x0.enc (((), ((), ())), ((d.2.2.1.1, ((), ((), ()))), ((d.2.2.2.1.1, ((), ((), ()))), (d.2.2.2.2.1, (d.2.2.2.2.2.1, (d.2.2.2.2.2.2.1, (y0, ((d.2.2.2.2.2.2.2.2.1.1, (d.2.2.2.2.2.2.2.2.1.2.1, (d.2.2.2.2.2.2.2.2.1.2.2.1, ()))), ((d.2.2.2.2.2.2.2.2.2.1.1, (d.2.2.2.2.2.2.2.2.2.1.2.1, (d.2.2.2.2.2.2.2.2.2.1.2.2.1, ()))), ((d.2.2.2.2.2.2.2.2.2.2.1.1, (d.2.2.2.2.2.2.2.2.2.2.1.2.1, (d.2.2.2.2.2.2.2.2.2.2.1.2.2.1, ()))), ((d.2.2.2.2.2.2.2.2.2.2.2.1.1, (d.2.2.2.2.2.2.2.2.2.2.2.1.2.1, (d.2.2.2.2.2.2.2.2.2.2.2.1.2.2.1, ()))), ((d.2.2.2.2.2.2.2.2.2.2.2.2.1.1, (d.2.2.2.2.2.2.2.2.2.2.2.2.1.2.1, (d.2.2.2.2.2.2.2.2.2.2.2.2.1.2.2.1, ()))), ((d.2.2.2.2.2.2.2.2.2.2.2.2.2.1.1, (d.2.2.2.2.2.2.2.2.2.2.2.2.2.1.2.1, (d.2.2.2.2.2.2.2.2.2.2.2.2.2.1.2.2.1, ()))), ((d.2.2.2.2.2.2.2.2.2.2.2.2.2.2.1.1, (d.2.2.2.2.2.2.2.2.2.2.2.2.2.2.1.2.1, (d.2.2.2.2.2.2.2.2.2.2.2.2.2.2.1.2.2.1, ()))), ((d.2.2.2.2.2.2.2.2.2.2.2.2.2.2.2.1.1, (d.2.2.2.2.2.2.2.2.2.2.2.2.2.2.2.1.2.1, (d.2.2.2.2.2.2.2.2.2.2.2.2.2.2.2.1.2.2.1, ()))), ()))))))))))))))))
def L0.F {α : Type} (N : Nat) (d : L0.sh.T) (K : Cont α) : Option α := L0.f N d.2.1.2.2.1 N d.1.2.2.2.1 d.2.2.2.2.2.2.2.1 (L0.k0 d K)
def ents8 {α : Type} (N : Nat) : List (SmE α) := []
def ents29 {α : Type} (N : Nat) : List (SmE α) := [⟨8, 49, 4, [⟨L0.sh, L0.F N⟩]⟩]
def C (N : Nat) : Ctx := ⟨tys, [(11, pf09_Small.fent), (12, pl12_lives.fent), (17, pf09_Equal.fent), (23, tf_Subnet.fent), (27, tf_Union.fent), (30, pl12_all.fent), (52, pf12_copied.fent)], [(29, ⟨Tryd.f29, an29, fun α lo d r => smL (ents29 N) lo d r⟩)], N⟩
def L0.B {α : Type} (N : Nat) : Env → Cont α → Option α := evC tys 47 8 (evCall (C N) 49) (evCallQ (C N)) N an29 (smL (ents29 N) 8 49) (loopOf 4 Tryd.f29)
theorem L0.r {α : Type} (N : Nat) (φ : Env → Option α) (K : Cont α) (d : L0.sh.T) : L0.B N (L0.sh.enc d) (contL φ K (Env.norm 8 [1, 2, 3, 4]) (Env.norm 8 [2, 3])) = L0.st N d.2.1.2.2.1 (fun e0 e1 => φ (L0.sh.enc (L0.up d e0 e1))) d.1.2.2.2.1 d.2.2.2.2.2.2.2.1 (L0.k0 d K) := by kernel_rfl
theorem L0.e {α : Type} (N : Nat) : ∀ (n : Nat) (d : L0.sh.T) (K : Cont α), evL (L0.B N) (Env.norm 8 [1, 2, 3, 4]) (Env.norm 8 [2, 3]) n (L0.sh.enc d) K = L0.f N d.2.1.2.2.1 n d.1.2.2.2.1 d.2.2.2.2.2.2.2.1 (L0.k0 d K)
 | 0, d, K => rfl
 | n + 1, d, K => evL_contL.trans ((L0.r N _ K d).trans (congrArg (fun φ => L0.st N d.2.1.2.2.1 φ d.1.2.2.2.1 d.2.2.2.2.2.2.2.1 (L0.k0 d K)) (funext fun e0 => funext fun e1 => L0.e N n (L0.up d e0 e1) K)))
theorem ents8_ok {α : Type} (N : Nat) : AllP (EntOk (C N) Tryd.f8 an8 (ents8 (α := α) N)) (ents8 N) := trivial
theorem ents29_ok {α : Type} (N : Nat) : AllP (EntOk (C N) Tryd.f29 an29 (ents29 (α := α) N)) (ents29 N) := ⟨entOk_of (b0 := loopOf 4 Tryd.f29) (li0 := [1, 2, 3, 4]) (lx0 := [2, 3]) (by kernel_rfl) (by kernel_rfl) ⟨fun d K => L0.e N N d K, trivial⟩, trivial⟩
def g {α : Type} (N : Nat) (a0 : BA × List (BA × Int × Int) × List (BA × List (Int × Int) × List (Int × Int) × List (Int × Int) × Int)) (a1 : BA × List (BA × Int × Int) × List (BA × List (Int × Int) × List (Int × Int) × List (Int × Int) × Int)) (kr : (Bool → Option α)) : Option α :=
 cond (!pl12_lives.spec) (kr (false)) (lt (pf09_Small.spec a0) fun v1 => lt (pf09_Small.spec a1) fun v2 => cond (!v1.snd) (kr (true)) (cond (!v2.snd) (kr (true)) (lt (tf_Union.spec v1.fst v2.fst) fun v3 => cond (v3.snd != 0) (kr (true)) (lt (pl12_all.spec (↑(List.length v1.fst.snd.fst) : Int)) fun v4 => lt (pl12_all.spec (↑(List.length v1.fst.snd.snd) : Int)) fun v5 => lt (tf_Subnet.spec v3.fst (IntKind.u64.wrap (↑(BitVec.ofInt IntKind.u64.bits (if IntKind.u64.signed = true then -1 else IntKind.u64.max) ^^^ BitVec.ofInt IntKind.u64.bits v4).toNat : Int)) (IntKind.u64.wrap (↑(BitVec.ofInt IntKind.u64.bits (if IntKind.u64.signed = true then -1 else IntKind.u64.max) ^^^ BitVec.ofInt IntKind.u64.bits v5).toNat : Int))) fun v7 => lt (tf_Subnet.spec v2.fst 18446744073709551615 18446744073709551615) fun v8 => cond ((List.length v2.fst.snd.fst).ble mxl) (L0.f N (v2.fst.snd.snd) N (0) ([]) (fun x34 => cond ((tf_Subnet.spec v3.fst v4 v5).snd == 0) (cond (v7.snd == 0) (cond (v8.snd == 0) (cond ((pf09_Equal.spec (tf_Subnet.spec v3.fst v4 v5).fst v1.fst)) (cond ((pf09_Equal.spec v7.fst (v1.fst.fst, v2.fst.snd.fst, x34))) (kr ((pf09_Equal.spec v8.fst v2.fst))) (kr (false))) (kr (false))) (kr (false))) (kr (false))) (kr (false)))) (none)))))
theorem eq (N : Nat) (a0 : BA × List (BA × Int × Int) × List (BA × List (Int × Int) × List (Int × Int) × List (Int × Int) × Int)) (a1 : BA × List (BA × Int × Int) × List (BA × List (Int × Int) × List (Int × Int) × List (Int × Int) × Int)) : evF (C N) 50 Tryd.f8 an8 (smL (ents8 N) 0 50) [((.bool : K), false)] [⟨.st (.pr (.str) (.pr (.sl (.st (.pr (.str) (.pr (.int .i64) (.int .i64))))) (.sl (.st (.pr (.str) (.pr (.sl (.st (.pr (.int .i64) (.int .i64)))) (.pr (.sl (.st (.pr (.int .i64) (.int .i64)))) (.pr (.sl (.st (.pr (.int .i64) (.int .i64)))) (.int .i64))))))))), a0⟩, ⟨.st (.pr (.str) (.pr (.sl (.st (.pr (.str) (.pr (.int .i64) (.int .i64))))) (.sl (.st (.pr (.str) (.pr (.sl (.st (.pr (.int .i64) (.int .i64)))) (.pr (.sl (.st (.pr (.int .i64) (.int .i64)))) (.pr (.sl (.st (.pr (.int .i64) (.int .i64)))) (.int .i64))))))))), a1⟩] = g N a0 a1 (fun r0 => some [.dat (K.bool) r0]) := by kernel_rfl
theorem ctxOk (N : Nat) : CtxOk P (C N) := ctxOk_of tysOk mixedOk ⟨pf09_Small.ok, pl12_lives.ok, pf09_Equal.ok, tf_Subnet.ok, tf_Union.ok, pl12_all.ok, pf12_copied.ok, trivial⟩ ⟨⟨⟨by rfl, by kernel_rfl⟩, fun α lo d c hc => smL_ok (ents29_ok N) lo d hc⟩, trivial⟩
theorem calls (N : Nat) (a0 : BA × List (BA × Int × Int) × List (BA × List (Int × Int) × List (Int × Int) × List (Int × Int) × Int)) (a1 : BA × List (BA × Int × Int) × List (BA × List (Int × Int) × List (Int × Int) × List (Int × Int) × Int)) {rs : List Rs} (h : g N a0 a1 (fun r0 => some [.dat (K.bool) r0]) = some rs) : CallsTo P 8 [⟨.st (.pr (.str) (.pr (.sl (.st (.pr (.str) (.pr (.int .i64) (.int .i64))))) (.sl (.st (.pr (.str) (.pr (.sl (.st (.pr (.int .i64) (.int .i64)))) (.pr (.sl (.st (.pr (.int .i64) (.int .i64)))) (.pr (.sl (.st (.pr (.int .i64) (.int .i64)))) (.int .i64))))))))), a0⟩, ⟨.st (.pr (.str) (.pr (.sl (.st (.pr (.str) (.pr (.int .i64) (.int .i64))))) (.sl (.st (.pr (.str) (.pr (.sl (.st (.pr (.int .i64) (.int .i64)))) (.pr (.sl (.st (.pr (.int .i64) (.int .i64)))) (.pr (.sl (.st (.pr (.int .i64) (.int .i64)))) (.int .i64))))))))), a1⟩] rs := evF_calls' (ctxOk N) (by rfl) (ents8_ok N) ((eq N a0 a1).trans h)
def L0.l {α : Type} (N : Nat) (x3 : (List (BA × List (Int × Int) × List (Int × Int) × List (Int × Int) × Int))) (k0 : ((List (BA × List (Int × Int) × List (Int × Int) × List (Int × Int) × Int)) → Option α)) : List (BA × List (Int × Int) × List (Int × Int) × List (Int × Int) × Int) → Int → (List (BA × List (Int × Int) × List (Int × Int) × List (Int × Int) × Int)) → Option α
 | [], x0, x9 => k0 (x9)
 | x :: l, x0, x9 => (cond (pf12_copied.pre x.snd.fst) (cond (pf12_copied.pre x.snd.snd.fst) (cond (pf12_copied.pre x.snd.snd.snd.fst) (cond ((x9.length + 1).ble mxl) (cond (pf12_copied.pre x.snd.fst) (cond (pf12_copied.pre x.snd.snd.fst) (cond (pf12_copied.pre x.snd.snd.snd.fst) (cond ((x9.length + 1).ble mxl) (L0.l N x3 k0 l (x0 + 1) (x9 ++ [(x.fst, (pf12_copied.spec x.snd.fst), (pf12_copied.spec x.snd.snd.fst), (pf12_copied.spec x.snd.snd.snd.fst), x.snd.snd.snd.snd)])) (none)) (none)) (none)) (none)) (none)) (none)) (none)) (none))
theorem L0.rng {α : Type} {N : Nat} (x3 : (List (BA × List (Int × Int) × List (Int × Int) × List (Int × Int) × Int))) (hl : x3.length ≤ maxLen) (k0 : ((List (BA × List (Int × Int) × List (Int × Int) × List (Int × Int) × Int)) → Option α)) : ∀ (n j : Nat) (x9 : (List (BA × List (Int × Int) × List (Int × Int) × List (Int × Int) × Int))), x3.length < n + j → j ≤ x3.length → L0.f N x3 n (j : Int) x9 k0 = L0.l N x3 k0 (x3.drop j) (j : Int) x9 :=
 rng1 x3 hl (fun n i x9 => L0.f N x3 n i x9 k0) (fun l i x9 => L0.l N x3 k0 l i x9) (fun n j hj h ih x9 => by simp only [L0.f, L0.st, L0.l, h.a, h.b, h.c, h.d, h.e, Bool.true_and, Bool.and_true, Bool.and_self, cond_true, ih] <;> rfl) (fun n j h x9 => by simp only [L0.f, L0.st, L0.l, h, cond_false])
end pl12_TransformJoins
def notB (s : Int) : Int := IntKind.u64.wrap (((BitVec.ofInt IntKind.u64.bits (if IntKind.u64.signed = true then -1 else IntKind.u64.max) ^^^ BitVec.ofInt IntKind.u64.bits s).toNat : Nat) : Int)
theorem allB_has : ∀ k : Fin 25, ∀ i : Fin 64, hasB (allB (k.val : Int)) (i.val : Int) = decide (i.val < k.val) := by decide +kernel
theorem notB_has : ∀ k : Fin 25, ∀ i : Fin 64, hasB (notB (allB (k.val : Int))) (i.val : Int) = decide (k.val ≤ i.val) := by decide +kernel
theorem fullB_has : ∀ i : Fin 64, hasB 18446744073709551615 (i.val : Int) = true := by decide +kernel
theorem allB_at {k i : Nat} (hk : k ≤ 24) (hi : i < 64) : hasB (allB (k : Int)) (i : Int) = decide (i < k) := allB_has ⟨k, by omega⟩ ⟨i, hi⟩
theorem notB_at {k i : Nat} (hk : k ≤ 24) (hi : i < 64) : hasB (notB (allB (k : Int))) (i : Int) = decide (k ≤ i) := notB_has ⟨k, by omega⟩ ⟨i, hi⟩
theorem rankN_all {s : Int} : ∀ {i : Nat}, (∀ j, j < i → hasB s (j : Int) = true) → rankN s i = i
 | 0, _ => rfl
 | i + 1, h => by
  rw [rankN, rankN_all fun j hj => h j (by omega), h i (by omega)]
  rfl
theorem rankN_none {s : Int} : ∀ {i : Nat}, (∀ j, j < i → hasB s (j : Int) = false) → rankN s i = 0
 | 0, _ => rfl
 | i + 1, h => by
  rw [rankN, rankN_none fun j hj => h j (by omega), h i (by omega)]
  rfl
theorem rankN_from {s : Int} {k : Nat} : ∀ {i : Nat}, (∀ j, j < k → hasB s (j : Int) = false) → (∀ j, j < i → hasB s ((k + j : Nat) : Int) = true) → rankN s (k + i) = i
 | 0, h, _ => rankN_none h
 | i + 1, h, h2 => by
  rw [show k + (i + 1) = (k + i) + 1 by omega, rankN, rankN_from h fun j hj => h2 j (by omega), h2 i (by omega)]
  rfl
theorem filtB_app {α : Type} {s : Int} : ∀ (l m : List α) (i : Int), filtB s i (l ++ m) = filtB s i l ++ filtB s (i + l.length) m
 | [], m, i => by simp [filtB]
 | x :: l, m, i => by
  have := filtB_app (s := s) l m (i + 1)
  rw [show i + 1 + (l.length : Int) = i + ((x :: l).length : Int) by simp; omega] at this
  rw [List.cons_append, filtB, filtB, this]
  cases hasB s i <;> rfl
theorem filtB_all {α : Type} {s : Int} : ∀ (l : List α) (i : Nat), (∀ j, j < l.length → hasB s ((i + j : Nat) : Int) = true) → filtB s (i : Int) l = l
 | [], _, _ => rfl
 | x :: l, i, h => by
  have := filtB_all (s := s) l (i + 1) fun j hj => by
   rw [show i + 1 + j = i + (j + 1) by omega]; exact h (j + 1) (by simpa using hj)
  have h0 := h 0 (by simp)
  rw [Nat.add_zero] at h0
  rw [filtB, h0, cond_true, ← succ_cast, this]
theorem filtB_none {α : Type} {s : Int} : ∀ (l : List α) (i : Nat), (∀ j, j < l.length → hasB s ((i + j : Nat) : Int) = false) → filtB s (i : Int) l = []
 | [], _, _ => rfl
 | x :: l, i, h => by
  have := filtB_none (s := s) l (i + 1) fun j hj => by
   rw [show i + 1 + j = i + (j + 1) by omega]; exact h (j + 1) (by simpa using hj)
  have h0 := h 0 (by simp)
  rw [Nat.add_zero] at h0
  rw [filtB, h0, cond_false, ← succ_cast, this]
theorem fm_id {α : Type} {f : α → Option α} : ∀ {l : List α}, (∀ a ∈ l, f a = some a) → l.filterMap f = l
 | [], _ => rfl
 | x :: l, h => by rw [List.filterMap_cons, h x (by simp), fm_id fun a ha => h a (by simp [ha])]
theorem map_id_of {α : Type} {f : α → α} : ∀ {l : List α}, (∀ a ∈ l, f a = a) → l.map f = l
 | [], _ => rfl
 | x :: l, h => by rw [List.map_cons, h x (by simp), map_id_of fun a ha => h a (by simp [ha])]
theorem keptL_id {s : Int} {k : Nat} {l : List (Int × Int)} (h : ArcsOk (k : Int) l) (hs : ∀ j, j < k → hasB s (j : Int) = true) : keptL s l = l := by
 refine fm_id fun a ha => ?_
 have hr := (h.rg a ha).1
 have e : ((a.1.toNat : Nat) : Int) = a.1 := by omega
 have h1 := hs a.1.toNat (by omega)
 rw [e] at h1
 rw [h1, rankN_all fun j hj => hs j (by omega), e]
 rfl
theorem keptL_shift {s : Int} {k m : Nat} {l : List (Int × Int)} (hk : k ≤ 24) (hm : m ≤ 24) (h : ArcsOk (m : Int) l) (h0 : ∀ j, j < k → hasB s (j : Int) = false) (h1 : ∀ j, j < m → hasB s ((k + j : Nat) : Int) = true) : keptL s (shiftL l (k : Int)) = l := by
 unfold keptL shiftL
 rw [List.filterMap_map]
 refine fm_id fun a ha => ?_
 have hr := (h.rg a ha).1
 have e : IntKind.i64.wrap (a.1 + (k : Int)) = ((k + a.1.toNat : Nat) : Int) := by
  rw [wrap_i64 (inI_i64.2 (by omega))]; omega
 simp only [Function.comp, e]
 rw [h1 a.1.toNat (by omega), Int.toNat_natCast, rankN_from h0 fun j hj => h1 j (by omega)]
 show some (((a.1.toNat : Nat) : Int), a.2) = some a
 rw [show ((a.1.toNat : Nat) : Int) = a.1 by omega]
theorem ArcsOk.mono {k m : Int} {l : List (Int × Int)} (h : ArcsOk k l) (hk : k ≤ m) : ArcsOk m l :=
 ⟨fun a ha => by have := h.rg a ha; omega, h.up⟩
theorem ArcsOk.shift {k m : Nat} {l : List (Int × Int)} (hk : k ≤ 24) (hm : m ≤ 24) (h : ArcsOk (m : Int) l) : ArcsOk ((k + m : Nat) : Int) (shiftL l (k : Int)) := by
 have e : ∀ a ∈ l, IntKind.i64.wrap (a.1 + (k : Int)) = a.1 + (k : Int) := fun a ha => by
  have := (h.rg a ha).1
  exact wrap_i64 (inI_i64.2 (by omega))
 refine ⟨fun a ha => ?_, ?_⟩
 ·
  obtain ⟨b, hb, rfl⟩ := List.mem_map.1 ha
  have := h.rg b hb
  simp only [e b hb]
  omega
 ·
  unfold shiftL
  rw [List.pairwise_map]
  refine List.Pairwise.imp_of_mem ?_ h.up
  intro a b ha hb hab
  simp only [e a ha, e b hb]
  omega
theorem TransOk.mono {k m : Int} {t : TransT} (h : TransOk k t) (hk : k ≤ m) : TransOk m t := ⟨h.name, h.prio, h.pre.mono hk, h.post.mono hk, h.inh.mono hk⟩
theorem knownN_f {n : NetT} {s : BA} (h : knownN n s = false) : s ∉ n.2.1.map (·.1) ∧ s ∉ n.2.2.map (·.1) := by
 unfold knownN at h
 rw [Bool.or_eq_false_iff, List.any_eq_false, List.any_eq_false] at h
 refine ⟨fun hm => ?_, fun hm => ?_⟩
 ·
  obtain ⟨p, hp, rfl⟩ := List.mem_map.1 hm
  exact h.1 p hp (sEq_iff.2 rfl)
 ·
  obtain ⟨p, hp, rfl⟩ := List.mem_map.1 hm
  exact h.2 p hp (sEq_iff.2 rfl)
def unionN (a b : NetT) : NetT := (a.1, a.2.1 ++ b.2.1, a.2.2 ++ b.2.2.map (shiftT (a.2.1.length : Int)))
structure Join (a b : NetT) : Prop where
 va : ValidN a
 vb : ValidN b
 np : a.2.1.length + b.2.1.length ≤ 24
 nt : a.2.2.length + b.2.2.length ≤ 24
 ps : ∀ p ∈ b.2.1, p.1 ∉ a.2.1.map (·.1) ∧ p.1 ∉ a.2.2.map (·.1)
 ts : ∀ t ∈ b.2.2, t.1 ∉ a.2.1.map (·.1) ∧ t.1 ∉ a.2.2.map (·.1)
theorem unionE_ok {a b : NetT} (h : (unionE a b).2 = 0) : Join a b ∧ (unionE a b).1 = unionN a b := by
 unfold unionE at h ⊢
 cases h1 : (checkN a).1 == 0
 ·
  simp only [h1, cond_false] at h
  rw [h] at h1; cases h1
 rw [h1] at h
 simp only [cond_true] at h ⊢
 cases h2 : (checkN b).1 == 0
 ·
  simp only [h2, cond_false] at h
  rw [h] at h2; cases h2
 rw [h2] at h
 simp only [cond_true] at h ⊢
 by_cases h3 : (decide (24 < a.2.1.length + b.2.1.length) || decide (24 < a.2.2.length + b.2.2.length)) = true
 ·
  rw [h3] at h; cases h
 rw [Bool.not_eq_true] at h3
 rw [h3] at h ⊢
 simp only [cond_false] at h ⊢
 by_cases h4 : ((b.2.1.any fun p => knownN a p.1) || b.2.2.any fun t => knownN a t.1) = true
 ·
  rw [h4] at h; cases h
 rw [Bool.not_eq_true] at h4
 rw [h4] at h ⊢
 simp only [Bool.or_eq_false_iff, decide_eq_false_iff_not] at h3
 rw [Bool.or_eq_false_iff, List.any_eq_false, List.any_eq_false] at h4
 exact ⟨⟨checkN_t.1 h1, checkN_t.1 h2, by omega, by omega, fun p hp => knownN_f (by simpa using h4.1 p hp), fun t ht => knownN_f (by simpa using h4.2 t ht)⟩, rfl⟩
theorem shiftT_names (k : Int) (l : List TransT) : (l.map (shiftT k)).map (·.1) = l.map (·.1) := by rw [List.map_map]; rfl
theorem Join.ok {a b : NetT} (h : Join a b) : ValidN (unionN a b) := by
 have hpa := h.va.np
 have hpb := h.vb.np
 have h1 := h.np
 have h2 := h.nt
 have el : (((unionN a b).2.1.length : Nat) : Int) = ((a.2.1.length + b.2.1.length : Nat) : Int) := by unfold unionN; rw [List.length_append]
 have disj : ∀ (x y : List BA), (∀ s ∈ y, s ∉ x) → x.Nodup → y.Nodup → (x ++ y).Nodup := fun x y hd hx hy => List.nodup_append.2 ⟨hx, hy, fun s hs t ht he => hd t ht (he ▸ hs)⟩
 refine ⟨h.va.name, ?_, ?_, ?_, ?_, ?_, ?_, ?_⟩
 ·
  unfold unionN; rw [List.length_append]; omega
 ·
  unfold unionN; rw [List.length_append, List.length_map]; omega
 ·
  intro p hp
  rcases List.mem_append.1 hp with hp | hp
  ·
   exact h.va.place p hp
  ·
   exact h.vb.place p hp
 ·
  intro t ht
  rw [el]
  rcases List.mem_append.1 ht with ht | ht
  ·
   exact (h.va.trans t ht).mono (by omega)
  ·
   obtain ⟨u, hu, rfl⟩ := List.mem_map.1 ht
   have := h.vb.trans u hu
   exact ⟨this.name, this.prio, this.pre.shift (by omega) (by omega), this.post.shift (by omega) (by omega), this.inh.shift (by omega) (by omega)⟩
 ·
  show ((a.2.1 ++ b.2.1).map (·.1)).Nodup
  rw [List.map_append]
  refine disj _ _ (fun s hs => ?_) h.va.pnames h.vb.pnames
  obtain ⟨p, hp, rfl⟩ := List.mem_map.1 hs
  exact (h.ps p hp).1
 ·
  show ((a.2.2 ++ b.2.2.map (shiftT _)).map (·.1)).Nodup
  rw [List.map_append, shiftT_names]
  refine disj _ _ (fun s hs => ?_) h.va.tnames h.vb.tnames
  obtain ⟨p, hp, rfl⟩ := List.mem_map.1 hs
  exact (h.ts p hp).2
 ·
  intro t ht
  show t.1 ∉ (a.2.1 ++ b.2.1).map (·.1)
  rw [List.map_append]
  intro hm
  rcases List.mem_append.1 ht with ht | ht
  ·
   rcases List.mem_append.1 hm with hm | hm
   ·
    exact h.va.apart t ht hm
   ·
    obtain ⟨p, hp, he⟩ := List.mem_map.1 hm
    exact (h.ps p hp).2 (List.mem_map.2 ⟨t, ht, he.symm⟩)
  ·
   obtain ⟨u, hu, rfl⟩ := List.mem_map.1 ht
   rcases List.mem_append.1 hm with hm | hm
   ·
    exact (h.ts u hu).1 hm
   ·
    exact h.vb.apart u hu hm
theorem subE_of {n : NetT} {ps ts : Int} (hv : ValidN n) (hne : filtB ps 0 n.2.1 ≠ []) : subE n ps ts = ((n.1, filtB ps 0 n.2.1, (filtB ts 0 n.2.2).map (keptT ps)), 0) := by
 unfold subE
 rw [checkN_t.2 hv]
 cases he : filtB ps 0 n.2.1 with
 | nil => exact absurd he hne
 | cons x l => rfl
theorem ne_of_len {α : Type} {l : List α} (h : 1 ≤ l.length) : l ≠ [] := fun e => by rw [e] at h; simp at h
theorem Join.first {a b : NetT} (h : Join a b) : subE (unionN a b) (allB (a.2.1.length : Int)) (allB (a.2.2.length : Int)) = (a, 0) := by
 have hpa := h.va.np
 have hta := h.va.nt
 have h1 := h.np
 have h2 := h.nt
 have ep : filtB (allB (a.2.1.length : Int)) 0 (unionN a b).2.1 = a.2.1 := by
  show filtB _ 0 (a.2.1 ++ b.2.1) = _
  rw [filtB_app]
  have e1 := filtB_all (s := allB (a.2.1.length : Int)) a.2.1 0 fun j hj => by rw [Nat.zero_add, allB_at (by omega) (by omega)]; exact decide_eq_true hj
  have e2 := filtB_none (s := allB (a.2.1.length : Int)) b.2.1 a.2.1.length fun j hj => by rw [allB_at (by omega) (by omega)]; exact decide_eq_false (by omega)
  rw [show (0 : Int) + (a.2.1.length : Int) = (a.2.1.length : Int) by omega, e2, List.append_nil]
  exact e1
 have et : filtB (allB (a.2.2.length : Int)) 0 (unionN a b).2.2 = a.2.2 := by
  show filtB _ 0 (a.2.2 ++ b.2.2.map (shiftT _)) = _
  rw [filtB_app]
  have e1 := filtB_all (s := allB (a.2.2.length : Int)) a.2.2 0 fun j hj => by rw [Nat.zero_add, allB_at (by omega) (by omega)]; exact decide_eq_true hj
  have e2 := filtB_none (s := allB (a.2.2.length : Int)) (b.2.2.map (shiftT (a.2.1.length : Int))) a.2.2.length fun j hj => by rw [List.length_map] at hj; rw [allB_at (by omega) (by omega)]; exact decide_eq_false (by omega)
  rw [show (0 : Int) + (a.2.2.length : Int) = (a.2.2.length : Int) by omega, e2, List.append_nil]
  exact e1
 rw [subE_of h.ok (by rw [ep]; exact ne_of_len hpa.1), ep, et, map_id_of]
 ·
  rfl
 ·
  intro t ht
  have := h.va.trans t ht
  have hs : ∀ j, j < a.2.1.length → hasB (allB (a.2.1.length : Int)) (j : Int) = true := fun j hj => by rw [allB_at (by omega) (by omega)]; exact decide_eq_true hj
  unfold keptT
  rw [keptL_id this.pre hs, keptL_id this.post hs, keptL_id this.inh hs]
theorem Join.second {a b : NetT} (h : Join a b) : subE (unionN a b) (notB (allB (a.2.1.length : Int))) (notB (allB (a.2.2.length : Int))) = ((a.1, b.2.1, b.2.2), 0) := by
 have hpa := h.va.np
 have hpb := h.vb.np
 have hta := h.va.nt
 have h1 := h.np
 have h2 := h.nt
 have ep : filtB (notB (allB (a.2.1.length : Int))) 0 (unionN a b).2.1 = b.2.1 := by
  show filtB _ 0 (a.2.1 ++ b.2.1) = _
  rw [filtB_app]
  have e1 := filtB_none (s := notB (allB (a.2.1.length : Int))) a.2.1 0 fun j hj => by rw [Nat.zero_add, notB_at (by omega) (by omega)]; exact decide_eq_false (by omega)
  have e2 := filtB_all (s := notB (allB (a.2.1.length : Int))) b.2.1 a.2.1.length fun j hj => by rw [notB_at (by omega) (by omega)]; exact decide_eq_true (by omega)
  rw [show (0 : Int) + (a.2.1.length : Int) = (a.2.1.length : Int) by omega, e2, show filtB (notB (allB (a.2.1.length : Int))) 0 a.2.1 = [] from e1]
  rfl
 have et : filtB (notB (allB (a.2.2.length : Int))) 0 (unionN a b).2.2 = b.2.2.map (shiftT (a.2.1.length : Int)) := by
  show filtB _ 0 (a.2.2 ++ b.2.2.map (shiftT _)) = _
  rw [filtB_app]
  have e1 := filtB_none (s := notB (allB (a.2.2.length : Int))) a.2.2 0 fun j hj => by rw [Nat.zero_add, notB_at (by omega) (by omega)]; exact decide_eq_false (by omega)
  have e2 := filtB_all (s := notB (allB (a.2.2.length : Int))) (b.2.2.map (shiftT (a.2.1.length : Int))) a.2.2.length fun j hj => by rw [List.length_map] at hj; rw [notB_at (by omega) (by omega)]; exact decide_eq_true (by omega)
  rw [show (0 : Int) + (a.2.2.length : Int) = (a.2.2.length : Int) by omega, e2, show filtB (notB (allB (a.2.2.length : Int))) 0 a.2.2 = [] from e1]
  rfl
 rw [subE_of h.ok (by rw [ep]; exact ne_of_len hpb.1), ep, et, List.map_map, map_id_of]
 ·
  rfl
 ·
  intro t ht
  have := h.vb.trans t ht
  have h0 : ∀ j, j < a.2.1.length → hasB (notB (allB (a.2.1.length : Int))) (j : Int) = false := fun j hj => by rw [notB_at (by omega) (by omega)]; exact decide_eq_false (by omega)
  have h1' : ∀ j, j < b.2.1.length → hasB (notB (allB (a.2.1.length : Int))) ((a.2.1.length + j : Nat) : Int) = true := fun j hj => by rw [notB_at (by omega) (by omega)]; exact decide_eq_true (by omega)
  show keptT _ (shiftT _ t) = t
  unfold keptT shiftT
  simp only
  rw [keptL_shift (by omega) (by omega) this.pre h0 h1', keptL_shift (by omega) (by omega) this.post h0 h1', keptL_shift (by omega) (by omega) this.inh h0 h1']
theorem sub_full {b : NetT} (hv : ValidN b) : subE b 18446744073709551615 18446744073709551615 = (b, 0) := by
 have hp := hv.np
 have ht := hv.nt
 have ep := filtB_all (s := 18446744073709551615) b.2.1 0 fun j hj => by rw [Nat.zero_add]; exact fullB_has ⟨j, by omega⟩
 have et := filtB_all (s := 18446744073709551615) b.2.2 0 fun j hj => by rw [Nat.zero_add]; exact fullB_has ⟨j, by omega⟩
 have ep : filtB 18446744073709551615 0 b.2.1 = b.2.1 := ep
 have et : filtB 18446744073709551615 0 b.2.2 = b.2.2 := et
 rw [subE_of hv (by rw [ep]; exact ne_of_len hp.1), ep, et, map_id_of]
 intro t ht
 have := hv.trans t ht
 have hs : ∀ j, j < b.2.1.length → hasB 18446744073709551615 (j : Int) = true := fun j hj => fullB_has ⟨j, by omega⟩
 unfold keptT
 rw [keptL_id this.pre hs, keptL_id this.post hs, keptL_id this.inh hs]
theorem pl12_TransformJoins.L0.law {α : Type} {N : Nat} (x3 : (List (BA × List (Int × Int) × List (Int × Int) × List (Int × Int) × Int))) (k0 : ((List (BA × List (Int × Int) × List (Int × Int) × List (Int × Int) × Int)) → Option α)) : ∀ (l : List TransT) (j : Int) (acc : List TransT), acc.length + l.length ≤ 1000 → (∀ t ∈ l, BigT t) → pl12_TransformJoins.L0.l N x3 k0 l j acc = k0 (acc ++ l)
 | [], j, acc, _, h => by rw [pl12_TransformJoins.L0.l, List.append_nil]
 | x :: l, j, acc, h0, h => by
  simp only [List.length_cons] at h0
  obtain ⟨h1, h2, h3⟩ := h x (by simp)
  rw [pl12_TransformJoins.L0.l]
  simp only [pf12_copied.pre, h1, h2, h3, cond_true]
  rw [ble1 _ (by omega)]
  simp only [cond_true]
  rw [pl12_TransformJoins.L0.law _ _ l _ _ (by simp; omega) (fun t ht => h t (by simp [ht])), List.append_assoc]
  rfl
theorem pl12_TransformJoins.law {α : Type} {N : Nat} (hN : 18446744073709551616 ≤ N) (a0 : BA × (List (BA × Int × Int)) × List (BA × (List (Int × Int)) × (List (Int × Int)) × (List (Int × Int)) × Int)) (a1 : BA × (List (BA × Int × Int)) × List (BA × (List (Int × Int)) × (List (Int × Int)) × (List (Int × Int)) × Int)) (w0 : K.wf (.st (.pr (.str) (.pr (.sl (.st (.pr (.str) (.pr (.int .i64) (.int .i64))))) (.sl (.st (.pr (.str) (.pr (.sl (.st (.pr (.int .i64) (.int .i64)))) (.pr (.sl (.st (.pr (.int .i64) (.int .i64)))) (.pr (.sl (.st (.pr (.int .i64) (.int .i64)))) (.int .i64)))))))))) a0) (w1 : K.wf (.st (.pr (.str) (.pr (.sl (.st (.pr (.str) (.pr (.int .i64) (.int .i64))))) (.sl (.st (.pr (.str) (.pr (.sl (.st (.pr (.int .i64) (.int .i64)))) (.pr (.sl (.st (.pr (.int .i64) (.int .i64)))) (.pr (.sl (.st (.pr (.int .i64) (.int .i64)))) (.int .i64)))))))))) a1) (kr : (Bool → Option α)) : pl12_TransformJoins.g N a0 a1 kr = kr (pl12_TransformJoins.spec a0 a1) := by
 unfold pl12_TransformJoins.g pl12_TransformJoins.spec
 simp only [lt, pf09_Small.spec, pl12_lives.spec, tf_Union.spec, tf_Subnet.spec, pl12_all.spec, pf09_Equal.spec]
 cases smallN a0
 ·
  rfl
 cases smallN a1
 ·
  rfl
 simp only [Bool.not_true, cond_false, cond_true]
 cases he : (unionE a0 a1).2 == 0
 ·
  simp only [bne, he, Bool.not_false, cond_true]
 simp only [bne, he, Bool.not_true, cond_false]
 obtain ⟨hj, hu⟩ := unionE_ok (beq0.1 he)
 have hb := hj.vb.np
 have hbt := hj.vb.nt
 rw [hu]
 have e2 := hj.second
 unfold notB at e2
 rw [hj.first, e2, sub_full hj.vb, ble0 (by omega), cond_true]
 refine (pl12_TransformJoins.L0.rng (N := N) _ (w1.2.2.1) _ N 0 _ (by have := le_fuel (w1.2.2.1) hN; omega) (Nat.zero_le _)).trans ?_
 refine (pl12_TransformJoins.L0.law _ _ _ _ _ (by simp; omega) (by simpa using hj.vb.big)).trans ?_
 simp only [List.drop_zero, List.nil_append, beq_self_eq_true, cond_true]
 rw [equalN_refl, equalN_refl, equalN_refl]
 rfl
theorem pl12_TransformJoins.ok : FentOk P 8 pl12_TransformJoins.fent := fentOk_of (by kernel_rfl) fun ds hk => by
 obtain ⟨a0, l0, rfl, h0⟩ := ds_cons hk
 obtain ⟨a1, l1, rfl, h1⟩ := ds_cons h0
 obtain rfl := ds0 h1
 exact ⟨true, [.dat (.bool) (pl12_TransformJoins.spec a0 a1)], fun h hw => pl12_TransformJoins.calls 18446744073709551616 a0 a1 (pl12_TransformJoins.law (Nat.le_refl _) a0 a1 hw.1 hw.2.1 _), fun α k => rfl⟩
theorem transformJoins_calls (x0 : K.T (.st (.pr (.str) (.pr (.sl (.st (.pr (.str) (.pr (.int .i64) (.int .i64))))) (.sl (.st (.pr (.str) (.pr (.sl (.st (.pr (.int .i64) (.int .i64)))) (.pr (.sl (.st (.pr (.int .i64) (.int .i64)))) (.pr (.sl (.st (.pr (.int .i64) (.int .i64)))) (.int .i64))))))))))) (x1 : K.T (.st (.pr (.str) (.pr (.sl (.st (.pr (.str) (.pr (.int .i64) (.int .i64))))) (.sl (.st (.pr (.str) (.pr (.sl (.st (.pr (.int .i64) (.int .i64)))) (.pr (.sl (.st (.pr (.int .i64) (.int .i64)))) (.pr (.sl (.st (.pr (.int .i64) (.int .i64)))) (.int .i64))))))))))) (w0 : K.wf (.st (.pr (.str) (.pr (.sl (.st (.pr (.str) (.pr (.int .i64) (.int .i64))))) (.sl (.st (.pr (.str) (.pr (.sl (.st (.pr (.int .i64) (.int .i64)))) (.pr (.sl (.st (.pr (.int .i64) (.int .i64)))) (.pr (.sl (.st (.pr (.int .i64) (.int .i64)))) (.int .i64)))))))))) x0) (w1 : K.wf (.st (.pr (.str) (.pr (.sl (.st (.pr (.str) (.pr (.int .i64) (.int .i64))))) (.sl (.st (.pr (.str) (.pr (.sl (.st (.pr (.int .i64) (.int .i64)))) (.pr (.sl (.st (.pr (.int .i64) (.int .i64)))) (.pr (.sl (.st (.pr (.int .i64) (.int .i64)))) (.int .i64)))))))))) x1) : CallsTo P 8 [⟨.st (.pr (.str) (.pr (.sl (.st (.pr (.str) (.pr (.int .i64) (.int .i64))))) (.sl (.st (.pr (.str) (.pr (.sl (.st (.pr (.int .i64) (.int .i64)))) (.pr (.sl (.st (.pr (.int .i64) (.int .i64)))) (.pr (.sl (.st (.pr (.int .i64) (.int .i64)))) (.int .i64))))))))), x0⟩, ⟨.st (.pr (.str) (.pr (.sl (.st (.pr (.str) (.pr (.int .i64) (.int .i64))))) (.sl (.st (.pr (.str) (.pr (.sl (.st (.pr (.int .i64) (.int .i64)))) (.pr (.sl (.st (.pr (.int .i64) (.int .i64)))) (.pr (.sl (.st (.pr (.int .i64) (.int .i64)))) (.int .i64))))))))), x1⟩] [.dat .bool true] := pl12_TransformJoins.calls 18446744073709551616 x0 x1 (pl12_TransformJoins.law (Nat.le_refl _) x0 x1 w0 w1 _)
end Go.VI
