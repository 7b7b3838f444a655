/- What the functions that TransformStarts calls compute: printed out of the interpreter's normal forms (wip/vi/vigen.py) and proved. -/
import Derived.Test.YtlfhhfjlflccgaaDoorVTransformStarts1
import Derived.Test.YtlfhhfjlflccgaaDoorProg
set_option linter.unusedVariables false
set_option linter.unusedSimpArgs false
set_option maxRecDepth 100000
set_option maxHeartbeats 4000000
noncomputable section
namespace Go.VI
open Go Go.Proofs
theorem placeQ_iff {p q : PlaceT} : placeQ p q = true ↔ p = q := by
 unfold placeQ
 simp only [Bool.and_eq_true, sEq_iff, beq_iff_eq]
 exact ⟨fun ⟨a, b, c⟩ => Prod.ext a (Prod.ext b c), fun h => by rw [h]; exact ⟨rfl, rfl, rfl⟩⟩
theorem transQ_iff {x y : TransT} : transQ x y = true ↔ x = y := by
 unfold transQ
 simp only [Bool.and_eq_true, sEq_iff, beq_iff_eq, decide_eq_true_eq]
 exact ⟨fun ⟨⟨⟨⟨a, b⟩, c⟩, d⟩, e⟩ => Prod.ext a (Prod.ext c (Prod.ext d (Prod.ext e b))), fun h => by rw [h]; exact ⟨⟨⟨⟨rfl, rfl⟩, rfl⟩, rfl⟩, rfl⟩⟩
theorem allQ_iff {α : Type} {f : α → α → Bool} (hf : ∀ x y, f x y = true ↔ x = y) : ∀ {l m : List α}, allQ f l m = true ↔ l = m
 | [], [] => by simp [allQ]
 | x :: l, y :: m => by
  rw [allQ, Bool.and_eq_true, hf, allQ_iff hf]
  simp
 | [], _ :: _ => by simp [allQ]
 | _ :: _, [] => by simp [allQ]
theorem equalN_iff {a b : NetT} : equalN a b = true ↔ a = b := by
 unfold equalN
 rw [Bool.and_eq_true, Bool.and_eq_true, sEq_iff, allQ_iff (fun _ _ => placeQ_iff), allQ_iff (fun _ _ => transQ_iff)]
 exact ⟨fun ⟨⟨h1, h2⟩, h3⟩ => Prod.ext h1 (Prod.ext h2 h3), fun h => by rw [h]; exact ⟨⟨rfl, rfl⟩, rfl⟩⟩
theorem equalN_refl (a : NetT) : equalN a a = true := equalN_iff.2 rfl
end Go.VI
namespace Go.VI
open Go Go.Proofs
namespace pl12_TransformStarts
def an9 : Ann := [(11, [1, 5, 7, 9, 10], [4, 5, 7, 9])]
def L0.sh : Sh := { sl := [(1, SV.a (SA.d (K.int IntKind.i64).sl)), (5, SV.a (SA.fx (Atom.box 0 0))), (7, SV.a (SA.fx (Atom.box 1 0))), (9, SV.a (SA.fx (Atom.sl 2 0 none))), (10, SV.a (SA.d (K.int IntKind.i64)))], os := [(0, SO.box [SA.d K.str, SA.d (K.str.pr ((K.int IntKind.i64).pr (K.int IntKind.i64))).st.sl, SA.d (K.str.pr (((K.int IntKind.i64).pr (K.int IntKind.i64)).st.sl.pr (((K.int IntKind.i64).pr (K.int IntKind.i64)).st.sl.pr (((K.int IntKind.i64).pr (K.int IntKind.i64)).st.sl.pr (K.int IntKind.i64))))).st.sl]), (1, SO.box [SA.d K.str, SA.d (K.str.pr ((K.int IntKind.i64).pr (K.int IntKind.i64))).st.sl, SA.d (K.str.pr (((K.int IntKind.i64).pr (K.int IntKind.i64)).st.sl.pr (((K.int IntKind.i64).pr (K.int IntKind.i64)).st.sl.pr (((K.int IntKind.i64).pr (K.int IntKind.i64)).st.sl.pr (K.int IntKind.i64))))).st.sl]), (2, SO.row (K.int IntKind.i64) 0)], nx := 3 }
def L0.x0 : Sh := { sl := [(4, SV.a (SA.d K.bool)), (5, SV.a (SA.fx (Atom.box 0 0))), (7, SV.a (SA.fx (Atom.box 1 0))), (9, SV.a (SA.fx (Atom.sl 2 0 none)))], os := [(0, SO.box [SA.d K.str, SA.d (K.str.pr ((K.int IntKind.i64).pr (K.int IntKind.i64))).st.sl, SA.d (K.str.pr (((K.int IntKind.i64).pr (K.int IntKind.i64)).st.sl.pr (((K.int IntKind.i64).pr (K.int IntKind.i64)).st.sl.pr (((K.int IntKind.i64).pr (K.int IntKind.i64)).st.sl.pr (K.int IntKind.i64))))).st.sl]), (1, SO.box [SA.d K.str, SA.d (K.str.pr ((K.int IntKind.i64).pr (K.int IntKind.i64))).st.sl, SA.d (K.str.pr (((K.int IntKind.i64).pr (K.int IntKind.i64)).st.sl.pr (((K.int IntKind.i64).pr (K.int IntKind.i64)).st.sl.pr (((K.int IntKind.i64).pr (K.int IntKind.i64)).st.sl.pr (K.int IntKind.i64))))).st.sl]), (2, SO.row (K.int IntKind.i64) 0)], nx := 3 }
def L0.x1 : Sh := { sl := [(4, SV.j), (5, SV.a (SA.fx (Atom.box 0 0))), (7, SV.a (SA.fx (Atom.box 1 0))), (9, SV.a (SA.fx (Atom.sl 2 0 none)))], os := [(0, SO.box [SA.d K.str, SA.d (K.str.pr ((K.int IntKind.i64).pr (K.int IntKind.i64))).st.sl, SA.d (K.str.pr (((K.int IntKind.i64).pr (K.int IntKind.i64)).st.sl.pr (((K.int IntKind.i64).pr (K.int IntKind.i64)).st.sl.pr (((K.int IntKind.i64).pr (K.int IntKind.i64)).st.sl.pr (K.int IntKind.i64))))).st.sl]), (1, SO.box [SA.d K.str, SA.d (K.str.pr ((K.int IntKind.i64).pr (K.int IntKind.i64))).st.sl, SA.d (K.str.pr (((K.int IntKind.i64).pr (K.int IntKind.i64)).st.sl.pr (((K.int IntKind.i64).pr (K.int IntKind.i64)).st.sl.pr (((K.int IntKind.i64).pr (K.int IntKind.i64)).st.sl.pr (K.int IntKind.i64))))).st.sl]), (2, SO.row (K.int IntKind.i64) 0)], nx := 3 }
def L0.st {α : Type} (N : Nat) (x0 : (List Int)) (x3 : (List (BA × Int × Int))) (x6 : (List (BA × Int × Int))) (φ : (Int → (List Int) → Option α)) (x1 : Int) (x8 : (List Int)) (k0 : (Bool → (List Int) → Option α)) (k1 : ((List Int) → Option α)) : Option α :=
 cond (decide (x1 < (↑x3.length : Int))) (cond ((↑x6.length : Int) != (↑x3.length : Int)) (k0 (false) (x8)) (cond ((↑x0.length : Int) != (↑x3.length : Int)) (k0 (false) (x8)) (cond (decide (0 ≤ x1) && decide (x1 < (↑x6.length : Int))) (cond (decide (0 ≤ x1) && decide (x1 < (↑x0.length : Int))) (cond ((x6.getD x1.toNat (eBA, 0, 0)).snd.fst != x0.getD x1.toNat (0 : Int)) (k0 (false) (x8)) (cond (decide (0 ≤ x1) && decide (x1 < (↑x3.length : Int))) (cond ((x8.length + 1).ble mxl) (φ (IntKind.i64.wrap (x1 + 1)) (x8 ++ [(x3.getD x1.toNat (eBA, 0, 0)).snd.fst])) (none)) (none))) (none)) (none)))) (k1 (x8))
def L0.f {α : Type} (N : Nat) (c0 : (List Int)) (c2 : (List (BA × Int × Int))) (c5 : (List (BA × Int × Int))) : Nat → Int → (List Int) → (Bool → (List Int) → Option α) → ((List Int) → Option α) → Option α
 | 0, _, _, _, _ => none
 | n + 1, d0, d1, k0, k1 => L0.st N c0 c2 c5 (fun e0 e1 => L0.f N c0 c2 c5 n e0 e1 k0 k1) d0 d1 k0 k1
def L0.up (d : L0.sh.T) (e0 : Int) (e1 : (List Int)) : L0.sh.T := ((d.1.1, ((), ((), ((), (e0, ()))))), ((d.2.1.1, (d.2.1.2.1, (d.2.1.2.2.1, ()))), ((d.2.2.1.1, (d.2.2.1.2.1, (d.2.2.1.2.2.1, ()))), (e1, ()))))
def L0.k0 {α : Type} (d : L0.sh.T) (K : Cont α) : (Bool → (List Int) → Option α) := fun y0 y1 => K (Exit.ret) (L0.x0.enc ((y0, ((), ((), ((), ())))), ((d.2.1.1, (d.2.1.2.1, (d.2.1.2.2.1, ()))), ((d.2.2.1.1, (d.2.2.1.2.1, (d.2.2.1.2.2.1, ()))), (y1, ())))))
def L0.k1 {α : Type} (d : L0.sh.T) (K : Cont α) : ((List Int) → Option α) := fun y0 => K (Exit.exit 0) (L0.x1.enc (((), ((), ((), ((), ())))), ((d.2.1.1, (d.2.1.2.1, (d.2.1.2.2.1, ()))), ((d.2.2.1.1, (d.2.2.1.2.1, (d.2.2.1.2.2.1, ()))), (y0, ())))))
def L0.F {α : Type} (N : Nat) (d : L0.sh.T) (K : Cont α) : Option α := L0.f N d.1.1 d.2.1.2.1 d.2.2.1.2.1 N d.1.2.2.2.2.1 d.2.2.2.1 (L0.k0 d K) (L0.k1 d K)
def ents9 {α : Type} (N : Nat) : List (SmE α) := [⟨0, 50, 11, [⟨L0.sh, L0.F N⟩]⟩]
def C (N : Nat) : Ctx := ⟨tys, [(11, pf09_Small.fent), (12, pl12_lives.fent), (17, pf09_Equal.fent), (25, tf_Start.fent)], [], N⟩
def L0.B {α : Type} (N : Nat) : Env → Cont α → Option α := evC tys 92 0 (evCall (C N) 50) (evCallQ (C N)) N an9 (smL (ents9 N) 0 50) (loopOf 11 Tryd.f9)
theorem L0.r {α : Type} (N : Nat) (φ : Env → Option α) (K : Cont α) (d : L0.sh.T) : L0.B N (L0.sh.enc d) (contL φ K (Env.norm 0 [1, 5, 7, 9, 10]) (Env.norm 0 [4, 5, 7, 9])) = L0.st N d.1.1 d.2.1.2.1 d.2.2.1.2.1 (fun e0 e1 => φ (L0.sh.enc (L0.up d e0 e1))) d.1.2.2.2.2.1 d.2.2.2.1 (L0.k0 d K) (L0.k1 d K) := by kernel_rfl
theorem L0.e {α : Type} (N : Nat) : ∀ (n : Nat) (d : L0.sh.T) (K : Cont α), evL (L0.B N) (Env.norm 0 [1, 5, 7, 9, 10]) (Env.norm 0 [4, 5, 7, 9]) n (L0.sh.enc d) K = L0.f N d.1.1 d.2.1.2.1 d.2.2.1.2.1 n d.1.2.2.2.2.1 d.2.2.2.1 (L0.k0 d K) (L0.k1 d K)
 | 0, d, K => rfl
 | n + 1, d, K => evL_contL.trans ((L0.r N _ K d).trans (congrArg (fun φ => L0.st N d.1.1 d.2.1.2.1 d.2.2.1.2.1 φ d.1.2.2.2.2.1 d.2.2.2.1 (L0.k0 d K) (L0.k1 d K)) (funext fun e0 => funext fun e1 => L0.e N n (L0.up d e0 e1) K)))
theorem ents9_ok {α : Type} (N : Nat) : AllP (EntOk (C N) Tryd.f9 an9 (ents9 (α := α) N)) (ents9 N) := ⟨entOk_of (b0 := loopOf 11 Tryd.f9) (li0 := [1, 5, 7, 9, 10]) (lx0 := [4, 5, 7, 9]) (by kernel_rfl) (by kernel_rfl) ⟨fun d K => L0.e N N d K, trivial⟩, trivial⟩
def g {α : Type} (N : Nat) (a0 : BA × List (BA × Int × Int) × List (BA × List (Int × Int) × List (Int × Int) × List (Int × Int) × Int)) (a1 : List Int) (kr : (Bool → Option α)) : Option α :=
 cond (!pl12_lives.spec) (kr (false)) (lt (pf09_Small.spec a0) fun v1 => cond (!v1.snd) (kr (true)) (cond (decide (30 < (↑a1.length : Int))) (kr (true)) (lt (tf_Start.spec v1.fst a1) fun v2 => cond (v2.snd != 0) (kr (true)) (L0.f N (a1) (v1.fst.snd.fst) (v2.fst.snd.fst) N (0) ([]) (fun x9 x10 => kr (x9)) (fun x11 => cond ((tf_Start.spec v2.fst x11).snd == 0) (kr ((pf09_Equal.spec (tf_Start.spec v2.fst x11).fst v1.fst))) (kr (false)))))))
theorem eq (N : Nat) (a0 : BA × List (BA × Int × Int) × List (BA × List (Int × Int) × List (Int × Int) × List (Int × Int) × Int)) (a1 : List Int) : evF (C N) 50 Tryd.f9 an9 (smL (ents9 N) 0 50) [((.bool : K), false)] [⟨.st (.pr (.str) (.pr (.sl (.st (.pr (.str) (.pr (.int .i64) (.int .i64))))) (.sl (.st (.pr (.str) (.pr (.sl (.st (.pr (.int .i64) (.int .i64)))) (.pr (.sl (.st (.pr (.int .i64) (.int .i64)))) (.pr (.sl (.st (.pr (.int .i64) (.int .i64)))) (.int .i64))))))))), a0⟩, ⟨.sl (.int .i64), a1⟩] = g N a0 a1 (fun r0 => some [.dat (K.bool) r0]) := by kernel_rfl
theorem ctxOk (N : Nat) : CtxOk P (C N) := ctxOk_of tysOk mixedOk ⟨pf09_Small.ok, pl12_lives.ok, pf09_Equal.ok, tf_Start.ok, trivial⟩ trivial
theorem calls (N : Nat) (a0 : BA × List (BA × Int × Int) × List (BA × List (Int × Int) × List (Int × Int) × List (Int × Int) × Int)) (a1 : List Int) {rs : List Rs} (h : g N a0 a1 (fun r0 => some [.dat (K.bool) r0]) = some rs) : CallsTo P 9 [⟨.st (.pr (.str) (.pr (.sl (.st (.pr (.str) (.pr (.int .i64) (.int .i64))))) (.sl (.st (.pr (.str) (.pr (.sl (.st (.pr (.int .i64) (.int .i64)))) (.pr (.sl (.st (.pr (.int .i64) (.int .i64)))) (.pr (.sl (.st (.pr (.int .i64) (.int .i64)))) (.int .i64))))))))), a0⟩, ⟨.sl (.int .i64), a1⟩] rs := evF_calls' (ctxOk N) (by rfl) (ents9_ok N) ((eq N a0 a1).trans h)
def L0.l {α : Type} (N : Nat) (x0 : (List Int)) (x3 : (List (BA × Int × Int))) (x6 : (List (BA × Int × Int))) (k0 : (Bool → (List Int) → Option α)) (k1 : ((List Int) → Option α)) : List (BA × Int × Int) → Int → (List Int) → Option α
 | [], x1, x8 => k1 (x8)
 | x :: l, x1, x8 => cond ((↑x6.length : Int) != (↑x3.length : Int)) (k0 (false) (x8)) (cond ((↑x0.length : Int) != (↑x3.length : Int)) (k0 (false) (x8)) (cond (decide (0 ≤ x1) && decide (x1 < (↑x6.length : Int))) (cond (decide (0 ≤ x1) && decide (x1 < (↑x0.length : Int))) (cond ((x6.getD x1.toNat (eBA, 0, 0)).snd.fst != x0.getD x1.toNat (0 : Int)) (k0 (false) (x8)) ((cond ((x8.length + 1).ble mxl) (L0.l N x0 x3 x6 k0 k1 l (x1 + 1) (x8 ++ [x.snd.fst])) (none)))) (none)) (none)))
theorem L0.rng {α : Type} {N : Nat} (x0 : (List Int)) (x3 : (List (BA × Int × Int))) (x6 : (List (BA × Int × Int))) (hl : x3.length ≤ maxLen) (k0 : (Bool → (List Int) → Option α)) (k1 : ((List Int) → Option α)) : ∀ (n j : Nat) (x8 : (List Int)), x3.length < n + j → j ≤ x3.length → L0.f N x0 x3 x6 n (j : Int) x8 k0 k1 = L0.l N x0 x3 x6 k0 k1 (x3.drop j) (j : Int) x8 :=
 rng1 x3 hl (fun n i x8 => L0.f N x0 x3 x6 n i x8 k0 k1) (fun l i x8 => L0.l N x0 x3 x6 k0 k1 l i x8) (fun n j hj h ih x8 => by simp only [L0.f, L0.st, L0.l, h.a, h.b, h.c, h.d, h.e, Bool.true_and, Bool.and_true, Bool.and_self, cond_true, ih] <;> rfl) (fun n j h x8 => by simp only [L0.f, L0.st, L0.l, h, cond_false])
end pl12_TransformStarts
theorem pl12_TransformStarts.L0.law {α : Type} {N : Nat} (x0 : (List Int)) (x3 : (List (BA × Int × Int))) (x6 : (List (BA × Int × Int))) (k0 : (Bool → (List Int) → Option α)) (k1 : ((List Int) → Option α)) (h6 : x6.length = x3.length) (h0 : x0.length = x3.length) (hi : ∀ j, j < x3.length → (x6.getD j (eBA, 0, 0)).2.1 = x0.getD j 0) : ∀ (l : List PlaceT) (j : Nat) (acc : List Int), l = x3.drop j → acc.length + l.length ≤ 1000 → pl12_TransformStarts.L0.l N x0 x3 x6 k0 k1 l (j : Int) acc = k1 (acc ++ l.map (·.2.1))
 | [], j, acc, _, _ => by rw [pl12_TransformStarts.L0.l]; simp
 | x :: l, j, acc, hl, h => by
  obtain ⟨hj, hx, hl'⟩ := drop_step hl
  simp only [List.length_cons] at h
  rw [pl12_TransformStarts.L0.l]
  simp only [bne_len, beq_t h6, beq_t h0, Bool.not_true, cond_false, d_0, d_lt (show j < x6.length by omega), d_lt (show j < x0.length by omega), Bool.and_self, cond_true, Int.toNat_natCast, hi j hj, bne_self_eq_false, ble1 _ (show acc.length + 1 ≤ 1073741824 by omega)]
  rw [← succ_cast, pl12_TransformStarts.L0.law _ _ _ _ _ h6 h0 hi l (j + 1) _ hl' (by simp; omega)]
  simp
def stP (ps : List PlaceT) (m : List Int) : List PlaceT := List.zipWith (fun p k => (p.1, k, p.2.2)) ps m
theorem stP_len : ∀ {ps : List PlaceT} {m : List Int}, ps.length = m.length → (stP ps m).length = ps.length := by
 intro ps m h
 unfold stP
 rw [List.length_zipWith]
 omega
theorem stP_names : ∀ {ps : List PlaceT} {m : List Int}, ps.length = m.length → (stP ps m).map (·.1) = ps.map (·.1)
 | [], [], _ => rfl
 | p :: ps, k :: m, h => by
  have := stP_names (ps := ps) (m := m) (by simpa using h)
  unfold stP at this ⊢
  rw [List.zipWith_cons_cons, List.map_cons, List.map_cons, this]
 | [], _ :: _, h => by simp at h
 | _ :: _, [], h => by simp at h
theorem stP_back : ∀ {ps : List PlaceT} {m : List Int}, ps.length = m.length → stP (stP ps m) (ps.map (·.2.1)) = ps
 | [], [], _ => rfl
 | p :: ps, k :: m, h => by
  have := stP_back (ps := ps) (m := m) (by simpa using h)
  unfold stP at this ⊢
  rw [List.zipWith_cons_cons, List.map_cons, List.zipWith_cons_cons, this]
 | [], _ :: _, h => by simp at h
 | _ :: _, [], h => by simp at h
theorem stP_ok : ∀ {ps : List PlaceT} {m : List Int}, (∀ p ∈ ps, PlaceOk p) → (∀ k ∈ m, 0 ≤ k ∧ k ≤ 1048576) → (∀ q ∈ ps.zip m, q.1.2.2 = 0 ∨ q.2 ≤ q.1.2.2) → ∀ p ∈ stP ps m, PlaceOk p
 | [], m, _, _, _, p, hp => by simp [stP] at hp
 | _ :: _, [], _, _, _, p, hp => by simp [stP] at hp
 | x :: ps, k :: m, h1, h2, h3, p, hp => by
  unfold stP at hp
  rw [List.zipWith_cons_cons] at hp
  rcases List.mem_cons.1 hp with rfl | hp
  ·
   have a := h1 x (by simp)
   have b := h2 k (by simp)
   exact ⟨a.name, a.cap, b.1, b.2, h3 (x, k) (by simp)⟩
  ·
   exact stP_ok (fun q hq => h1 q (by simp [hq])) (fun q hq => h2 q (by simp [hq])) (fun q hq => h3 q (by rw [List.zip_cons_cons]; simp [hq])) p hp
theorem stP_zip : ∀ {ps : List PlaceT} {m : List Int}, ps.length = m.length → (∀ p ∈ ps, PlaceOk p) → ∀ q ∈ (stP ps m).zip (ps.map (·.2.1)), q.1.2.2 = 0 ∨ q.2 ≤ q.1.2.2
 | [], [], _, _, q, hq => by simp [stP] at hq
 | p :: ps, k :: m, h, hp, q, hq => by
  unfold stP at hq
  rw [List.zipWith_cons_cons, List.map_cons, List.zip_cons_cons] at hq
  rcases List.mem_cons.1 hq with rfl | hq
  ·
   exact (hp p (by simp)).init.2.2
  ·
   exact stP_zip (by simpa using h) (fun x hx => hp x (by simp [hx])) q hq
 | [], _ :: _, h, _, _, _ => by simp at h
 | _ :: _, [], h, _, _, _ => by simp at h
theorem over_iff {n : NetT} {m : List Int} : over n m = false ↔ ∀ q ∈ n.2.1.zip m, q.1.2.2 = 0 ∨ q.2 ≤ q.1.2.2 := by
 unfold over
 rw [List.any_eq_false]
 constructor
 ·
  intro h q hq
  have := h q hq
  simp only [Bool.and_eq_true, Bool.not_eq_true', beq_eq_false_iff_ne, ne_eq, decide_eq_true_eq] at this
  omega
 ·
  intro h q hq
  have := h q hq
  simp only [Bool.and_eq_true, Bool.not_eq_true', beq_eq_false_iff_ne, ne_eq, decide_eq_true_eq]
  omega
theorem mValid_iff {m : List Int} {n : Nat} : marking_Valid.spec m (n : Int) = true ↔ m.length = n ∧ ∀ k ∈ m, 0 ≤ k ∧ k ≤ 1048576 := by
 unfold marking_Valid.spec
 simp only [Bool.and_eq_true, decide_eq_true_eq, List.all_eq_true]
 constructor
 ·
  rintro ⟨a, b⟩; exact ⟨by omega, b⟩
 ·
  rintro ⟨a, b⟩; exact ⟨by omega, b⟩
theorem startE_ok {n : NetT} {m : List Int} (h : (startE n m).2 = 0) : ValidN n ∧ (m.length = n.2.1.length ∧ ∀ k ∈ m, 0 ≤ k ∧ k ≤ 1048576) ∧ over n m = false ∧ (startE n m).1 = startN n m := by
 unfold startE at h ⊢
 cases hc : (checkN n).1 == 0
 ·
  simp only [hc, cond_false] at h
  rw [h] at hc
  cases hc
 ·
  rw [hc] at h
  simp only [cond_true] at h ⊢
  cases hm : marking_Valid.spec m (n.2.1.length : Int)
  ·
   rw [hm] at h; cases h
  ·
   rw [hm] at h
   simp only [cond_true] at h ⊢
   cases ho : over n m
   ·
    exact ⟨checkN_t.1 hc, mValid_iff.1 hm, rfl, rfl⟩
   ·
    rw [ho] at h; cases h
theorem startN_ok {n : NetT} {m : List Int} (hv : ValidN n) (hm : m.length = n.2.1.length ∧ ∀ k ∈ m, 0 ≤ k ∧ k ≤ 1048576) (ho : over n m = false) : ValidN (startN n m) := by
 have hl := stP_len (ps := n.2.1) (m := m) hm.1.symm
 have hn := stP_names (ps := n.2.1) (m := m) hm.1.symm
 have e : startN n m = (n.1, stP n.2.1 m, n.2.2) := rfl
 rw [e]
 exact ⟨hv.name, (show _ ∧ _ by rw [hl]; exact hv.np), hv.nt, stP_ok hv.place hm.2 (over_iff.1 ho), (show ∀ t ∈ n.2.2, TransOk (((stP n.2.1 m).length : Nat) : Int) t by rw [hl]; exact hv.trans), (show ((stP n.2.1 m).map (·.1)).Nodup by rw [hn]; exact hv.pnames), hv.tnames, (show ∀ t ∈ n.2.2, t.1 ∉ (stP n.2.1 m).map (·.1) by rw [hn]; exact hv.apart)⟩
theorem start_back {n : NetT} {m : List Int} (hv : ValidN n) (hm : m.length = n.2.1.length ∧ ∀ k ∈ m, 0 ≤ k ∧ k ≤ 1048576) (ho : over n m = false) : startE (startN n m) (n.2.1.map (·.2.1)) = (n, 0) := by
 have hl := stP_len (ps := n.2.1) (m := m) hm.1.symm
 have e : startN n m = (n.1, stP n.2.1 m, n.2.2) := rfl
 have h1 : marking_Valid.spec (n.2.1.map (·.2.1)) (((startN n m).2.1.length : Nat) : Int) = true := by
  rw [mValid_iff, e]
  refine ⟨by rw [List.length_map, hl], fun k hk => ?_⟩
  obtain ⟨p, hp, rfl⟩ := List.mem_map.1 hk
  have := (hv.place p hp).init
  exact ⟨this.1, this.2.1⟩
 have h2 : over (startN n m) (n.2.1.map (·.2.1)) = false := over_iff.2 (stP_zip hm.1.symm hv.place)
 unfold startE
 rw [checkN_t.2 (startN_ok hv hm ho), h1, h2]
 simp only [cond_true, cond_false]
 have e2 : startN (startN n m) (n.2.1.map (·.2.1)) = (n.1, stP (stP n.2.1 m) (n.2.1.map (·.2.1)), n.2.2) := rfl
 rw [e2, stP_back hm.1.symm]
theorem pl12_TransformStarts.law {α : Type} {N : Nat} (hN : 18446744073709551616 ≤ N) (a0 : BA × (List (BA × Int × Int)) × List (BA × (List (Int × Int)) × (List (Int × Int)) × (List (Int × Int)) × Int)) (a1 : List Int) (w0 : K.wf (.st (.pr (.str) (.pr (.sl (.st (.pr (.str) (.pr (.int .i64) (.int .i64))))) (.sl (.st (.pr (.str) (.pr (.sl (.st (.pr (.int .i64) (.int .i64)))) (.pr (.sl (.st (.pr (.int .i64) (.int .i64)))) (.pr (.sl (.st (.pr (.int .i64) (.int .i64)))) (.int .i64)))))))))) a0) (w1 : K.wf (.sl (.int .i64)) a1) (kr : (Bool → Option α)) : pl12_TransformStarts.g N a0 a1 kr = kr (pl12_TransformStarts.spec a0 a1) := by
 unfold pl12_TransformStarts.g pl12_TransformStarts.spec
 simp only [lt, pf09_Small.spec, pl12_lives.spec, tf_Start.spec, pf09_Equal.spec]
 cases smallN a0
 ·
  rfl
 simp only [Bool.not_true, cond_false, cond_true]
 by_cases h30 : 30 < (a1.length : Int)
 ·
  rw [decide_eq_true h30]; rfl
 simp only [decide_eq_false h30, cond_false]
 cases he : (startE a0 a1).2 == 0
 ·
  simp only [bne, he, Bool.not_false, cond_true]
 simp only [bne, he, Bool.not_true, cond_false]
 obtain ⟨hv, hm, ho, hs⟩ := startE_ok (beq0.1 he)
 rw [hs]
 have hw : a0.2.1.length ≤ maxLen := w0.2.1.1
 have hl := stP_len (ps := a0.2.1) (m := a1) hm.1.symm
 have hnp := hv.np
 refine (pl12_TransformStarts.L0.rng (N := N) _ _ _ (hw) _ _ N 0 _ (by have := le_fuel (hw) hN; omega) (Nat.zero_le _)).trans ?_
 refine (pl12_TransformStarts.L0.law _ _ _ _ _ hl hm.1 (fun j hj => ?_) _ 0 _ rfl (by simp; omega)).trans ?_
 ·
  have h1 : j < (stP a0.2.1 a1).length := by omega
  have h2 : j < a1.length := by omega
  show ((stP a0.2.1 a1).getD j (eBA, 0, 0)).2.1 = _
  rw [getD_n h1, getD_n h2]
  simp [stP]
 ·
  simp only [List.nil_append, List.drop_zero]
  rw [start_back hv hm ho, equalN_refl]
  rfl
theorem pl12_TransformStarts.ok : FentOk P 9 pl12_TransformStarts.fent := fentOk_of (by kernel_rfl) fun ds hk => by
 obtain ⟨a0, l0, rfl, h0⟩ := ds_cons hk
 obtain ⟨a1, l1, rfl, h1⟩ := ds_cons h0
 obtain rfl := ds0 h1
 exact ⟨true, [.dat (.bool) (pl12_TransformStarts.spec a0 a1)], fun h hw => pl12_TransformStarts.calls 18446744073709551616 a0 a1 (pl12_TransformStarts.law (Nat.le_refl _) a0 a1 hw.1 hw.2.1 _), fun α k => rfl⟩
theorem transformStarts_calls (x0 : K.T (.st (.pr (.str) (.pr (.sl (.st (.pr (.str) (.pr (.int .i64) (.int .i64))))) (.sl (.st (.pr (.str) (.pr (.sl (.st (.pr (.int .i64) (.int .i64)))) (.pr (.sl (.st (.pr (.int .i64) (.int .i64)))) (.pr (.sl (.st (.pr (.int .i64) (.int .i64)))) (.int .i64))))))))))) (x1 : K.T (.sl (.int .i64))) (w0 : K.wf (.st (.pr (.str) (.pr (.sl (.st (.pr (.str) (.pr (.int .i64) (.int .i64))))) (.sl (.st (.pr (.str) (.pr (.sl (.st (.pr (.int .i64) (.int .i64)))) (.pr (.sl (.st (.pr (.int .i64) (.int .i64)))) (.pr (.sl (.st (.pr (.int .i64) (.int .i64)))) (.int .i64)))))))))) x0) (w1 : K.wf (.sl (.int .i64)) x1) : CallsTo P 9 [⟨.st (.pr (.str) (.pr (.sl (.st (.pr (.str) (.pr (.int .i64) (.int .i64))))) (.sl (.st (.pr (.str) (.pr (.sl (.st (.pr (.int .i64) (.int .i64)))) (.pr (.sl (.st (.pr (.int .i64) (.int .i64)))) (.pr (.sl (.st (.pr (.int .i64) (.int .i64)))) (.int .i64))))))))), x0⟩, ⟨.sl (.int .i64), x1⟩] [.dat .bool true] := pl12_TransformStarts.calls 18446744073709551616 x0 x1 (pl12_TransformStarts.law (Nat.le_refl _) x0 x1 w0 w1 _)
end Go.VI
