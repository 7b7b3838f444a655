/- An interpreter for the model's code on plain Lean data, and the proof that what it tells of a call is so. Written in this work (wip/vi). -/
import Derived.Test.YtlfhhfjlflccgaaDoorVi1
import Derived.Calls
import Derived.Orders
import Derived.Scope
import Derived.Laws.World
import Derived.Below
import Derived.KernelRfl
import Derived.Laws.AppendOwn
import Derived.Laws.MakeOwn
import Derived.Laws.Closers25b
import Derived.Laws.RangeAny
import Derived.Laws.Slices
import Derived.Laws.Tables
import Derived.Laws.Small
import Derived.Laws.CopyRow
import Derived.Laws.StructEq
import Derived.Deep.MidRow
import Derived.Lib.OthersKept
import Derived.Laws.BytesArg
import Derived.OpenShut
import Derived.DataReads
import Derived.ChangeSlices
import Derived.WideShapes
namespace Go.VI
open Go Go.RowKit
set_option linter.unusedVariables false
set_option linter.unusedSimpArgs false
def eBA : ByteArray := ⟨#[]⟩
def lt {α β : Type} (x : α) (f : α → β) : β := f x
abbrev LtT := (α β : Type) → α → (α → β) → β
def contL {α : Type} (φ : Env → Option α) (K : Cont α) (nm no : Env → Env) : Cont α := fun x e => match x with
 | .normal => φ (nm e)
 | x => K x (no e)
theorem evL_contL {α : Type} {B : Env → Cont α → Option α} {nm no : Env → Env} {n : Nat} {e : Env} {K : Cont α} : evL B nm no (n + 1) e K = B e (contL (fun e => evL B nm no n e K) K nm no) := by
 rw [evL]
 rfl
def findLoop (n : Nat) : Code → Option Code
 | .loop b => cond (Nat.beq (rid b) n) (some b) (findLoop n b)
 | .seq a b => match findLoop n a with | some c => some c | none => findLoop n b
 | .cond _ a b => match findLoop n a with | some c => some c | none => findLoop n b
 | .block _ b => findLoop n b
 | .scope b => findLoop n b
 | _ => none
def bodyOf (fn : Func) : Code := fn.body.getD .skip
def loopOf (n : Nat) (fn : Func) : Code := (findLoop n (bodyOf fn)).getD .skip
structure SE (α : Type) where
 sh : Sh
 F : sh.T → Cont α → Option α
def sums {α : Type} : List (SE α) → Env → Cont α → Option α
 | [], _, _ => none
 | x :: l, e, k => match x.sh.dec e with
  | some d => x.F d k
  | none => sums l e k
def AllSE {α : Type} (L : Env → Cont α → Option α) : List (SE α) → Prop
 | [] => True
 | x :: l => (∀ d k, L (x.sh.enc d) k = x.F d k) ∧ AllSE L l
theorem sums_ok {α : Type} {L : Env → Cont α → Option α} {e : Env} {k : Cont α} {r : α} : ∀ {l : List (SE α)}, AllSE L l → sums l e k = some r → ∃ e', EnvLe e' e ∧ L e' k = some r
 | [], _, h => by cases h
 | x :: l, hl, h => by
  simp only [sums] at h
  split at h
  ·
   rename_i d hd
   exact ⟨_, Sh.dec_le hd, (hl.1 d k).trans h⟩
  ·
   exact sums_ok hl.2 h
structure SmE (α : Type) where
 lo : Nat
 d : Nat
 r : Nat
 l : List (SE α)
def smL {α : Type} : List (SmE α) → Nat → Nat → Nat → Option (Env → (Exit → Env → Option α) → Option α)
 | [], _, _, _ => none
 | x :: t, lo, d, r => cond (Nat.beq x.lo lo && (Nat.beq x.d d && Nat.beq x.r r)) (some (sums x.l)) (smL t lo d r)
theorem smL_some {α : Type} {lo d r : Nat} {S} : ∀ {t : List (SmE α)}, smL t lo d r = some S → ∃ x ∈ t, x.lo = lo ∧ x.d = d ∧ x.r = r ∧ S = sums x.l
 | [], h => by cases h
 | x :: t, h => by
  simp only [smL] at h
  cases hb : (Nat.beq x.lo lo && (Nat.beq x.d d && Nat.beq x.r r))
  ·
   rw [hb] at h
   obtain ⟨y, hy, h⟩ := smL_some h
   exact ⟨y, List.mem_cons_of_mem _ hy, h⟩
  ·
   rw [hb] at h
   simp only [Bool.and_eq_true] at hb
   cases h
   exact ⟨x, List.mem_cons_self .., Nat.eq_of_beq_eq_true hb.1, Nat.eq_of_beq_eq_true hb.2.1, Nat.eq_of_beq_eq_true hb.2.2, rfl⟩
def AllP {α : Type _} (P : α → Prop) : List α → Prop
 | [] => True
 | x :: l => P x ∧ AllP P l
theorem AllP.mem {α : Type _} {P : α → Prop} : ∀ {l : List α}, AllP P l → ∀ x ∈ l, P x
 | [], _, x, hx => by cases hx
 | y :: l, h, x, hx => by
  rcases List.mem_cons.1 hx with rfl | hx
  ·
   exact h.1
  ·
   exact h.2.mem x hx
def EntOk {α : Type} (C : Ctx) (fn : Func) (an : Ann) (t : List (SmE α)) (x : SmE α) : Prop :=
 ∀ b ∈ loopsIn (bodyOf fn), rid b = x.r → ∀ li lx, lk an x.r = some (li, lx) →
  AllSE (evL (evC C.T fn.ntmps x.lo (evCall C x.d) (evCallQ C) C.fuel an (smL t x.lo x.d) b) (Env.norm x.lo li) (Env.norm x.lo lx) C.fuel) x.l
theorem entOk_of {α : Type} {C : Ctx} {fn : Func} {an : Ann} {t : List (SmE α)} {x : SmE α} {b0 : Code} {li0 lx0 : List Nat} (h1 : (loopsIn (bodyOf fn)).filter (fun b => Nat.beq (rid b) x.r) = [b0]) (h2 : lk an x.r = some (li0, lx0))
  (h3 : AllSE (evL (evC C.T fn.ntmps x.lo (evCall C x.d) (evCallQ C) C.fuel an (smL t x.lo x.d) b0) (Env.norm x.lo li0) (Env.norm x.lo lx0) C.fuel) x.l) : EntOk C fn an t x := by
 intro b hb hr li lx ha
 have hm : b ∈ (loopsIn (bodyOf fn)).filter (fun b => Nat.beq (rid b) x.r) := List.mem_filter.2 ⟨hb, by rw [hr]; exact Nat.beq_refl _⟩
 rw [h1, List.mem_singleton] at hm
 subst hm
 rw [h2] at ha
 cases ha
 exact h3
theorem smL_ok {α : Type} {C : Ctx} {fn : Func} {an : Ann} {t : List (SmE α)} (h : AllP (EntOk C fn an t) t) (lo d : Nat) {c : Code} (hc : fn.body = some c) : SumsOk C.T fn.ntmps lo (evCall (α := α) C d) (evCallQ C) C.fuel an (smL t lo d) c := by
 intro b hb li lx S ha hs e k r hS
 obtain ⟨x, hx, rfl, rfl, hr, rfl⟩ := smL_some hs
 have hbody : bodyOf fn = c := by unfold bodyOf; rw [hc]; rfl
 exact sums_ok (h.mem x hx b (by rw [hbody]; exact hb) hr.symm li lx (by rw [hr]; exact ha)) hS
def InlOk (P : Program) (C : Ctx) (p : Nat × InlE) : Prop := (P.funcs[p.1]? = some p.2.fn ∧ fnB P p.1 = true) ∧ ∀ (α : Type) (lo d : Nat) (c : Code), p.2.fn.body = some c → SumsOk C.T p.2.fn.ntmps lo (evCall (α := α) C d) (evCallQ C) C.fuel p.2.an (p.2.sm α lo d) c
theorem lk_mem {α : Type _} : ∀ {l : List (Nat × α)} {n : Nat} {x : α}, lk l n = some x → (n, x) ∈ l
 | [], _, _, h => by simp [lk] at h
 | (k, w) :: l, n, x, h => by
  simp only [lk] at h
  cases hk : Nat.beq k n
  ·
   rw [hk] at h; exact List.mem_cons_of_mem _ (lk_mem h)
  ·
   rw [hk] at h
   cases h
   rw [Nat.eq_of_beq_eq_true hk]
   exact List.mem_cons_self ..
theorem ctxOk_of {P : Program} {C : Ctx} (hT : tysB P C.T = true) (hm : P.follows .mixedOrders = true) (hf : AllP (fun p => FentOk P p.1 p.2) C.fns) (hi : AllP (InlOk P C) C.inl) : CtxOk P C :=
 ⟨hT, fun f fe h => hf.mem _ (lk_mem h), fun f x h => (hi.mem _ (lk_mem h)).1, fun f x h => (hi.mem _ (lk_mem h)).2, hm⟩
theorem evF_calls' {P : Program} {C : Ctx} (hC : CtxOk P C) {d f : Nat} {fn : Func} (hf : P.funcs[f]? = some fn) {an : Ann} {t : List (SmE (List Rs))} (ht : AllP (EntOk C fn an t) t) {rk : List (K × Bool)} {ds : List Dat} {rs : List Rs}
  (hev : evF C d fn an (smL t 0 d) rk ds = some rs) : CallsTo P f ds rs :=
 evF_calls hC hf (fun c hc => smL_ok ht 0 d hc) hev
theorem inlOk_no {P : Program} {C : Ctx} {f : Nat} {fn : Func} {an : Ann} (h : P.funcs[f]? = some fn) (hb : fnB P f = true) : InlOk P C (f, ⟨fn, an, noSm⟩) :=
 ⟨⟨h, hb⟩, fun α lo d c _ b _ li lx S _ hS => by cases hS⟩
theorem evF_closed {P : Program} {C : Ctx} (hC : CtxOk P C) {d f : Nat} {fn : Func} (hf : P.funcs[f]? = some fn) {an : Ann} {rk : List (K × Bool)} {rs : List Rs}
  (hev : evF C d fn an (fun _ => none) rk [] = some rs) : CallsTo P f [] rs :=
 evF_calls hC hf (fun c _ b _ li lx S _ hS => by cases hS) hev
def K.eqb : (k : K) → k.T → k.T → Bool
 | .int _, x, y => decide ((x : Int) = y)
 | .bool, x, y => decide ((x : Bool) = y)
 | .str, x, y => decide ((x : ByteArray).data.toList = (y : ByteArray).data.toList)
 | .sl e, xs, ys => go e.eqb xs ys
 | .pr a b, x, y => a.eqb x.1 y.1 && b.eqb x.2 y.2
 | .st k, x, y => k.eqb x y
 | .ref k, x, y => k.eqb x y
 where go {α : Type} (f : α → α → Bool) : List α → List α → Bool
 | [], [] => true
 | x :: xs, y :: ys => f x y && go f xs ys
 | _, _ => false
def dsEqb : List Dat → List Dat → Bool
 | [], [] => true
 | d :: ds, d' :: ds' => (match d.get d'.k with | some x => d'.k.eqb x d'.x | none => false) && dsEqb ds ds'
 | _, _ => false
def memoG : List (List Dat × List Rs) → List Dat → Option (List Rs)
 | [], _ => none
 | p :: l, ds => cond (dsEqb ds p.1) (some p.2) (memoG l ds)
def memo (ks : List K) (l : List (List Dat × List Rs)) : Fent := ⟨ks, fun α ds k => match memoG l ds with
 | some rs => k rs
 | none => none⟩
theorem ds0 {ds : List Dat} (h : ds.map (·.k) = []) : ds = [] := List.map_eq_nil_iff.1 h
theorem ds_cons {k : K} {ks : List K} {ds : List Dat} (h : ds.map (·.k) = k :: ks) : ∃ (a : k.T) (l : List Dat), ds = ⟨k, a⟩ :: l ∧ l.map (·.k) = ks := by
 cases ds with
 | nil => cases h
 | cons d l =>
  simp only [List.map_cons, List.cons.injEq] at h
  obtain ⟨rfl, h⟩ := h
  exact ⟨d.x, l, rfl, h⟩
theorem fentOk_of {P : Program} {f : Nat} {fe : Fent} (hf : fnB P f = true) (h : ∀ (ds : List Dat), ds.map (·.k) = fe.ks → ∃ (b : Bool) (rs : List Rs), (b = true → DsWf ds → CallsTo P f ds rs) ∧ ∀ (α : Type) (k : List Rs → Option α), fe.g α ds k = cond b (k rs) none) : FentOk P f fe :=
 ⟨hf, fun α ds k r hk hg => by
  obtain ⟨b, rs, h1, h2⟩ := h ds hk
  rw [h2] at hg
  cases b
  ·
   cases hg
  ·
   exact ⟨rs, calls_wf (h1 rfl), hg⟩⟩
end Go.VI
namespace Go.VI
open Go
set_option linter.unusedVariables false
theorem wrap_i64 {x : Int} (h : inI .i64 x) : IntKind.i64.wrap x = x := by
 obtain ⟨h1, h2⟩ := h
 have e1 : IntKind.i64.min = -9223372036854775808 := rfl
 have e2 : IntKind.i64.max = 9223372036854775807 := rfl
 rw [e1] at h1
 rw [e2] at h2
 simp only [IntKind.wrap, IntKind.bits, IntKind.signed]
 simp
 split <;> omega
theorem inI_i64 {x : Int} : inI .i64 x ↔ -9223372036854775808 ≤ x ∧ x ≤ 9223372036854775807 := by
 have e1 : IntKind.i64.min = -9223372036854775808 := rfl
 have e2 : IntKind.i64.max = 9223372036854775807 := rfl
 unfold inI
 rw [e1, e2]
theorem wrap_next {j n : Nat} (h : j < n) (hn : n ≤ maxLen) : IntKind.i64.wrap ((j : Int) + 1) = (j : Int) + 1 := by
 unfold maxLen at hn
 exact wrap_i64 (inI_i64.2 (by omega))
theorem le_fuel {n N : Nat} (hn : n ≤ maxLen) (hN : 18446744073709551616 ≤ N) : n < N := by unfold maxLen at hn; omega
theorem succ_cast (j : Nat) : ((j + 1 : Nat) : Int) = (j : Int) + 1 := by omega
theorem set_mid {α : Type} (pre rest : List α) (x y : α) {j : Nat} (h : pre.length = j) : (pre ++ x :: rest).set j y = pre ++ y :: rest := by
 subst h
 simp
theorem drop_step {α : Type} {a l : List α} {x : α} {j : Nat} (h : x :: l = a.drop j) : ∃ hj : j < a.length, a[j] = x ∧ l = a.drop (j + 1) := by
 have hj : j < a.length := by
  have := congrArg List.length h
  simp at this
  omega
 rw [List.drop_eq_getElem_cons hj] at h
 obtain ⟨h1, h2⟩ := List.cons.inj h
 exact ⟨hj, h1.symm, h2⟩
theorem d_lt {j n : Nat} (h : j < n) : decide ((j : Int) < (n : Int)) = true := decide_eq_true (Int.ofNat_lt.2 h)
theorem d_0 (j : Nat) : decide ((0 : Int) ≤ (j : Int)) = true := decide_eq_true (Int.natCast_nonneg j)
theorem getD_at {α : Type} {a : List α} {j : Nat} (h : j < a.length) (z : α) : a.getD (Int.toNat (j : Int)) z = a[j] := by
 rw [Int.toNat_natCast]
 exact (List.getElem_eq_getD z).symm
theorem getD_n {α : Type} {a : List α} {j : Nat} (h : j < a.length) (z : α) : a.getD j z = a[j] := (List.getElem_eq_getD z).symm
theorem bne_len {m n : Nat} : ((m : Int) != (n : Int)) = !(Nat.beq m n) := by
 by_cases h : m = n
 ·
  subst h
  simp [Nat.beq_refl]
 ·
  have : Nat.beq m n = false := by
   cases hb : Nat.beq m n
   ·
    rfl
   ·
    exact absurd (Nat.eq_of_beq_eq_true hb) h
  rw [this]
  simp only [bne_iff_ne, ne_eq, Bool.not_false]
  omega
theorem beq_t {m n : Nat} (h : m = n) : Nat.beq m n = true := by rw [h]; exact Nat.beq_refl n
theorem beq_f {m n : Nat} (h : m ≠ n) : Nat.beq m n = false := by
 cases hb : Nat.beq m n
 ·
  rfl
 ·
  exact absurd (Nat.eq_of_beq_eq_true hb) h
structure AtL {X : Type} (xs : List X) (j : Nat) (hj : j < xs.length) : Prop where
 a : decide ((j : Int) < (xs.length : Int)) = true
 b : decide ((0 : Int) ≤ (j : Int)) = true
 c : ∀ z, xs.getD (Int.toNat (j : Int)) z = xs[j]
 d : ∀ z, xs.getD (0 + Int.toNat (j : Int)) z = xs[j]
 e : IntKind.i64.wrap ((j : Int) + 1) = (j : Int) + 1
theorem at_of {X : Type} {xs : List X} (hl : xs.length ≤ maxLen) {j : Nat} (hj : j < xs.length) : AtL xs j hj :=
 ⟨d_lt hj, d_0 j, getD_at hj, fun z => by rw [Nat.zero_add]; exact getD_at hj z, wrap_next hj hl⟩
theorem rng0 {X ρ : Type} (xs : List X) (hl : xs.length ≤ maxLen) (F : Nat → Int → ρ) (G : List X → Int → ρ)
  (h1 : ∀ (n j : Nat) (hj : j < xs.length), AtL xs j hj → F n ((j : Int) + 1) = G (xs.drop (j + 1)) ((j : Int) + 1) → F (n + 1) (j : Int) = G (xs[j] :: xs.drop (j + 1)) (j : Int))
  (h2 : ∀ (n j : Nat), decide ((j : Int) < (xs.length : Int)) = false → F (n + 1) (j : Int) = G [] (j : Int)) : ∀ (n j : Nat), xs.length < n + j → j ≤ xs.length → F n (j : Int) = G (xs.drop j) (j : Int)
 | 0, j, h, hj => absurd h (by omega)
 | n + 1, j, h, hj => by
  by_cases hlt : j < xs.length
  ·
   rw [List.drop_eq_getElem_cons hlt]
   exact h1 n j hlt (at_of hl hlt) (rng0 xs hl F G h1 h2 n (j + 1) (by omega) (by omega))
  ·
   rw [List.drop_eq_nil_of_le (by omega)]
   exact h2 n j (decide_eq_false (fun hc => hlt (Int.ofNat_lt.1 hc)))
theorem rng1 {X ρ σ0 : Type} (xs : List X) (hl : xs.length ≤ maxLen) (F : Nat → Int → σ0 → ρ) (G : List X → Int → σ0 → ρ)
  (h1 : ∀ (n j : Nat) (hj : j < xs.length), AtL xs j hj → (∀ (s0 : σ0), F n ((j : Int) + 1) s0 = G (xs.drop (j + 1)) ((j : Int) + 1) s0) → ∀ (s0 : σ0), F (n + 1) (j : Int) s0 = G (xs[j] :: xs.drop (j + 1)) (j : Int) s0)
  (h2 : ∀ (n j : Nat), decide ((j : Int) < (xs.length : Int)) = false → ∀ (s0 : σ0), F (n + 1) (j : Int) s0 = G [] (j : Int) s0) (n j : Nat) (s0 : σ0) (a : xs.length < n + j) (b : j ≤ xs.length) : F n (j : Int) s0 = G (xs.drop j) (j : Int) s0 :=
 congrFun (rng0 xs hl F G (fun n j hj e ih => funext fun s0 => h1 n j hj e (fun s0 => congrFun ih s0) s0) (fun n j e => funext fun s0 => h2 n j e s0) n j a b) s0
theorem rng2 {X ρ σ0 σ1 : Type} (xs : List X) (hl : xs.length ≤ maxLen) (F : Nat → Int → σ0 → σ1 → ρ) (G : List X → Int → σ0 → σ1 → ρ)
  (h1 : ∀ (n j : Nat) (hj : j < xs.length), AtL xs j hj → (∀ (s0 : σ0) (s1 : σ1), F n ((j : Int) + 1) s0 s1 = G (xs.drop (j + 1)) ((j : Int) + 1) s0 s1) → ∀ (s0 : σ0) (s1 : σ1), F (n + 1) (j : Int) s0 s1 = G (xs[j] :: xs.drop (j + 1)) (j : Int) s0 s1)
  (h2 : ∀ (n j : Nat), decide ((j : Int) < (xs.length : Int)) = false → ∀ (s0 : σ0) (s1 : σ1), F (n + 1) (j : Int) s0 s1 = G [] (j : Int) s0 s1) (n j : Nat) (s0 : σ0) (s1 : σ1) (a : xs.length < n + j) (b : j ≤ xs.length) : F n (j : Int) s0 s1 = G (xs.drop j) (j : Int) s0 s1 :=
 congrFun (congrFun (rng0 xs hl F G (fun n j hj e ih => funext fun s0 => funext fun s1 => h1 n j hj e (fun s0 s1 => congrFun (congrFun ih s0) s1) s0 s1) (fun n j e => funext fun s0 => funext fun s1 => h2 n j e s0 s1) n j a b) s0) s1
theorem rng3 {X ρ σ0 σ1 σ2 : Type} (xs : List X) (hl : xs.length ≤ maxLen) (F : Nat → Int → σ0 → σ1 → σ2 → ρ) (G : List X → Int → σ0 → σ1 → σ2 → ρ)
  (h1 : ∀ (n j : Nat) (hj : j < xs.length), AtL xs j hj → (∀ (s0 : σ0) (s1 : σ1) (s2 : σ2), F n ((j : Int) + 1) s0 s1 s2 = G (xs.drop (j + 1)) ((j : Int) + 1) s0 s1 s2) → ∀ (s0 : σ0) (s1 : σ1) (s2 : σ2), F (n + 1) (j : Int) s0 s1 s2 = G (xs[j] :: xs.drop (j + 1)) (j : Int) s0 s1 s2)
  (h2 : ∀ (n j : Nat), decide ((j : Int) < (xs.length : Int)) = false → ∀ (s0 : σ0) (s1 : σ1) (s2 : σ2), F (n + 1) (j : Int) s0 s1 s2 = G [] (j : Int) s0 s1 s2) (n j : Nat) (s0 : σ0) (s1 : σ1) (s2 : σ2) (a : xs.length < n + j) (b : j ≤ xs.length) : F n (j : Int) s0 s1 s2 = G (xs.drop j) (j : Int) s0 s1 s2 :=
 congrFun (congrFun (congrFun (rng0 xs hl F G (fun n j hj e ih => funext fun s0 => funext fun s1 => funext fun s2 => h1 n j hj e (fun s0 s1 s2 => congrFun (congrFun (congrFun ih s0) s1) s2) s0 s1 s2) (fun n j e => funext fun s0 => funext fun s1 => funext fun s2 => h2 n j e s0 s1 s2) n j a b) s0) s1) s2
end Go.VI
