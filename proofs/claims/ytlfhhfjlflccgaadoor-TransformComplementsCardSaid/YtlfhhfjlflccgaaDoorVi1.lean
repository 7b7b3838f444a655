/- An interpreter for the model's code on plain Lean data, and the proof that what it tells of a call is so. Written in this work (wip/vi). -/
import Derived.Test.YtlfhhfjlflccgaaDoorVi0
import Derived.Calls
import Derived.Orders
import Derived.Scope
import Derived.Laws.World
import Derived.Below
import Derived.KernelRfl
import Derived.Laws.AppendOwn
import Derived.Laws.MakeOwn
import Derived.Laws.Closers25b
import Derived.Laws.RangeAny
import Derived.Laws.Slices
import Derived.Laws.Tables
import Derived.Laws.Small
import Derived.Laws.CopyRow
import Derived.Laws.StructEq
import Derived.Deep.MidRow
import Derived.Lib.OthersKept
import Derived.Laws.BytesArg
import Derived.OpenShut
import Derived.DataReads
import Derived.ChangeSlices
import Derived.WideShapes
namespace Go.VI
open Go Go.RowKit
set_option linter.unusedVariables false
set_option linter.unusedSimpArgs false
section
variable {P : Program} {B : Nat} {A : Nat → Prop} {w₀ : World} {s : St} {e e' : Env} {T : Tys} {ev : Operand → Value} {eA : Operand → AV}
theorem atomL_R (hv : ∀ x, AVR s (eA x) (ev x)) : ∀ {l : List Operand} {m : List Atom}, atomL? (l.map eA) = some m → F2 (fun a v => isJunk a = true ∨ AR s a v) m (l.map ev)
 | [], m, h => by simp [atomL?] at h; subst h; exact .nil
 | x :: l, m, h => by
  simp only [List.map_cons] at h ⊢
  unfold atomL? at h
  split at h
  ·
   rename_i heq; cases heq
  ·
   rename_i a l' heq
   have hx : eA x = .c (.a a) := (List.cons.inj heq).1
   have hl : l' = l.map eA := (List.cons.inj heq).2.symm
   subst hl
   split at h
   ·
    rename_i r hr
    cases h
    have := hv x
    rw [hx] at this
    exact .cons this (atomL_R hv hr)
   ·
    cases h
  ·
   cases h
theorem mm_R {mn : Bool} : ∀ {l : List Atom} {a r : Atom} {v : Value} {vs : List Value} (w : World), mmG mn a l = some r → AR s a v → F2 (fun a v => isJunk a = true ∨ AR s a v) l vs →
  ∃ u, (vs.foldlM (cond mn Builtin.min2 Builtin.max2) v).run P w = .ok u w ∧ (l = [] ∨ isJunk r = false) ∧ AR s r u
 | [], a, r, v, _, w, h, ha, .nil => by
  simp only [mmG, Option.some.injEq] at h
  subst h
  exact ⟨v, by simp, .inl rfl, ha⟩
 | b :: l, a, r, v, _, w, h, ha, .cons hb hl => by
  simp only [mmG] at h
  split at h
  ·
   rename_i k x k' y
   by_cases hk : k = k'
   ·
    subst hk
    simp only [decide_true, cond_true] at h
    have hb' := hb.resolve_left (by simp [isJunk])
    have e1 := R_int ha
    have e2 := R_int hb'
    subst e1
    rename_i vb _
    subst e2
    have ec : ∀ (c : Prop) [Decidable c], (bif decide c then y else x) = if c then y else x := fun c _ => by by_cases hc : c <;> simp [hc]
    have em : imin x y = if y < x then y else x := ec _
    have ex : imax x y = if y > x then y else x := ec _
    have h : mmG mn (.d (.int k) (cond mn (imin x y) (imax x y))) l = some r := by cases mn <;> exact h
    have hin : inI k (cond mn (imin x y) (imax x y)) := by
     have q1 := R_inI ha
     have q2 := R_inI hb'
     rw [em, ex]
     cases mn
     ·
      simp only [cond_false]; split <;> assumption
     ·
      simp only [cond_true]; split <;> assumption
    obtain ⟨u, h1, h2, h3⟩ := mm_R (mn := mn) w h (int_R _ _ hin) hl
    refine ⟨u, ?_, .inr ?_, h3⟩
    ·
     rw [List.foldlM_cons, Sem.run_bind]
     rw [em, ex] at h1
     cases mn
     ·
      simp only [cond_false, Builtin.max2, Sem.run_pure, Result.andThen_ok] at h1 ⊢
      exact h1
     ·
      simp only [cond_true, Builtin.min2, Sem.run_pure, Result.andThen_ok] at h1 ⊢
      exact h1
    ·
     rcases h2 with h2 | h2
     ·
      subst h2
      simp only [mmG, Option.some.injEq] at h
      subst h
      rfl
     ·
      exact h2
   ·
    simp [hk] at h
  ·
   cases h
theorem run_len_str {t ty : TypeId} {x : ByteArray} (h : P.underlying t = some .string) (w : World) : (Builtin.len_ #[t] ty #[.string x]).run P w = .ok (.int .i64 (x.data.toList.length : Int)) w := by
 have : x.data.toList.length = x.size := Array.length_toList
 simp [Builtin.len_, run_underlying h, goInt, this]
theorem run_len_sl {t ty et : TypeId} {A' : Option Addr} {n c : Nat} (h : P.underlying t = some (.slice et)) (w : World) : (Builtin.len_ #[t] ty #[.slice A' n c]).run P w = .ok (.int .i64 (n : Int)) w := by
 simp [Builtin.len_, run_underlying h, goInt]
theorem op_builtin (hT : tysB P T = true) (h : At B A w₀ e s) (hv : ∀ x, AVR s (eA x) (ev x)) {o : Oper} {c : Call} {b : Builtin} {v : AV}
  (ho : o.op = .call c) (hc : c.callee = .builtin b) (hop : builtinA T e b c.argTypes.toList (c.args.toList.map eA) = some (true, v, e')) : Good P B A w₀ s ev o v e' := by
 have hexec : ∀ {val : Value} {s' : St}, (∀ consts, (builtin b c.argTypes o.type consts (c.args.map ev)).run P s.w = .ok (.value val) s'.w) → At B A w₀ e' s' → Ev s s' → AVR s' v val → Good P B A w₀ s ev o v e' := by
  intro val s' h1 h2 h3 h4
  refine ⟨s', val, .inl ?_, h2, h3, h4⟩
  simp only [execOp, ho, resolve, hc, Sem.run_bind, Sem.run_pure, Result.andThen_ok, invoke]
  exact h1 _
 have hargs : (c.args.map ev) = (c.args.toList.map ev).toArray := by
  apply Array.ext'
  simp
 unfold builtinA at hop
 split at hop
 ·
  -- len
  rename_i t x heq1 heq2
  have hat : c.argTypes = #[t] := by
   apply Array.ext'
   simpa using heq1
  have hl := atomL_R hv heq2
  obtain ⟨vx, hvx, hx⟩ : ∃ vx, c.args.toList.map ev = [vx] ∧ (isJunk x = true ∨ AR s x vx) := by
   generalize c.args.toList.map ev = q at hl
   cases hl with
   | cons a b => cases b; exact ⟨_, rfl, a⟩
  have hav : c.args.map ev = #[vx] := by rw [hargs, hvx]
  split at hop
  ·
   rename_i z str hte
   cases hop
   have e1 := R_str (hx.resolve_left (by simp [isJunk]))
   subst e1
   refine hexec (s' := s) (val := .int .i64 (str.data.toList.length : Int)) ?_ h (Ev.refl s) (.inr (int_R _ _ (inI_len (by rw [Array.length_toList]; exact R_strL (hx.resolve_left (by simp [isJunk]))))))
   intro consts
   simp only [builtin, hat, hav, Sem.run_bind, run_len_str (str_desc hT hte), Result.andThen_ok, Sem.run_pure]
  ·
   cases hop
  ·
   rename_i x2 _ _ k z hte hne
   split at hop
   ·
    rename_i n hn
    cases hop
    have hax := hx.resolve_left (by rw [lenA_notjunk hn]; simp)
    obtain ⟨et, i, zz, hu, _⟩ := (el_desc hT hte).el
    rcases lenA_R hT h hn hax with ⟨str, rfl, rfl⟩ | ⟨A', n', c', rfl, rfl⟩
    ·
     exfalso
     cases x2 with
     | d kk y =>
      cases kk <;> simp [Env.lenA] at hn
      ·
       rename_i y'
       exact hne _ (by rfl)
      ·
       obtain ⟨_, _, e1, _⟩ := (show (K.sl _).R s.w s.ok _ [Value.string str] from hax)
       simp at e1
     | nil k => simp [AR] at hax
     | nil0 => simp [AR] at hax
     | sl o ep vw =>
      have hax2 := hax
      simp only [Env.lenA] at hn
      split at hn
      ·
       rename_i k2 ep2 xs2 hl2
       cases hb : Nat.beq ep ep2
       ·
        rw [hb] at hn; cases hn
       ·
        have := Nat.eq_of_beq_eq_true hb
        subst this
        obtain ⟨_, _, e1, _⟩ := (hax2.2.2.2 k2 xs2 (.inl (by rw [h.os]; exact hl2))).shows (look_row h.g (.inl (by rw [h.os]; exact hl2)))
        cases e1
      ·
       rename_i k2 ep2 xs2 hl2
       cases hb : Nat.beq ep ep2
       ·
        rw [hb] at hn; cases hn
       ·
        have := Nat.eq_of_beq_eq_true hb
        subst this
        obtain ⟨_, _, e1, _⟩ := (hax2.2.2.2 k2 xs2 (.inr (by rw [h.os]; exact hl2))).shows (look_row h.g (.inr (by rw [h.os]; exact hl2)))
        cases e1
      ·
       cases hn
     | bsl o q =>
      simp only [Env.lenA] at hn
      split at hn
      ·
       rename_i hlk
       obtain ⟨b, _, hv⟩ := hax.2.2.2 ⟨_, by rw [h.os]; exact hlk, rfl⟩
       cases hv
      ·
       cases hn
     | _ => simp [Env.lenA] at hn
    ·
     refine hexec (s' := s) (val := .int .i64 (n' : Int)) ?_ h (Ev.refl s) (.inr (int_R _ _ (lenA_in h hn hax)))
     intro consts
     simp only [builtin, hat, hav, Sem.run_bind, run_len_sl hu, Result.andThen_ok, Sem.run_pure]
   ·
    cases hop
  ·
   cases hop
 ·
  -- append
  rename_i t u x y heq1 heq2
  have hat : c.argTypes = #[t, u] := by
   apply Array.ext'
   simpa using heq1
  have hl := atomL_R hv heq2
  obtain ⟨vx, vy, hvx, hx, hy⟩ : ∃ vx vy, c.args.toList.map ev = [vx, vy] ∧ (isJunk x = true ∨ AR s x vx) ∧ (isJunk y = true ∨ AR s y vy) := by
   generalize c.args.toList.map ev = q at hl
   cases hl with
   | cons a b => cases b with | cons a' b' => cases b'; exact ⟨_, _, rfl, a, a'⟩
  have hav : c.args.map ev = #[vx, vy] := by rw [hargs, hvx]
  split at hop
  ·
   rename_i k z hte
   cases hb : Nat.beq t u
   ·
    rw [hb] at hop; cases hop
   ·
    rw [hb] at hop
    have := Nat.eq_of_beq_eq_true hb
    subst this
    simp only [cond_true] at hop
    have hjx : isJunk x = false := by
     cases x <;> first | rfl | skip
     simp only [appendOp] at hop
     split at hop
     ·
      cases hop
     ·
      split at hop <;> cases hop
    have hjy : isJunk y = false := by
     cases y <;> first | rfl | simp [appendOp, Env.sv] at hop
    obtain ⟨s', val, h1, h2, h3, h4⟩ := appendOp_R (P := P) (ty := o.type) h (el_desc hT hte) hop (hx.resolve_left (by simp [hjx])) (hy.resolve_left (by simp [hjy]))
    exact hexec (s' := s') (val := val) (by intro consts; simp only [builtin, hat, hav, Sem.run_bind, h1, Result.andThen_ok, Sem.run_pure]) h2 h3 h4
  ·
   cases hop
 ·
  -- copy
  rename_i t u x y heq1 heq2
  have hat : c.argTypes = #[t, u] := by
   apply Array.ext'
   simpa using heq1
  have hl := atomL_R hv heq2
  obtain ⟨vx, vy, hvx, hx, hy⟩ : ∃ vx vy, c.args.toList.map ev = [vx, vy] ∧ (isJunk x = true ∨ AR s x vx) ∧ (isJunk y = true ∨ AR s y vy) := by
   generalize c.args.toList.map ev = q at hl
   cases hl with
   | cons a b => cases b with | cons a' b' => cases b'; exact ⟨_, _, rfl, a, a'⟩
  have hav : c.args.map ev = #[vx, vy] := by rw [hargs, hvx]
  split at hop
  ·
   rename_i k z hte
   have hjx : isJunk x = false := by
    cases x <;> first | rfl | skip
    simp only [copyOp] at hop
    split at hop
    ·
     cases hop
    ·
     split at hop <;> cases hop
   have hjy : isJunk y = false := by
    cases y <;> first | rfl | simp [copyOp, Env.sv] at hop
   obtain ⟨s', val, h1, h2, h3, h4⟩ := copyOp_R (P := P) (u := u) (ty := o.type) h (el_desc hT hte) hop (hx.resolve_left (by simp [hjx])) (hy.resolve_left (by simp [hjy]))
   exact hexec (s' := s') (val := val) (by intro consts; simp only [builtin, hat, hav, Sem.run_bind, h1, Result.andThen_ok, Sem.run_pure]) h2 h3 h4
  ·
   cases hop
 ·
  -- min
  rename_i l heq2
  have hl := atomL_R hv heq2
  split at hop
  ·
   rename_i r hr
   cases hop
   cases l with
   | nil => simp [mmOp] at hr
   | cons a l =>
    generalize hq : c.args.toList.map ev = q at hl
    cases hl with
    | @cons _ va _ vs ha hl =>
     have ha' : isJunk r = true ∧ l = [] ∨ AR s a va := by
      rcases ha with ha | ha
      ·
       cases a <;> simp [isJunk] at ha
       cases l with
       | nil => simp only [mmOp, mmG, Option.some.injEq] at hr; subst hr; exact .inl ⟨rfl, rfl⟩
       | cons b l => simp [mmOp, mmG] at hr
      ·
       exact .inr ha
     rcases ha' with ⟨hj, rfl⟩ | ha'
     ·
      cases hl
      refine hexec (s' := s) (val := va) ?_ h (Ev.refl s) (.inl hj)
      intro consts
      simp only [builtin, Builtin.min_, hargs, hq, Sem.run_bind]
      simp
     ·
      obtain ⟨u, h1, _, h3⟩ := mm_R (P := P) (mn := true) s.w hr ha' hl
      refine hexec (s' := s) (val := u) ?_ h (Ev.refl s) (.inr h3)
      simp only [cond_true] at h1
      intro consts
      simp only [builtin, Builtin.min_, hargs, hq, Sem.run_bind, h1, Result.andThen_ok, Sem.run_pure]
  ·
   cases hop
 ·
  -- max
  rename_i l heq2
  have hl := atomL_R hv heq2
  split at hop
  ·
   rename_i r hr
   cases hop
   cases l with
   | nil => simp [mmOp] at hr
   | cons a l =>
    generalize hq : c.args.toList.map ev = q at hl
    cases hl with
    | @cons _ va _ vs ha hl =>
     have ha' : isJunk r = true ∧ l = [] ∨ AR s a va := by
      rcases ha with ha | ha
      ·
       cases a <;> simp [isJunk] at ha
       cases l with
       | nil => simp only [mmOp, mmG, Option.some.injEq] at hr; subst hr; exact .inl ⟨rfl, rfl⟩
       | cons b l => simp [mmOp, mmG] at hr
      ·
       exact .inr ha
     rcases ha' with ⟨hj, rfl⟩ | ha'
     ·
      cases hl
      refine hexec (s' := s) (val := va) ?_ h (Ev.refl s) (.inl hj)
      intro consts
      simp only [builtin, Builtin.max_, hargs, hq, Sem.run_bind]
      simp
     ·
      obtain ⟨u, h1, _, h3⟩ := mm_R (P := P) (mn := false) s.w hr ha' hl
      refine hexec (s' := s) (val := u) ?_ h (Ev.refl s) (.inr h3)
      simp only [cond_false] at h1
      intro consts
      simp only [builtin, Builtin.max_, hargs, hq, Sem.run_bind, h1, Result.andThen_ok, Sem.run_pure]
  ·
   cases hop
 ·
  cases hop
theorem absOp_good (hT : tysB P T = true) (h : At B A w₀ e s) (hv : ∀ x, AVR s (eA x) (ev x)) {o : Oper} {v : AV} (hop : absOp T eA e o = some (true, v, e')) : Good P B A w₀ s ev o v e' := by
 unfold absOp at hop
 split at hop
 ·
  rename_i x ho; cases hop; exact op_move h hv (.inl ho)
 ·
  rename_i x ho; cases hop; exact op_move h hv (.inr ho)
 ·
  rename_i c a b ho
  split at hop
  ·
   rename_i b' hb; cases hop; exact op_pick h hv ho hb
  ·
   cases hop
 ·
  rename_i t ho
  split at hop
  ·
   rename_i te ht; cases hop; exact op_alloc hT h ho ht
  ·
   cases hop
 ·
  rename_i t x ho
  split at hop
  ·
   rename_i te ht
   split at hop
   ·
    rename_i m hm
    cases hb : Nat.beq m.length te.n
    ·
     rw [hb] at hop; cases hop
    ·
     rw [hb] at hop; cases hop; exact op_box h hv ho hm
   ·
    cases hop
  ·
   cases hop
 ·
  rename_i t ps ho
  split at hop
  ·
   rename_i fs n k z ht
   split at hop
   ·
    rename_i m hm; cases hop; exact op_build hT h hv ho ht hm
   ·
    cases hop
  ·
   rename_i et len n k z ht
   split at hop
   ·
    rename_i te hte
    split at hop
    ·
     rename_i m hm; cases hop; exact op_build_arr hT h hv ho ht hte hm
    ·
     cases hop
   ·
    cases hop
  ·
   cases hop
  ·
   cases hop
 ·
  rename_i t len ps ho
  split at hop
  ·
   rename_i k z ht
   split at hop
   ·
    rename_i ys as hel
    cases hb : (Nat.beq ys.length len && Nat.ble len 10000 && Nat.ble k.n 100)
    ·
     rw [hb] at hop; cases hop
    ·
     rw [hb] at hop
     cases hop
     simp only [Bool.and_eq_true] at hb
     exact op_buildSlice hT h hv ho ht hel (Nat.eq_of_beq_eq_true hb.1.1) (Nat.le_of_ble_eq_true hb.1.2) (Nat.le_of_ble_eq_true hb.2)
   ·
    cases hop
  ·
   cases hop
 ·
  rename_i t x ho
  split at hop
  ·
   rename_i te ad ht hx
   split at hop
   ·
    rename_i l hl
    split at hop
    ·
     rename_i c hc; cases hop; exact op_load hT h hv ho ht hx hl hc
    ·
     cases hop
   ·
    cases hop
  ·
   cases hop
 ·
  rename_i t x y ho
  split at hop
  ·
   rename_i te ad ht hx
   split at hop
   ·
    rename_i m hm
    cases hb : Nat.beq m.length te.n
    ·
     rw [hb] at hop; cases hop
    ·
     rw [hb] at hop
     simp only [cond_true] at hop
     split at hop
     ·
      rename_i e2 hst; cases hop; exact op_store hT h hv ho ht hx hm (Nat.eq_of_beq_eq_true hb) hst
     ·
      cases hop
   ·
    cases hop
  ·
   cases hop
 ·
  rename_i x ho
  split at hop
  ·
   rename_i f cs hx
   cases hop
   have har := atom_R hx rfl (hv x)
   obtain ⟨vs, hvs, hf⟩ := har
   refine Good.same h (val := ev x) ?_ (.inr ⟨vs, hvs, hf⟩)
   simp [execOp, ho, hvs]
  ·
   rename_i ad hx
   split at hop
   ·
    rename_i l hl; cases hop; exact op_nilCheck h hv ho hx ⟨l, hl⟩
   ·
    cases hop
  ·
   cases hop
 ·
  rename_i op t x y yt ho
  split at hop
  ·
   rename_i a b hx hy
   split at hop
   ·
    rename_i c r hr; cases hop; exact op_bin hT h hv ho hx hy hr
   ·
    cases hop
  ·
   rename_i xs ys hx hy
   split at hop
   ·
    rename_i b hr; cases hop; exact op_eq hT h hv ho hx hy hr
   ·
    cases hop
  ·
   cases hop
 ·
  rename_i op t x ho
  split at hop
  ·
   rename_i a hx
   split at hop
   ·
    rename_i r hr; cases hop; exact op_un h hv ho hx hr
   ·
    cases hop
  ·
   cases hop
 ·
  rename_i t d x ho
  unfold convOp at hop
  split at hop
  ·
   rename_i te k z k' n ht hd hx; cases hop; exact op_convert_int hT h hv ho hd ⟨te, ht⟩ hx
  ·
   rename_i te z a ht hd hx
   cases hu : isU8 (some te)
   ·
    rw [hu] at hop
    simp only [cond_false] at hop
    split at hop
    ·
     rename_i z' n; cases hop; exact op_convert_str hT h hv ho hd ht hx
    ·
     cases hop
   ·
    rw [hu] at hop
    simp only [cond_true] at hop
    unfold isU8 at hu
    split at hu
    ·
     rename_i kk z' hte
     cases hte
     simp only [decide_eq_true_eq] at hu
     subst hu
     unfold convB at hop
     split at hop
     ·
      rename_i sv hs
      split at hop
      ·
       rename_i ys hk
       simp only [Option.some.injEq, Prod.mk.injEq] at hop
       obtain ⟨hb, rfl, rfl⟩ := hop
       exact op_convert_bytes hT h hv ho hd ht hx hs hk (Nat.le_of_ble_eq_true hb)
      ·
       cases hop
     ·
      cases hop
    ·
     cases hu
  ·
   cases hop
 ·
  rename_i f first caps ho
  cases hb : Nat.beq first.size 0
  ·
   rw [hb] at hop; cases hop
  ·
   rw [hb] at hop
   simp only [cond_true] at hop
   split at hop
   ·
    rename_i cs hc; cases hop; exact op_makeFunc h hv ho (Nat.eq_of_beq_eq_true hb) hc
   ·
    cases hop
 ·
  rename_i t l c ho
  split at hop
  ·
   rename_i k n m ht hn hm
   simp only [Option.some.injEq, Prod.mk.injEq, Bool.and_eq_true, decide_eq_true_eq] at hop
   obtain ⟨⟨⟨h0, h1⟩, h2⟩, rfl, rfl⟩ := hop
   exact op_makeBox hT h hv ho ht hn hm h0 h1 h2
  ·
   rename_i k z n m _ ht hn hm
   simp only [Option.some.injEq, Prod.mk.injEq, Bool.and_eq_true, decide_eq_true_eq] at hop
   obtain ⟨⟨⟨h0, h1⟩, h2⟩, rfl, rfl⟩ := hop
   exact op_makeSlice hT h hv ho ht hn hm h0 h1 h2
  ·
   cases hop
 ·
  rename_i t x lo hi ho
  split at hop
  ·
   rename_i z str l r ht hx hl hr; exact op_sliceStr hT h hv ho ht hx hl hr hop
  ·
   rename_i k z a l r ht hx hl hr; exact op_slice hT h hv ho ht hx hl hr hop
  ·
   cases hop
 ·
  rename_i t x f ho
  split at hop
  ·
   rename_i fs n k z ad ht hx
   split at hop
   ·
    rename_i off ft l hf hl
    split at hop
    ·
     cases hop; exact op_fieldAddr hT h hv ho ht hx hf ⟨l, hl⟩ (.inl ⟨_, _, rfl, rfl⟩)
    ·
     cases hop; exact op_fieldAddr hT h hv ho ht hx hf ⟨l, hl⟩ (.inr (.inl ⟨_, _, _, _, rfl, rfl⟩))
    ·
     cases hop; exact op_fieldAddr hT h hv ho ht hx hf ⟨l, hl⟩ (.inr (.inr (.inl ⟨_, _, _, _, rfl, rfl⟩)))
    ·
     cases hop; exact op_fieldAddr hT h hv ho ht hx hf ⟨l, hl⟩ (.inr (.inr (.inr ⟨_, _, _, rfl, rfl⟩)))
    ·
     cases hop
   ·
    cases hop
  ·
   cases hop
 ·
  rename_i t x f ho
  split at hop
  ·
   rename_i fs n k z xs ht hx
   split at hop
   ·
    rename_i off ft hf
    split at hop
    ·
     rename_i te hte
     split at hop
     ·
      rename_i c hc; cases hop; exact op_field hT h hv ho ht hx hf hte hc
     ·
      cases hop
    ·
     cases hop
   ·
    cases hop
  ·
   cases hop
 ·
  rename_i t x i ho
  split at hop
  ·
   rename_i k z a j ht hx hj
   split at hop
   ·
    rename_i n hn
    split at hop
    ·
     rename_i oo q hbs
     obtain ⟨rfl, hk1⟩ := bslOf_some hbs
     simp only [Option.some.injEq, Prod.mk.injEq, Bool.and_eq_true, decide_eq_true_eq] at hop
     obtain ⟨⟨h0, h1⟩, rfl, rfl⟩ := hop
     exact op_indexAddr_bsl hT h hv ho ht hx hk1 hn hj h0 h1
    split at hop
    ·
     rename_i k' xs _
     by_cases hk : k' = k
     ·
      subst hk
      simp only [decide_true, cond_true, Option.some.injEq, Prod.mk.injEq, Bool.and_eq_true, decide_eq_true_eq] at hop
      obtain ⟨⟨h0, h1⟩, rfl, rfl⟩ := hop
      have hnl : n = (xs.length : Int) := by simp [Env.lenA] at hn; exact hn.symm
      exact op_indexAddr_d hT h hv ho ht hx hj h0 (by rw [← hnl]; exact h1)
     ·
      simp [hk] at hop
    ·
     rename_i oo ep vw _
     split at hop
     ·
      rename_i k' ep' xs hl
      cases hb : (Nat.beq ep ep' && decide (k' = k))
      ·
       rw [hb] at hop; cases hop
      ·
       rw [hb] at hop
       simp only [Bool.and_eq_true, decide_eq_true_eq] at hb
       obtain ⟨hb1, rfl⟩ := hb
       have := Nat.eq_of_beq_eq_true hb1
       subst this
       simp only [cond_true, Option.some.injEq, Prod.mk.injEq, Bool.and_eq_true, decide_eq_true_eq] at hop
       obtain ⟨⟨h0, h1⟩, rfl, rfl⟩ := hop
       have hlk : s.look oo k' ep xs := .inl (by rw [h.os]; exact hl)
       exact op_indexAddr_sl hT h hv ho ht hx hj hlk h0 h1
     ·
      rename_i k' ep' xs hl
      cases hb : (Nat.beq ep ep' && decide (k' = k))
      ·
       rw [hb] at hop; cases hop
      ·
       rw [hb] at hop
       simp only [Bool.and_eq_true, decide_eq_true_eq] at hb
       obtain ⟨hb1, rfl⟩ := hb
       have := Nat.eq_of_beq_eq_true hb1
       subst this
       simp only [cond_true, Option.some.injEq, Prod.mk.injEq, Bool.and_eq_true, decide_eq_true_eq] at hop
       obtain ⟨⟨h0, h1⟩, rfl, rfl⟩ := hop
       have hlk : s.look oo k' ep xs := .inr (by rw [h.os]; exact hl)
       exact op_indexAddr_sl hT h hv ho ht hx hj hlk h0 h1
     ·
      cases hop
    ·
     cases hop
   ·
    cases hop
  ·
   rename_i et len n k z oo b j ht hx hj
   split at hop
   ·
    rename_i te hte
    split at hop
    ·
     rename_i xs hl
     simp only [Option.some.injEq, Prod.mk.injEq, Bool.and_eq_true, decide_eq_true_eq] at hop
     obtain ⟨⟨h0, h1⟩, rfl, rfl⟩ := hop
     exact op_indexAddr_arr hT h hv ho ht hx hj hte hl h0 h1
    ·
     cases hop
   ·
    cases hop
  ·
   cases hop
 ·
  rename_i t x i ho
  split at hop
  ·
   rename_i z j ht hj
   split at hop
   ·
    rename_i str hx
    simp only [Option.some.injEq, Prod.mk.injEq, Bool.and_eq_true, decide_eq_true_eq] at hop
    obtain ⟨⟨h0, h1⟩, rfl, rfl⟩ := hop
    exact op_index hT h hv ho ht hx hj h0 h1
   ·
    cases hop
  ·
   rename_i et len n k z j ht hj
   split at hop
   ·
    rename_i xs te hx hte
    split at hop
    ·
     rename_i c hc
     simp only [Option.some.injEq, Prod.mk.injEq, Bool.and_eq_true, decide_eq_true_eq] at hop
     obtain ⟨⟨h0, h1⟩, rfl, rfl⟩ := hop
     exact op_index_arr hT h hv ho ht hx hj hte h0 h1 hc
    ·
     cases hop
   ·
    cases hop
  ·
   cases hop
 ·
  rename_i t x ho
  split at hop
  ·
   rename_i z str ht hx; cases hop; exact op_range hT h hv ho ht hx
  ·
   cases hop
 ·
  rename_i x i ho
  split at hop
  ·
   rename_i cs hx
   split at hop
   ·
    rename_i c hc; cases hop; exact op_extract h hv ho hx hc
   ·
    cases hop
  ·
   cases hop
 ·
  rename_i c ho
  split at hop
  ·
   rename_i b hb; exact op_builtin hT h hv ho hb hop
  ·
   cases hop
 ·
  cases hop
end
end Go.VI
namespace Go.VI
open Go Go.RowKit
set_option linter.unusedVariables false
set_option linter.unusedSimpArgs false
section
variable {B : Nat} {A : Nat → Prop} {w₀ : World}
def AB (n : Nat) : Atom → Prop
 | .box o _ => o < n
 | .row o ep _ _ => o < n ∧ ep < n
 | .sl o ep _ => o < n ∧ ep < n
 | .bsl o _ => o < n
 | .fn _ cs => ∀ o ∈ cs, o < n
 | _ => True
def AVB (n : Nat) : AV → Prop
 | .c x => ∀ a ∈ x.atoms, AB n a
 | .t xs => ∀ c ∈ xs, ∀ a ∈ c.atoms, AB n a
theorem F2.mem_l {α β : Type} {R : α → β → Prop} : ∀ {xs : List α} {ys : List β}, F2 R xs ys → ∀ x ∈ xs, ∃ y, R x y
 | _, _, .cons a b, x, h => by
  rcases List.mem_cons.1 h with rfl | h
  ·
   exact ⟨_, a⟩
  ·
   exact b.mem_l x h
theorem AR.below {s : St} : ∀ {a : Atom} {v : Value}, AR s a v → AB s.nx a
 | .d .., _, _ | .nil _, _, _ | .nil0, _, _ | .np, _, _ | .junk, _, _ | .elt .., _, _ | .ref .., _, _ => trivial
 | .box .., _, h => h.2.1
 | .bsl .., _, h => h.2.1
 | .row .., _, h => ⟨h.2.1, h.2.2.1⟩
 | .sl .., _, h => ⟨h.2.1, h.2.2.1⟩
 | .fn .., _, h => by
  obtain ⟨vs, _, hf⟩ := h
  intro o ho
  obtain ⟨y, hy⟩ := hf.mem_l o ho
  exact hy.1
theorem CpR.below {s : St} : ∀ {a : Cp} {v : Value}, CpR s a v → ∀ x ∈ a.atoms, AB s.nx x
 | .a x, v, h, y, hy => by
  simp only [Cp.atoms, List.mem_singleton] at hy
  subst hy
  rcases h with h | h
  ·
   cases y <;> simp [isJunk] at h
   trivial
  ·
   exact h.below
 | .g xs, v, h, y, hy => by
  obtain ⟨cs, _, hf⟩ := h
  obtain ⟨z, hz⟩ := hf.mem_l y hy
  exact hz.below
theorem AVR.below {s : St} : ∀ {a : AV} {v : Value}, AVR s a v → AVB s.nx a
 | .c x, v, h => CpR.below h
 | .t xs, v, h => by
  obtain ⟨vs, _, hf⟩ := h
  intro c hc
  obtain ⟨z, hz⟩ := hf.mem_l c hc
  exact CpR.below hz
abbrev Sv' := List (Tr × Array Value)
def SvR (s : St) (n : Nat) (sv : Sv') : Prop := ∀ p ∈ sv, ∀ t, AVR s (p.1.get t) (p.2.getD t undef) ∧ AVB n (p.1.get t)
theorem SvR.ev {s s' : St} {n : Nat} {sv : Sv'} (E : Ev s s') (h : SvR s n sv) : SvR s' n sv := fun p hp t => ⟨AVR.ev E (h p hp t).1, (h p hp t).2⟩
def TmR (s : St) (tm : Tr) (ts : Array Value) : Prop := ∀ t, AVR s (tm.get t) (ts.getD t undef)
theorem TmR.ev {s s' : St} (E : Ev s s') {tm ts} (h : TmR s tm ts) : TmR s' tm ts := fun t => AVR.ev E (h t)
theorem TmR.set {s : St} {tm : Tr} {ts : Array Value} (h : TmR s tm ts) {t : Nat} {v : AV} (hv : AVR s v (ts.getD t undef)) : TmR s (tm.set t v) ts := by
 intro u
 by_cases e : t = u
 ·
  subst e
  rcases Tr.get_set_any tm t v with h1 | h1 <;> rw [h1]
  ·
   exact hv
  ·
   exact AVR.junk _ _
 ·
  rw [Tr.get_set_ne tm v e]
  exact h u
theorem At.rebox {e : Env} {s : St} (h : At B A w₀ e s) {o : Nat} {xs ys : List Atom} (ho : lk e.os o = some (.box xs)) (hxy : ∀ cs, F2 (AR s) xs cs → F2 (AR s) ys cs) :
  ∃ s', s'.w = s.w ∧ At B A w₀ { e with os := up e.os o (.box ys) } s' ∧ Ev s s' := by
 have ho' : lk s.os o = some (.box xs) := by rw [h.os]; exact ho
 have E : Ev s (s.wr o (.box ys) s.w) := by
  refine ⟨fun b hb => ⟨hb, rfl⟩, Nat.le_refl _, fun i _ hx => ?_, fun i k ep zs _ _ hx => ?_, ⟨rfl, rfl⟩⟩
  ·
   unfold St.cellAt at hx
   by_cases ei : o = i
   ·
    subst ei
    exact ⟨⟨_, ho', rfl⟩, fun _ hb => hb⟩
   ·
    rw [show (s.wr o (.box ys) s.w).os = up s.os o (.box ys) from rfl, lk_up_ne ei] at hx
    exact ⟨hx, fun _ hb => hb⟩
  ·
   unfold St.look at hx
   by_cases ei : o = i
   ·
    subst ei
    rw [show (s.wr o (.box ys) s.w).os = up s.os o (.box ys) from rfl, lk_up_same ho'] at hx
    rcases hx with hx | hx <;> cases hx
   ·
    rw [show (s.wr o (.box ys) s.w).os = up s.os o (.box ys) from rfl, lk_up_ne ei] at hx
    exact ⟨zs, hx, rfl, rfl, rfl⟩
 obtain ⟨b, cs, ty, hb, hc, hx⟩ := h.g.obs o _ ho'
 refine ⟨s.wr o (.box ys) s.w, rfl, ⟨h.g.wr ho' rfl rfl hb (Below.refl _ _) rfl (fun _ _ => rfl) E (Nat.lt_of_le_of_lt (Nat.zero_le _) (h.g.nx o _ ho')) ⟨b, cs, ty, hb, hc, (hxy _ hx).imp fun _ _ => AR.ev E⟩, ?_, h.nx⟩, E⟩
 show up s.os o (.box ys) = up e.os o (.box ys)
 rw [h.os]
theorem At.nilA {e : Env} {s : St} (h : At B A w₀ e s) (a : Atom) : ∃ s', s'.w = s.w ∧ At B A w₀ (Go.VI.nilA e a).2 s' ∧ Ev s s' ∧ ∀ s2, Ev s' s2 → ∀ v, AR s2 a v → AR s2 (Go.VI.nilA e a).1 v := by
 cases a with
 | nil k =>
  refine ⟨s.addN k, rfl, ⟨h.g.addN k, ?_, ?_⟩, St.addN_ev h.g k, fun s2 E2 v hv => AR.ev E2 ?_⟩
  ·
   show (s.nx, _) :: s.os = (e.nx, _) :: e.os
   rw [h.nx, h.os]
  ·
   show s.nx + 1 = e.nx + 1
   rw [h.nx]
  ·
   show AR _ (.sl e.nx 0 none) v
   rw [← h.nx, show v = _ from hv]
   refine ⟨val1_slice _ _ _, Nat.lt_succ_self _, Nat.succ_pos _, fun k' xs' hl' => ?_⟩
   have : xs'.length = 0 := by
    unfold St.look at hl'
    rw [show (s.addN k).os = (s.nx, .row k 0 []) :: s.os from rfl] at hl'
    simp only [lk_cons_same] at hl'
    rcases hl' with hl' | hl' <;> cases hl'
    rfl
   exact .inr ⟨by simp [St.addN], this, rfl⟩
 | _ => exact ⟨s, rfl, h, Ev.refl s, fun s2 _ v hv => hv⟩
theorem At.nilAs : ∀ (l : List Atom) {e : Env} {s : St}, At B A w₀ e s → ∃ s', s'.w = s.w ∧ At B A w₀ (Go.VI.nilAs e l).2 s' ∧ Ev s s' ∧ ∀ s2, Ev s' s2 → ∀ vs, F2 (AR s2) l vs → F2 (AR s2) (Go.VI.nilAs e l).1 vs
 | [], e, s, h => ⟨s, rfl, h, Ev.refl s, fun s2 _ vs hv => hv⟩
 | a :: l, e, s, h => by
  obtain ⟨s1, w1, h1, E1, r1⟩ := h.nilA a
  obtain ⟨s2, w2, h2, E2, r2⟩ := At.nilAs l h1
  refine ⟨s2, w2.trans w1, h2, E1.trans E2, fun s3 E3 vs hv => ?_⟩
  cases hv with
  | cons hx hxs => exact .cons (r1 s3 (E2.trans E3) _ hx) (r2 s3 E3 _ hxs)
theorem nilA_nil (e : Env) (a : Atom) : (Go.VI.nilA e a).2.tm = e.tm := by cases a <;> rfl
theorem nilAs_tm : ∀ (l : List Atom) (e : Env), (Go.VI.nilAs e l).2.tm = e.tm
 | [], e => rfl
 | a :: l, e => (nilAs_tm l _).trans (nilA_nil e a)
theorem nilA_junk (e : Env) {a : Atom} (h : isJunk a = true) : isJunk (Go.VI.nilA e a).1 = true := by cases a <;> simp [isJunk] at h; rfl
theorem At.nilV {e : Env} {s : St} (h : At B A w₀ e s) (a : AV) : ∃ s', s'.w = s.w ∧ At B A w₀ (Go.VI.nilV e a).2 s' ∧ Ev s s' ∧ (Go.VI.nilV e a).2.tm = e.tm ∧ ∀ v, AVR s a v → AVR s' (Go.VI.nilV e a).1 v := by
 cases a with
 | c x =>
  cases x with
  | a x =>
   obtain ⟨s1, w1, h1, E1, r1⟩ := h.nilA x
   exact ⟨s1, w1, h1, E1, nilA_nil e x, fun v hv => hv.imp (nilA_junk e) fun hx => r1 s1 (Ev.refl _) v (AR.ev E1 hx)⟩
  | g xs =>
   obtain ⟨s1, w1, h1, E1, r1⟩ := h.nilAs xs
   refine ⟨s1, w1, h1, E1, nilAs_tm xs e, fun v hv => ?_⟩
   obtain ⟨cs, rfl, hf⟩ := hv
   exact ⟨cs, rfl, r1 s1 (Ev.refl _) _ (hf.imp fun _ _ => AR.ev E1)⟩
 | t xs => exact ⟨s, rfl, h, Ev.refl s, rfl, fun v hv => hv⟩
theorem At.nilSlots : ∀ (ls : List Nat) {e : Env} {s : St} {ts : Array Value}, At B A w₀ e s → TmR s e.tm ts → ∃ s', s'.w = s.w ∧ At B A w₀ (Go.VI.nilSlots e ls) s' ∧ Ev s s' ∧ TmR s' (Go.VI.nilSlots e ls).tm ts
 | [], e, s, ts, h, ht => ⟨s, rfl, h, Ev.refl s, ht⟩
 | t :: ls, e, s, ts, h, ht => by
  obtain ⟨s1, w1, h1, E1, t1, r1⟩ := h.nilV (e.tm.get t)
  have h1' : At B A w₀ { (Go.VI.nilV e (e.tm.get t)).2 with tm := (Go.VI.nilV e (e.tm.get t)).2.tm.set t (Go.VI.nilV e (e.tm.get t)).1 } s1 := ⟨h1.g, h1.os, h1.nx⟩
  obtain ⟨s2, w2, h2, E2, r2⟩ := At.nilSlots ls h1' (ts := ts) (TmR.set (by rw [t1]; exact ht.ev E1) (r1 _ (ht t)))
  exact ⟨s2, w2.trans w1, h2, E1.trans E2, r2⟩
theorem lk_nilAs : ∀ (l : List Atom) {e : Env} {s : St} {o : Nat} {ob : Ob}, At B A w₀ e s → lk e.os o = some ob → lk (Go.VI.nilAs e l).2.os o = some ob
 | [], e, s, o, ob, h, ho => ho
 | a :: l, e, s, o, ob, h, ho => by
  obtain ⟨s1, _, h1, _, _⟩ := h.nilA a
  refine lk_nilAs l h1 ?_
  cases a with
  | nil k =>
   show lk ((e.nx, _) :: e.os) o = some ob
   have : o < e.nx := by
    rw [← h.nx]
    exact h.g.nx o ob (by rw [h.os]; exact ho)
   rw [lk_cons_ne _ _ (Nat.ne_of_gt this)]
   exact ho
  | _ => exact ho
theorem At.nilObs : ∀ (l : List Nat) {e : Env} {s : St} {ts : Array Value}, At B A w₀ e s → TmR s e.tm ts → ∃ s', s'.w = s.w ∧ At B A w₀ (Go.VI.nilObs l e) s' ∧ Ev s s' ∧ TmR s' (Go.VI.nilObs l e).tm ts
 | [], e, s, ts, h, ht => ⟨s, rfl, h, Ev.refl s, ht⟩
 | o :: l, e, s, ts, h, ht => by
  simp only [Go.VI.nilObs]
  split
  ·
   rename_i xs ho
   obtain ⟨s1, w1, h1, E1, r1⟩ := h.nilAs xs
   have ho1 := lk_nilAs xs h ho
   obtain ⟨s2, w2, h2, E2⟩ := h1.rebox (ys := (Go.VI.nilAs e xs).1) ho1 (fun cs hf => r1 s1 (Ev.refl _) cs hf)
   obtain ⟨s3, w3, h3, E3, r3⟩ := At.nilObs l h2 (ts := ts) (by
    show TmR s2 (Go.VI.nilAs e xs).2.tm ts
    rw [nilAs_tm]
    exact ht.ev (E1.trans E2))
   exact ⟨s3, w3.trans (w2.trans w1), h3, (E1.trans E2).trans E3, r3⟩
  ·
   exact At.nilObs l h ht
theorem F2.map_l {α β γ : Type} {R : α → γ → Prop} {R' : β → γ → Prop} {f : α → β} (h : ∀ a c, R a c → R' (f a) c) : ∀ {xs : List α} {ys : List γ}, F2 R xs ys → F2 R' (xs.map f) ys
 | _, _, .nil => .nil
 | _, _, .cons a b => .cons (h _ _ a) (b.map_l h)
theorem jkA_R {J : List Nat} {s : St} {x : Atom} {c : Value} (h : AR s x c) : AR s (jkA J x) c := by
 cases x with
 | sl o ep v =>
  simp only [jkA]
  cases memN J o
  ·
   exact h
  ·
   exact AR.one h
 | _ => exact h
theorem At.jkObs {J : List Nat} : ∀ (l : List Nat) {e : Env} {s : St} {ts : Array Value}, At B A w₀ e s → TmR s e.tm ts → ∃ s', s'.w = s.w ∧ At B A w₀ (Go.VI.jkObs J l e) s' ∧ Ev s s' ∧ TmR s' (Go.VI.jkObs J l e).tm ts
 | [], e, s, ts, h, ht => ⟨s, rfl, h, Ev.refl s, ht⟩
 | o :: l, e, s, ts, h, ht => by
  simp only [Go.VI.jkObs]
  split
  ·
   rename_i xs ho
   obtain ⟨s2, w2, h2, E2⟩ := h.rebox (ys := xs.map (jkA J)) ho (fun cs hf => hf.map_l (f := jkA J) fun _ _ hx => jkA_R hx)
   obtain ⟨s3, w3, h3, E3, r3⟩ := At.jkObs l h2 (ts := ts) (ht.ev E2)
   exact ⟨s3, w3.trans w2, h3, E2.trans E3, r3⟩
  ·
   exact At.jkObs l h ht
theorem idx_get : ∀ {L : List Nat} {o n : Nat}, idx L o = some n → L[n]? = some o
 | [], _, _, h => by simp [idx] at h
 | a :: l, o, n, h => by
  simp only [idx] at h
  cases hb : Nat.beq a o
  ·
   simp only [hb, cond_false] at h
   split at h
   ·
    rename_i i hi
    cases h
    simpa using idx_get hi
   ·
    cases h
  ·
   simp only [hb, cond_true, Option.some.injEq] at h
   subst h
   have := Nat.eq_of_beq_eq_true hb
   simp [this]
theorem memN_iff : ∀ {L : List Nat} {n : Nat}, memN L n = true ↔ n ∈ L
 | [], n => by simp [memN]
 | a :: l, n => by
  simp only [memN, Bool.or_eq_true, List.mem_cons, memN_iff]
  constructor
  ·
   rintro (h | h)
   ·
    exact .inl (Nat.eq_of_beq_eq_true h).symm
   ·
    exact .inr h
  ·
   rintro (rfl | h)
   ·
    exact .inl (Nat.beq_refl _)
   ·
    exact .inr h
theorem nodup_get : ∀ {L : List Nat} {i j : Nat} {o : Nat}, nodupB L = true → L[i]? = some o → L[j]? = some o → i = j
 | [], i, _, _, _, h, _ => by simp at h
 | a :: l, i, j, o, hn, hi, hj => by
  simp only [nodupB, Bool.and_eq_true, Bool.not_eq_true'] at hn
  have hna : a ∉ l := fun h => by
   have := memN_iff.2 h
   rw [hn.1] at this
   cases this
  cases i with
  | zero =>
   cases j with
   | zero => rfl
   | succ j =>
    simp only [List.getElem?_cons_zero, List.getElem?_cons_succ, Option.some.injEq] at hi hj
    subst hi
    exact absurd (List.mem_of_getElem? hj) hna
  | succ i =>
   cases j with
   | zero =>
    simp only [List.getElem?_cons_zero, List.getElem?_cons_succ, Option.some.injEq] at hi hj
    subst hj
    exact absurd (List.mem_of_getElem? hi) hna
   | succ j =>
    simp only [List.getElem?_cons_succ] at hi hj
    rw [nodup_get hn.2 hi hj]
theorem newB_get {lo : Nat} : ∀ {L : List Nat} {i o : Nat}, newB lo L = true → L[i]? = some o → lo ≤ o
 | [], i, _, _, h => by simp at h
 | a :: l, i, o, hn, hi => by
  simp only [newB, Bool.and_eq_true] at hn
  cases i with
  | zero =>
   simp only [List.getElem?_cons_zero, Option.some.injEq] at hi
   subst hi
   exact Nat.le_of_ble_eq_true hn.1
  | succ i => exact newB_get hn.2 (by simpa using hi)
def oldOf (lo : Nat) (L : List Nat) (n : Nat) : Option Nat := if n < lo then some n else L[n - lo]?
theorem idn_old {lo : Nat} {L : List Nat} {o n : Nat} (h : idn lo L o = some n) : oldOf lo L n = some o ∧ (o < lo → n = o) ∧ (¬ o < lo → lo ≤ n ∧ n < lo + L.length) := by
 unfold idn at h
 cases hb : Nat.blt o lo
 ·
  simp only [hb, cond_false] at h
  have hge : ¬ o < lo := fun hc => by
   have : Nat.blt o lo = true := by simpa [Nat.blt_eq] using hc
   rw [hb] at this
   cases this
  split at h
  ·
   rename_i i hi
   cases h
   have h1 := idx_get hi
   have h2 : i < L.length := (List.getElem?_eq_some_iff.1 h1).1
   refine ⟨?_, fun hc => absurd hc hge, fun _ => ⟨by omega, by omega⟩⟩
   unfold oldOf
   rw [if_neg (by omega), Nat.add_sub_cancel_left]
   exact h1
  ·
   cases h
 ·
  simp only [hb, cond_true, Option.some.injEq] at h
  subst h
  have hlt : o < lo := by simpa [Nat.blt_eq] using hb
  exact ⟨by unfold oldOf; rw [if_pos hlt], fun _ => rfl, fun hc => absurd hlt hc⟩
def renOb (fl : Nat → Bool) (os : List (Nat × Ob)) (lo : Nat) (L : List Nat) (n : Nat) : Ob → Ob
 | .box xs => .box (xs.map (renA fl os lo L))
 | .row k ep xs => .row k (nep fl lo n ep) xs
 | .frz k ep xs => .frz k ep xs
 | .iter st p => .iter st p
 | .unb => .unb
theorem nep_lt {fl : Nat → Bool} {lo n : Nat} (h : n < lo) (ep : Nat) : nep fl lo n ep = cond (fl n) lo ep := by
 unfold nep
 rw [show Nat.blt n lo = true by simpa [Nat.blt_eq] using h]
 rfl
theorem nep_ge {fl : Nat → Bool} {lo n : Nat} (h : ¬ n < lo) (ep : Nat) : nep fl lo n ep = 0 := by
 unfold nep
 cases hb : Nat.blt n lo
 ·
  rfl
 ·
  exact absurd (by simpa [Nat.blt_eq] using hb) h
theorem nep_or {fl : Nat → Bool} {lo n : Nat} (h : n < lo) (ep : Nat) : nep fl lo n ep = ep ∨ fl n = true ∧ nep fl lo n ep = lo := by
 rw [nep_lt h]
 cases fl n
 ·
  exact .inl rfl
 ·
  exact .inr ⟨rfl, rfl⟩
theorem lk_keep {fl : Nat → Bool} {os : List (Nat × Ob)} {lo : Nat} {L : List Nat} : ∀ {l : List (Nat × Ob)} {n : Nat} {ob' : Ob}, lk (keepObs fl os lo L l) n = some ob' → n < lo ∧ ∃ ob, lk l n = some ob ∧ ob' = renOb fl os lo L n ob
 | [], _, _, h => by simp [keepObs, lk] at h
 | (o, ob) :: l, n, ob', h => by
  simp only [keepObs] at h
  cases hb : Nat.blt o lo
  ·
   simp only [hb, cond_false] at h
   obtain ⟨h1, ob2, h2, h3⟩ := lk_keep h
   refine ⟨h1, ob2, ?_, h3⟩
   have : o ≠ n := fun hc => by
    subst hc
    have : Nat.blt o lo = true := by simpa [Nat.blt_eq] using h1
    rw [hb] at this
    cases this
   rw [lk_cons_ne _ _ this]
   exact h2
  ·
   simp only [hb, cond_true] at h
   have hlt : o < lo := by simpa [Nat.blt_eq] using hb
   by_cases e : o = n
   ·
    subst e
    rw [lk_cons_same] at h
    cases h
    refine ⟨hlt, ob, lk_cons_same _ _ _, ?_⟩
    cases ob <;> rfl
   ·
    rw [lk_cons_ne _ _ e] at h
    obtain ⟨h1, ob2, h2, h3⟩ := lk_keep h
    exact ⟨h1, ob2, by rw [lk_cons_ne _ _ e]; exact h2, h3⟩
theorem lk_ren {fl : Nat → Bool} {os : List (Nat × Ob)} {lo : Nat} {L : List Nat} : ∀ {l : List Nat} {i n : Nat} {ob' : Ob}, lo ≤ i → lk (renObs fl os lo L l i) n = some ob' →
  (n < lo ∧ ∃ ob, lk os n = some ob ∧ ob' = renOb fl os lo L n ob) ∨ (i ≤ n ∧ ∃ o ob, l[n - i]? = some o ∧ lk os o = some ob ∧ ob' = renOb fl os lo L n ob ∧ ob.live = true)
 | [], i, n, ob', _, h => by
  simp only [renObs] at h
  exact .inl (lk_keep h)
 | o :: l, i, n, ob', hi, h => by
  simp only [renObs] at h
  have next : lk (renObs fl os lo L l (i + 1)) n = some ob' → (n < lo ∧ ∃ ob, lk os n = some ob ∧ ob' = renOb fl os lo L n ob) ∨ (i ≤ n ∧ ∃ o' ob, (o :: l)[n - i]? = some o' ∧ lk os o' = some ob ∧ ob' = renOb fl os lo L n ob ∧ ob.live = true) := by
   intro h'
   rcases lk_ren (Nat.le_succ_of_le hi) h' with h1 | ⟨h1, o', ob, h2, h3⟩
   ·
    exact .inl h1
   ·
    refine .inr ⟨by omega, o', ob, ?_, h3⟩
    have : n - i = (n - (i + 1)) + 1 := by omega
    rw [this]
    simpa using h2
  split at h
  ·
   rename_i xs ho
   by_cases e : i = n
   ·
    subst e
    rw [lk_cons_same] at h
    cases h
    exact .inr ⟨Nat.le_refl _, o, _, by simp, ho, rfl, rfl⟩
   ·
    rw [lk_cons_ne _ _ e] at h
    exact next h
  ·
   rename_i k ep xs ho
   by_cases e : i = n
   ·
    subst e
    rw [lk_cons_same] at h
    cases h
    exact .inr ⟨Nat.le_refl _, o, _, by simp, ho, by simp [renOb, nep_ge (Nat.not_lt.2 hi)], rfl⟩
   ·
    rw [lk_cons_ne _ _ e] at h
    exact next h
  ·
   rename_i st p ho
   by_cases e : i = n
   ·
    subst e
    rw [lk_cons_same] at h
    cases h
    exact .inr ⟨Nat.le_refl _, o, _, by simp, ho, rfl, rfl⟩
   ·
    rw [lk_cons_ne _ _ e] at h
    exact next h
  ·
   exact next h
theorem lk_ren_old {fl : Nat → Bool} {os : List (Nat × Ob)} {lo : Nat} {L : List Nat} {n : Nat} {ob' : Ob} (h : lk (renObs fl os lo L L lo) n = some ob') : ∃ o ob, oldOf lo L n = some o ∧ lk os o = some ob ∧ ob' = renOb fl os lo L n ob ∧ (n < lo ∨ (lo ≤ n ∧ n < lo + L.length ∧ ob.live = true)) := by
 rcases lk_ren (Nat.le_refl lo) h with ⟨h1, ob, h2, h3⟩ | ⟨h1, o, ob, h2, h3, h4, h5⟩
 ·
  exact ⟨n, ob, by unfold oldOf; rw [if_pos h1], h2, h3, .inl h1⟩
 ·
  refine ⟨o, ob, by unfold oldOf; rw [if_neg (by omega)]; exact h2, h3, h4, .inr ⟨h1, ?_, h5⟩⟩
  have := (List.getElem?_eq_some_iff.1 h2).1
  omega
theorem epB_lk {n : Nat} : ∀ {l : List (Nat × Ob)} {o : Nat} {ob : Ob}, epB n l = true → lk l o = some ob → ob.ep < n ∨ ob.cell = true
 | [], _, _, _, h => by simp [lk] at h
 | (a, b) :: l, o, ob, he, h => by
  by_cases e : a = o
  ·
   subst e
   rw [lk_cons_same] at h
   cases h
   cases b with
   | box xs => exact .inr rfl
   | iter st p => exact .inr rfl
   | unb => exact .inr rfl
   | row k ep xs =>
    simp only [epB, Bool.and_eq_true] at he
    exact .inl (show ep < n by simpa [Nat.blt_eq] using he.1)
   | frz k ep xs =>
    simp only [epB, Bool.and_eq_true] at he
    exact .inl (show ep < n by simpa [Nat.blt_eq] using he.1)
  ·
   rw [lk_cons_ne _ _ e] at h
   refine epB_lk ?_ h
   cases b with
   | box xs => exact he
   | iter st p => exact he
   | unb => exact he
   | row k ep xs =>
    simp only [epB, Bool.and_eq_true] at he
    exact he.2
   | frz k ep xs =>
    simp only [epB, Bool.and_eq_true] at he
    exact he.2
theorem keep_lk {fl : Nat → Bool} {os : List (Nat × Ob)} {lo : Nat} {L : List Nat} : ∀ {l : List (Nat × Ob)} {n : Nat} {ob : Ob}, n < lo → lk l n = some ob → lk (keepObs fl os lo L l) n = some (renOb fl os lo L n ob)
 | [], _, _, _, h => by simp [lk] at h
 | (a, b) :: l, n, ob, hn, h => by
  simp only [keepObs]
  by_cases e : a = n
  ·
   subst e
   rw [lk_cons_same] at h
   cases h
   have : Nat.blt a lo = true := by simpa [Nat.blt_eq] using hn
   rw [this, cond_true, lk_cons_same]
   cases b <;> rfl
  ·
   rw [lk_cons_ne _ _ e] at h
   cases hb : Nat.blt a lo
   ·
    simp only [cond_false]
    exact keep_lk hn h
   ·
    simp only [cond_true]
    rw [lk_cons_ne _ _ e]
    exact keep_lk hn h
def renSt (fl : Nat → Bool) (s : St) (lo : Nat) (L : List Nat) (n : Nat) : St :=
  { ρ := fun i => (oldOf lo L i).bind s.ρ, κ := fun i => match oldOf lo L i with | some o => s.κ o | none => 0, os := renObs fl s.os lo L L lo, nx := n, w := s.w, ok := s.ok, hw := s.hw, hn := s.hn }
section
variable {fl : Nat → Bool} {s : St} {lo : Nat} {L : List Nat} {n : Nat}
theorem oldOf_lt {i : Nat} (h : i < lo) : oldOf lo L i = some i := by unfold oldOf; rw [if_pos h]
theorem ren_look {i : Nat} {k : K} {ep : Nat} {xs : List k.T} (h : (renSt fl s lo L n).look i k ep xs) : ∃ o ep0, oldOf lo L i = some o ∧ s.look o k ep0 xs ∧ (i < lo → o = i ∧ ((ep = ep0 ∧ lk s.os i = some (.frz k ep xs)) ∨ (ep = nep fl lo i ep0 ∧ lk s.os i = some (.row k ep0 xs)))) ∧ (¬ i < lo → ep = 0) := by
 have two : ∃ ob', lk (renObs fl s.os lo L L lo) i = some ob' ∧ (ob' = .row k ep xs ∨ ob' = .frz k ep xs) := by
  rcases h with h | h
  ·
   exact ⟨_, h, .inl rfl⟩
  ·
   exact ⟨_, h, .inr rfl⟩
 obtain ⟨ob', hl, hob⟩ := two
 obtain ⟨o, ob, h1, h2, rfl, h4⟩ := lk_ren_old hl
 have hi : i < lo → o = i := fun hlt => by
  rw [oldOf_lt hlt] at h1
  exact (Option.some.inj h1).symm
 cases ob with
 | box ys => rcases hob with hob | hob <;> cases hob
 | iter st p => rcases hob with hob | hob <;> cases hob
 | unb => rcases hob with hob | hob <;> cases hob
 | row k' ep' ys =>
  rcases hob with hob | hob
  ·
   simp only [renOb] at hob
   cases hob
   exact ⟨o, ep', h1, .inl h2, fun hlt => ⟨hi hlt, .inr ⟨rfl, hi hlt ▸ h2⟩⟩, fun hc => nep_ge hc ep'⟩
  ·
   simp only [renOb] at hob
   cases hob
 | frz k' ep' ys =>
  rcases hob with hob | hob
  ·
   simp only [renOb] at hob
   cases hob
  ·
   simp only [renOb] at hob
   cases hob
   rcases h4 with h4 | h4
   ·
    exact ⟨o, ep, h1, .inr h2, fun hlt => ⟨hi hlt, .inl ⟨rfl, hi hlt ▸ h2⟩⟩, fun hc => absurd h4 hc⟩
   ·
    cases h4.2.2
theorem ren_box {i : Nat} (h : (renSt fl s lo L n).cellAt i) : ∃ o, oldOf lo L i = some o ∧ s.cellAt o := by
 obtain ⟨x, hx, hc⟩ := h
 obtain ⟨o, ob, h1, h2, h3, _⟩ := lk_ren_old hx
 refine ⟨o, h1, ob, h2, ?_⟩
 subst h3
 cases ob <;> first | exact hc | rfl
theorem AR.ren_low (hn : lo ≤ n) : ∀ {a : Atom} {v : Value}, AB lo a → AR s a v → AR (renSt fl s lo L n) a v
 | .d .., _, _, h | .nil _, _, _, h | .nil0, _, _, h | .np, _, _, h | .junk, _, _, h | .elt .., _, _, h | .ref .., _, _, h => h
 | .box o i, v, hb, h => by
  refine ⟨h.1, Nat.lt_of_lt_of_le hb hn, fun hx => ?_⟩
  obtain ⟨o', h1, h2⟩ := ren_box hx
  rw [oldOf_lt hb] at h1
  cases h1
  obtain ⟨b, h3, h4⟩ := h.2.2 h2
  exact ⟨b, by show (oldOf lo L o).bind s.ρ = some b; rw [oldOf_lt hb]; exact h3, h4⟩
 | .bsl o i, v, hb, h => by
  refine ⟨h.1, Nat.lt_of_lt_of_le hb hn, h.2.2.1, fun hx => ?_⟩
  obtain ⟨o', h1, h2⟩ := ren_box hx
  rw [oldOf_lt hb] at h1
  cases h1
  obtain ⟨b, h3, h4⟩ := h.2.2.2 h2
  exact ⟨b, by show (oldOf lo L o).bind s.ρ = some b; rw [oldOf_lt hb]; exact h3, h4⟩
 | .row o ep i c, v, hb, h => by
  refine ⟨h.1, Nat.lt_of_lt_of_le hb.1 hn, Nat.lt_of_lt_of_le hb.2 hn, fun k xs hx => ?_⟩
  obtain ⟨o', ep0, h1, h2, h3, _⟩ := ren_look hx
  obtain ⟨rfl, h3⟩ := h3 hb.1
  have h3 : ep = ep0 := by
   rcases h3 with ⟨h3, _⟩ | ⟨h3, _⟩
   ·
    exact h3
   ·
    rcases nep_or (fl := fl) hb.1 ep0 with h9 | ⟨_, h9⟩
    ·
     exact h3.trans h9
    ·
     have := hb.2
     omega
  subst h3
  obtain ⟨b, h4, h5⟩ := h.2.2.2 k xs h2
  exact ⟨b, by show (oldOf lo L o').bind s.ρ = some b; rw [oldOf_lt hb.1]; exact h4, h5⟩
 | .sl o ep vw, v, hb, h => by
  refine ⟨h.1, Nat.lt_of_lt_of_le hb.1 hn, Nat.lt_of_lt_of_le hb.2 hn, fun k xs hx => ?_⟩
  obtain ⟨o', ep0, h1, h2, h3, _⟩ := ren_look hx
  obtain ⟨rfl, h3⟩ := h3 hb.1
  have h3 : ep = ep0 := by
   rcases h3 with ⟨h3, _⟩ | ⟨h3, _⟩
   ·
    exact h3
   ·
    rcases nep_or (fl := fl) hb.1 ep0 with h9 | ⟨_, h9⟩
    ·
     exact h3.trans h9
    ·
     have := hb.2
     omega
  subst h3
  have h4 := h.2.2.2 k xs h2
  have e1 : (renSt fl s lo L n).ρ o' = s.ρ o' := by show (oldOf lo L o').bind s.ρ = _; rw [oldOf_lt hb.1]; rfl
  have e2 : (renSt fl s lo L n).κ o' = s.κ o' := by show (match oldOf lo L o' with | some o => s.κ o | none => 0) = _; rw [oldOf_lt hb.1]
  exact h4.ev e1 e2
 | .fn f cs, v, hb, h => by
  obtain ⟨vs, rfl, hf⟩ := h
  refine ⟨vs, rfl, ?_⟩
  have : ∀ {cs : List Nat} {vs : List Value}, (∀ o ∈ cs, o < lo) → F2 (fun o v => o < s.nx ∧ Val1 v ∧ (s.cellAt o → ∃ b, s.ρ o = some b ∧ v = .pointer (some ⟨b, 0, none⟩))) cs vs →
    F2 (fun o v => o < (renSt fl s lo L n).nx ∧ Val1 v ∧ ((renSt fl s lo L n).cellAt o → ∃ b, (renSt fl s lo L n).ρ o = some b ∧ v = .pointer (some ⟨b, 0, none⟩))) cs vs := by
   intro cs vs hb hf
   induction hf with
   | nil => exact .nil
   | @cons o v os vs ho _ ih =>
    have hlt := hb o (by simp)
    refine .cons ⟨Nat.lt_of_lt_of_le hlt hn, ho.2.1, fun hx => ?_⟩ (ih fun x hx => hb x (by simp [hx]))
    obtain ⟨o', h1, h2⟩ := ren_box hx
    rw [oldOf_lt hlt] at h1
    cases h1
    obtain ⟨b, h3, h4⟩ := ho.2.2 h2
    exact ⟨b, by show (oldOf lo L o).bind s.ρ = some b; rw [oldOf_lt hlt]; exact h3, h4⟩
  exact this hb hf
theorem idn_lt {o i : Nat} (hn : lo + L.length ≤ n) (h : idn lo L o = some i) : i < n := by
 obtain ⟨_, h1, h2⟩ := idn_old h
 by_cases e : o < lo
 ·
  rw [h1 e]; omega
 ·
  have := (h2 e).2; omega
theorem AR.ren (g : G B A w₀ s) (hn : lo + L.length ≤ n) (hep : ∀ o k ep xs, o < lo → (lk s.os o = some (.row k ep xs) → nep fl lo o ep < n) ∧ (lk s.os o = some (.frz k ep xs) → ep < n)) : ∀ {a : Atom} {v : Value}, AR s a v → AR (renSt fl s lo L n) (renA fl s.os lo L a) v
 | .d .., _, h | .nil _, _, h | .nil0, _, h | .np, _, h | .junk, _, h | .elt .., _, h | .ref .., _, h => h
 | .box o i, v, h => by
  simp only [renA]
  split
  ·
   rename_i m hm
   obtain ⟨hold, _⟩ := idn_old hm
   refine ⟨h.1, idn_lt hn hm, fun hx => ?_⟩
   obtain ⟨o', h1, h2⟩ := ren_box hx
   rw [hold] at h1
   cases h1
   obtain ⟨b, h3, h4⟩ := h.2.2 h2
   exact ⟨b, by show (oldOf lo L m).bind s.ρ = some b; rw [hold]; exact h3, h4⟩
  ·
   exact h.1
 | .bsl o i, v, h => by
  simp only [renA]
  split
  ·
   rename_i m hm
   obtain ⟨hold, _⟩ := idn_old hm
   refine ⟨h.1, idn_lt hn hm, h.2.2.1, fun hx => ?_⟩
   obtain ⟨o', h1, h2⟩ := ren_box hx
   rw [hold] at h1
   cases h1
   obtain ⟨b, h3, h4⟩ := h.2.2.2 h2
   exact ⟨b, by show (oldOf lo L m).bind s.ρ = some b; rw [hold]; exact h3, h4⟩
  ·
   exact h.1
 | .row o ep i c, v, h => by
  simp only [renA]
  split
  ·
   rename_i k ep' xs hl
   cases hb : Nat.beq ep ep'
   ·
    exact h.1
   ·
    have := Nat.eq_of_beq_eq_true hb
    subst this
    simp only [cond_true]
    split
    ·
     rename_i m hm
     obtain ⟨hold, hlow, hhigh⟩ := idn_old hm
     have hepn : nep fl lo o ep < n := by
      by_cases hbl : o < lo
      ·
       exact (hep o k ep xs hbl).1 hl
      ·
       have := idn_lt hn hm
       rw [nep_ge hbl]; omega
     refine ⟨h.1, idn_lt hn hm, hepn, fun k2 ys hx => ?_⟩
     obtain ⟨o', ep0, h1, h2, h3, _⟩ := ren_look hx
     rw [hold] at h1
     cases h1
     have : ep0 = ep := by
      rcases h2 with h2 | h2 <;> rw [hl] at h2 <;> cases h2
      rfl
     subst this
     obtain ⟨b, h4, h5⟩ := h.2.2.2 k2 ys h2
     exact ⟨b, by show (oldOf lo L m).bind s.ρ = some b; rw [hold]; exact h4, h5⟩
    ·
     exact h.1
  ·
   rename_i k ep' xs hl
   cases hb : Nat.beq ep ep'
   ·
    exact h.1
   ·
    have := Nat.eq_of_beq_eq_true hb
    subst this
    simp only [cond_true]
    obtain ⟨b, h4, h5, h6⟩ := h.2.2.2 k xs (.inr hl)
    rcases g.obs o _ hl with ⟨h7, _⟩ | ⟨b', ⟨h7, cs, T, inner, rest, hcs, he, hr, _⟩, hok⟩
    ·
     rw [h4] at h7; cases h7
    ·
     rw [h4] at h7; cases h7
     exact ⟨b, 0, inner, by rw [h5, Nat.zero_add], hok, hr, (Cells.app (he ▸ Cells.of_block hcs)).1, h6⟩
  ·
   exact h.1
 | .sl o ep vw, v, h => by
  simp only [renA]
  split
  ·
   rename_i k ep' xs hl
   cases hb : Nat.beq ep ep'
   ·
    exact h.1
   ·
    have := Nat.eq_of_beq_eq_true hb
    subst this
    simp only [cond_true]
    split
    ·
     rename_i m hm
     obtain ⟨hold, hlow, hhigh⟩ := idn_old hm
     have hepn : nep fl lo o ep < n := by
      by_cases hbl : o < lo
      ·
       exact (hep o k ep xs hbl).1 hl
      ·
       have := idn_lt hn hm
       rw [nep_ge hbl]; omega
     refine ⟨h.1, idn_lt hn hm, hepn, fun k2 ys hx => ?_⟩
     obtain ⟨o', ep0, h1, h2, h3, _⟩ := ren_look hx
     rw [hold] at h1
     cases h1
     have : ep0 = ep := by
      rcases h2 with h2 | h2 <;> rw [hl] at h2 <;> cases h2
      rfl
     subst this
     have h4 := h.2.2.2 k2 ys h2
     unfold SlR at *
     have e1 : (renSt fl s lo L n).ρ m = s.ρ o := by show (oldOf lo L m).bind s.ρ = _; rw [hold]; rfl
     have e2 : (renSt fl s lo L n).κ m = s.κ o := by show (match oldOf lo L m with | some o => s.κ o | none => 0) = _; rw [hold]
     rw [e1, e2]
     exact h4
    ·
     exact h.1
  ·
   rename_i k ep' xs hl
   cases hb : Nat.beq ep ep'
   ·
    exact h.1
   ·
    have := Nat.eq_of_beq_eq_true hb
    subst this
    simp only [cond_true]
    have := SlR_R (s := s) g hl (h.2.2.2 k xs (.inr hl))
    exact this
  ·
   exact h.1
 | .fn f cs, v, h => by
  simp only [renA]
  split
  ·
   rename_i r hr
   obtain ⟨vs, rfl, hf⟩ := h
   refine ⟨vs, rfl, ?_⟩
   have : ∀ {cs : List Nat} {vs : List Value} {r : List Nat}, idxL lo L cs = some r → F2 (fun o v => o < s.nx ∧ Val1 v ∧ (s.cellAt o → ∃ b, s.ρ o = some b ∧ v = .pointer (some ⟨b, 0, none⟩))) cs vs →
     F2 (fun o v => o < (renSt fl s lo L n).nx ∧ Val1 v ∧ ((renSt fl s lo L n).cellAt o → ∃ b, (renSt fl s lo L n).ρ o = some b ∧ v = .pointer (some ⟨b, 0, none⟩))) r vs := by
    intro cs vs r hr hf
    induction hf generalizing r with
    | nil => simp only [idxL, Option.some.injEq] at hr; subst hr; exact .nil
    | @cons o v os vs ho _ ih =>
     simp only [idxL] at hr
     split at hr
     ·
      rename_i m r' hm hr'
      cases hr
      obtain ⟨hold, _⟩ := idn_old hm
      refine .cons ⟨idn_lt hn hm, ho.2.1, fun hx => ?_⟩ (ih hr')
      obtain ⟨o', h1, h2⟩ := ren_box hx
      rw [hold] at h1
      cases h1
      obtain ⟨b, h3, h4⟩ := ho.2.2 h2
      exact ⟨b, by show (oldOf lo L m).bind s.ρ = some b; rw [hold]; exact h3, h4⟩
     ·
      cases hr
   exact this hr hf
  ·
   obtain ⟨vs, rfl, _⟩ := h
   exact val1_func _ _ _
theorem CpR.ren (g : G B A w₀ s) (hn : lo + L.length ≤ n) (hep : ∀ o k ep xs, o < lo → (lk s.os o = some (.row k ep xs) → nep fl lo o ep < n) ∧ (lk s.os o = some (.frz k ep xs) → ep < n)) : ∀ {a : Cp} {v : Value}, CpR s a v → CpR (renSt fl s lo L n) (renC fl s.os lo L a) v
 | .a x, v, h => by
  rcases h with h | h
  ·
   left
   cases x <;> simp [isJunk] at h
   rfl
  ·
   exact .inr (AR.ren g hn hep h)
 | .g xs, v, h => by
  obtain ⟨cs, rfl, hf⟩ := h
  exact ⟨cs, rfl, hf.map_l (f := renA fl s.os lo L) fun _ _ hx => AR.ren g hn hep hx⟩
theorem AVR.ren (g : G B A w₀ s) (hn : lo + L.length ≤ n) (hep : ∀ o k ep xs, o < lo → (lk s.os o = some (.row k ep xs) → nep fl lo o ep < n) ∧ (lk s.os o = some (.frz k ep xs) → ep < n)) : ∀ {a : AV} {v : Value}, AVR s a v → AVR (renSt fl s lo L n) (renV fl s.os lo L a) v
 | .c x, v, h => CpR.ren g hn hep h
 | .t xs, v, h => by
  obtain ⟨cs, rfl, hf⟩ := h
  exact ⟨cs, rfl, hf.map_l (f := renC fl s.os lo L) fun _ _ hx => CpR.ren g hn hep hx⟩
theorem AVR.ren_low (hn : lo ≤ n) : ∀ {a : AV} {v : Value}, AVB lo a → AVR s a v → AVR (renSt fl s lo L n) a v := by
 have cp : ∀ {a : Cp} {v : Value}, (∀ x ∈ a.atoms, AB lo x) → CpR s a v → CpR (renSt fl s lo L n) a v := by
  intro a v hb h
  cases a with
  | a x => exact h.imp id (AR.ren_low hn (hb x (by simp [Cp.atoms])))
  | g xs =>
   obtain ⟨cs, rfl, hf⟩ := h
   refine ⟨cs, rfl, ?_⟩
   have hb' : ∀ x ∈ xs, AB lo x := hb
   generalize cs.toList = q at hf
   clear hb
   induction hf with
   | nil => exact .nil
   | cons hx _ ih => exact .cons (AR.ren_low hn (hb' _ (by simp)) hx) (ih fun x hx => hb' x (by simp [hx]))
 intro a v hb h
 cases a with
 | c x => exact cp hb h
 | t xs =>
  obtain ⟨cs, rfl, hf⟩ := h
  refine ⟨cs, rfl, ?_⟩
  have hb' : ∀ c ∈ xs, ∀ x ∈ c.atoms, AB lo x := hb
  generalize cs.toList = q at hf
  clear hb
  induction hf with
  | nil => exact .nil
  | cons hx _ ih => exact .cons (cp (hb' _ (by simp)) hx) (ih fun x hx => hb' x (by simp [hx]))
theorem G.ren (g : G B A w₀ s) (hnd : nodupB L = true) (hnew : newB lo L = true) (hn : lo + L.length ≤ n) (hep : ∀ o k ep xs, o < lo → (lk s.os o = some (.row k ep xs) → nep fl lo o ep < n) ∧ (lk s.os o = some (.frz k ep xs) → ep < n)) : G B A w₀ (renSt fl s lo L n) where
 hid := g.hid
 below := g.below
 size := g.size
 okb := fun b hb => by
  have h := g.okb b hb
  refine ⟨h.1, h.2.1, fun o ob ho hl hc => ?_⟩
  obtain ⟨o', ob', h1, h2, h3, _⟩ := lk_ren_old ho
  have hl' : ob'.live = true := by
   subst h3
   cases ob' <;> first | rfl | exact hl
  have hc' : s.ρ o' = some b := by
   have : (oldOf lo L o).bind s.ρ = some b := hc
   rw [h1] at this
   exact this
  exact h.2.2 o' ob' h2 hl' hc'
 own := fun o ob b ho hl hr => by
  obtain ⟨o', ob', h1, h2, h3, _⟩ := lk_ren_old ho
  have hl' : ob'.live = true := by
   subst h3
   cases ob' <;> first | rfl | exact hl
  have hr' : s.ρ o' = some b := by
   have : (oldOf lo L o).bind s.ρ = some b := hr
   rw [h1] at this
   exact this
  exact g.own o' ob' b h2 hl' hr'
 inj := fun o ob o2 ob2 b ho hl ho2 hl2 hr hr2 => by
  obtain ⟨p, q, h1, h2, h3, h4⟩ := lk_ren_old ho
  obtain ⟨p2, q2, k1, k2, k3, k4⟩ := lk_ren_old ho2
  have hl' : q.live = true := by subst h3; cases q <;> first | rfl | exact hl
  have hl2' : q2.live = true := by subst k3; cases q2 <;> first | rfl | exact hl2
  have hr' : s.ρ p = some b := by
   have : (oldOf lo L o).bind s.ρ = some b := hr
   rw [h1] at this
   exact this
  have hr2' : s.ρ p2 = some b := by
   have : (oldOf lo L o2).bind s.ρ = some b := hr2
   rw [k1] at this
   exact this
  have hp := g.inj p q p2 q2 b h2 hl' k2 hl2' hr' hr2'
  subst hp
  unfold oldOf at h1 k1
  by_cases e1 : o < lo
  ·
   rw [if_pos e1] at h1
   cases h1
   by_cases e2 : o2 < lo
   ·
    rw [if_pos e2] at k1
    exact (Option.some.inj k1).symm
   ·
    rw [if_neg e2] at k1
    have := newB_get hnew k1
    omega
  ·
   rw [if_neg e1] at h1
   by_cases e2 : o2 < lo
   ·
    rw [if_pos e2] at k1
    cases k1
    have := newB_get hnew h1
    omega
   ·
    rw [if_neg e2] at k1
    have := nodup_get hnd h1 k1
    omega
 obs := fun o ob ho => by
  obtain ⟨p, q, h1, h2, rfl, h4⟩ := lk_ren_old ho
  have hq := g.obs p q h2
  have e1 : (renSt fl s lo L n).ρ o = s.ρ p := by show (oldOf lo L o).bind s.ρ = _; rw [h1]; rfl
  have e2 : (renSt fl s lo L n).κ o = s.κ p := by show (match oldOf lo L o with | some o => s.κ o | none => 0) = _; rw [h1]
  cases q with
  | box xs =>
   obtain ⟨b, cs, T, hb, hc, hx⟩ := hq
   exact ⟨b, cs, T, e1.trans hb, hc, hx.map_l (f := renA fl s.os lo L) fun _ _ hx => AR.ren g hn hep hx⟩
  | iter st p =>
   obtain ⟨b, hb, hc⟩ := hq
   exact ⟨b, e1.trans hb, hc⟩
  | unb => exact e1.trans hq
  | row k ep xs =>
   rcases hq with ⟨h5, h6⟩ | ⟨b, h5, cs, T, inner, rest, h6, h7, h8, h9, h10⟩
   ·
    exact .inl ⟨e1.trans h5, h6⟩
   ·
    exact .inr ⟨b, e1.trans h5, cs, T, inner, rest, h6, h7, h8, by rw [e2]; exact h9, by rw [e2]; exact h10⟩
  | frz k ep xs =>
   rcases hq with ⟨h5, h6⟩ | ⟨b, ⟨h5, cs, T, inner, rest, h6, h7, h8, h9, h10⟩, h11⟩
   ·
    exact .inl ⟨e1.trans h5, h6⟩
   ·
    exact .inr ⟨b, ⟨e1.trans h5, cs, T, inner, rest, h6, h7, h8, by rw [e2]; exact h9, by rw [e2]; exact h10⟩, h11⟩
 nx := fun o ob ho => by
  obtain ⟨p, q, _, _, _, h4⟩ := lk_ren_old ho
  show o < n
  rcases h4 with h4 | h4 <;> omega
 ep := fun o k ep xs hl => by
  obtain ⟨p, ep0, h1, h2, h3, h4⟩ := ren_look hl
  show ep < n
  by_cases e1 : o < lo
  ·
   obtain ⟨rfl, ⟨h3, h5⟩ | ⟨h3, h5⟩⟩ := h3 e1
   ·
    exact (hep p k ep xs e1).2 h5
   ·
    rw [h3]
    exact (hep p k ep0 xs e1).1 h5
  ·
   rw [h4 e1]
   have two : ∃ ob', lk (renObs fl s.os lo L L lo) o = some ob' := by
    rcases hl with hl | hl
    ·
     exact ⟨_, hl⟩
    ·
     exact ⟨_, hl⟩
   obtain ⟨ob', hl'⟩ := two
   obtain ⟨_, _, _, _, _, h9⟩ := lk_ren_old hl'
   rcases h9 with h9 | h9 <;> omega
end
theorem mkTm_R {s : St} {ts : Array Value} {f : Nat → AV} (hf : ∀ t, AVR s (f t) (ts.getD t undef)) : ∀ (ls : List Nat), TmR s (mkTm (ls.map fun t => (t, f t))) ts
 | [], t => by
  show AVR s (Tr.get .e t) _
  unfold Tr.get
  rw [Tr.getF_e]
  exact AVR.junk _ _
 | a :: l, t => by
  simp only [List.map_cons, mkTm]
  exact TmR.set (mkTm_R hf l) (hf a) t
theorem At.ren {fl : Nat → Bool} {fb : Bool} {e : Env} {s : St} {lo : Nat} {ls L : List Nat} {ts : Array Value} {sv : Sv'} (h : At B A w₀ e s) (ht : TmR s e.tm ts) (hsv : SvR s lo sv) (hfb : ∀ o, fl o = true → fb = true) : ∃ s', s'.w = s.w ∧ At B A w₀ (e.ren fl fb lo ls L) s' ∧ TmR s' (e.ren fl fb lo ls L).tm ts ∧ SvR s' lo sv := by
 unfold Env.ren
 cases hb : (nodupB L && newB lo L && Nat.ble lo e.nx)
 ·
  exact ⟨s, rfl, h, ht, hsv⟩
 ·
  simp only [cond_true]
  simp only [Bool.and_eq_true] at hb
  obtain ⟨⟨hnd, hnew⟩, hle⟩ := hb
  have hle := Nat.le_of_ble_eq_true hle
  let n := cond (epB (lo + L.length + cond fb 1 0) (keepObs fl e.os lo L e.os)) (lo + L.length + cond fb 1 0) (lo + L.length + cond fb 1 0 + e.nx)
  have hn : lo + L.length ≤ n := by
   show lo + L.length ≤ cond _ _ _
   cases epB (lo + L.length + cond fb 1 0) (keepObs fl e.os lo L e.os) <;> simp only [cond_true, cond_false] <;> omega
  have hfl : fb = true → lo < n := fun hf => by
   show lo < cond _ _ _
   rw [hf]
   cases epB (lo + L.length + cond true 1 0) (keepObs fl e.os lo L e.os) <;> simp only [cond_true, cond_false] <;> omega
  have hep : ∀ o k ep xs, o < lo → (lk s.os o = some (.row k ep xs) → nep fl lo o ep < n) ∧ (lk s.os o = some (.frz k ep xs) → ep < n) := by
   intro o k ep xs ho
   rw [h.os]
   cases he : epB (lo + L.length + cond fb 1 0) (keepObs fl e.os lo L e.os)
   ·
    have hn' : n = lo + L.length + cond fb 1 0 + e.nx := by show cond _ _ _ = _; rw [he]; rfl
    refine ⟨fun hl => ?_, fun hl => ?_⟩
    ·
     have h9 := h.g.ep o k ep xs (.inl (by rw [h.os]; exact hl))
     rw [h.nx] at h9
     rcases nep_or (fl := fl) ho ep with h1 | ⟨hf, h1⟩
     ·
      omega
     ·
      have := hfl (hfb _ hf)
      omega
    ·
     have h9 := h.g.ep o k ep xs (.inr (by rw [h.os]; exact hl))
     rw [h.nx] at h9
     omega
   ·
    have hn' : n = lo + L.length + cond fb 1 0 := by show cond _ _ _ = _; rw [he]; rfl
    refine ⟨fun hl => ?_, fun hl => ?_⟩
    ·
     rcases epB_lk he (keep_lk (fl := fl) (os := e.os) (L := L) ho hl) with h1 | h1
     ·
      rw [hn']; exact h1
     ·
      cases h1
    ·
     rcases epB_lk he (keep_lk (fl := fl) (os := e.os) (L := L) ho hl) with h1 | h1
     ·
      rw [hn']; exact h1
     ·
      cases h1
  refine ⟨renSt fl s lo L n, rfl, ⟨h.g.ren hnd hnew hn hep, ?_, rfl⟩, ?_, fun p hp t => ⟨AVR.ren_low (by omega) (hsv p hp t).2 (hsv p hp t).1, (hsv p hp t).2⟩⟩
  ·
   show renObs fl s.os lo L L lo = renObs fl e.os lo L L lo
   rw [h.os]
  ·
   show TmR _ (mkTm (ls.map fun t => (t, renV fl e.os lo L (e.tm.get t)))) ts
   rw [← h.os]
   exact mkTm_R (fun t => AVR.ren h.g hn hep (ht t)) ls
theorem At.norm {e : Env} {s : St} {lo : Nat} {ls : List Nat} {ts : Array Value} {sv : Sv'} (h : At B A w₀ e s) (ht : TmR s e.tm ts) (hsv : SvR s lo sv) : ∃ s', s'.w = s.w ∧ At B A w₀ (e.norm lo ls) s' ∧ TmR s' (e.norm lo ls).tm ts ∧ SvR s' lo sv := by
 obtain ⟨s1, w1, h1, E1, t1⟩ := At.nilSlots ls h ht
 obtain ⟨s2, w2, h2, E2, t2⟩ := At.nilObs (e.os.map (·.1)) h1 t1
 unfold Env.norm
 dsimp only
 generalize Go.VI.nilObs (e.os.map (·.1)) (Go.VI.nilSlots e ls) = e0 at h2 t2 ⊢
 obtain ⟨s4, w4, h4, E4, t4⟩ : ∃ s4, s4.w = s2.w ∧ At B A w₀ (cond (memN ls 2046) (Go.VI.jkObs (hiIds lo e0.os) (lowIds lo e0.os) e0) e0) s4 ∧ Ev s2 s4 ∧ TmR s4 (cond (memN ls 2046) (Go.VI.jkObs (hiIds lo e0.os) (lowIds lo e0.os) e0) e0).tm ts := by
  cases memN ls 2046
  ·
   exact ⟨s2, rfl, h2, Ev.refl _, t2⟩
  ·
   exact At.jkObs _ h2 t2
 generalize cond (memN ls 2046) (Go.VI.jkObs (hiIds lo e0.os) (lowIds lo e0.os) e0) e0 = e1 at h4 t4 ⊢
 obtain ⟨s3, w3, h3, t3, v3⟩ := h4.ren (fl := flOf lo ls e1) (fb := memN ls 2047) (ls := ls) (L := newIds lo (reach e1.os 1000 ((ls.flatMap fun t => (e1.tm.get t).ids) ++ boxIds lo e1.os) [])) t4 (hsv.ev ((E1.trans E2).trans E4)) (fun o ho => by simp only [flOf, Bool.and_eq_true] at ho; exact ho.1)
 exact ⟨s3, w3.trans (w4.trans (w2.trans w1)), h3, t3, v3⟩
end
end Go.VI
namespace Go.VI
open Go Go.RowKit
set_option linter.unusedVariables false
set_option linter.unusedSimpArgs false
def DR (w : World) (ok : Nat → Prop) (d : Dat) (v : Value) : Prop := if d.k.single then d.k.R w ok d.x [v] else ∃ cs : Array Value, v = .agg cs ∧ d.k.R w ok d.x cs.toList
inductive Outs (w : World) (ok : Nat → Prop) : List Rs → List Value → List Nat → Prop
 | nil : Outs w ok [] [] []
 | dat {k x v rs vs bs} : DR w ok ⟨k, x⟩ v → Outs w ok rs vs bs → Outs w ok (.dat k x :: rs) (v :: vs) bs
 | ownN {k rs vs bs} : Outs w ok rs vs bs → Outs w ok (.own k [] :: rs) (.slice none 0 0 :: vs) bs
 | own {k xs rs vs bs b cs T inner rest cap} : w.heap[b]? = some (.cells cs T (0, 0)) → cs.toList = inner ++ rest → Reps (k.R w ok) xs inner → cs.size = cap * k.n → (xs.length ≤ cap ∧ xs.length ≤ maxLen) → Outs w ok rs vs bs →
   Outs w ok (.own k xs :: rs) (.slice (some ⟨b, 0, none⟩) xs.length cap :: vs) (b :: bs)
def DA (w : World) (ok : Nat → Prop) : Dat → Value → Prop
 | ⟨.ref k, x⟩, v => ∃ b o cs, v = .pointer (some ⟨b, o, none⟩) ∧ b < w.heap.size ∧ k.R w ok x cs ∧ Cells w b o cs
 | d, v => DR w ok d v
theorem DA_of {w : World} {ok : Nat → Prop} : ∀ {d : Dat} {v : Value}, DR w ok d v → DA w ok d v
 | ⟨.ref k, x⟩, v, h => by
  simp [DR, K.single, K.R] at h
 | ⟨.int _, _⟩, _, h | ⟨.bool, _⟩, _, h | ⟨.str, _⟩, _, h | ⟨.sl _, _⟩, _, h | ⟨.pr _ _, _⟩, _, h | ⟨.st _, _⟩, _, h => h
def outV : List Value → Value
 | [v] => v
 | vs => .tuple vs.toArray
def CallsTo (P : Program) (f : Nat) (ds : List Dat) (rs : List Rs) : Prop :=
 ∀ (w : World) (A : Nat → Prop) (vs : Array Value), (∀ b, A b → b < w.heap.size) → F2 (DA w A) ds vs.toList →
  Calls P f vs w fun en w' => ∃ os bs, en = .returned (outV os) ∧ Below w.heap.size w w' ∧ bs.Nodup ∧ (∀ b ∈ bs, w.heap.size ≤ b ∧ b < w'.heap.size) ∧ Outs w' (fun b => (A b ∨ w.heap.size ≤ b) ∧ b < w'.heap.size ∧ b ∉ bs) rs os bs
def fnB (P : Program) (f : Nat) : Bool := match P.funcs[f]? with
 | some fn => fn.body.isSome && !(fn.name == "runtime.NumGoroutine")
 | none => false
structure FentOk (P : Program) (f : Nat) (fe : Fent) : Prop where
 fn : fnB P f = true
 g : ∀ (α : Type) (ds : List Dat) (k : List Rs → Option α) (r : α), ds.map (·.k) = fe.ks → fe.g α ds k = some r → ∃ rs, CallsTo P f ds rs ∧ k rs = some r
section
variable {P : Program} {B : Nat} {A : Nat → Prop} {w₀ : World}
theorem callFunc_run {f : Nat} (h : fnB P f = true) (args : Array Value) (w : World) : (callFunc f args).run P w = .ok (.enter f args) w := by
 unfold fnB at h
 split at h
 ·
  rename_i fn hfn
  simp only [Bool.and_eq_true, Bool.not_eq_true'] at h
  unfold callFunc
  simp only [Sem.run_bind, run_program, Result.andThen_ok, hfn, h.2, Bool.false_eq_true, if_false]
  have : fn.body.isNone = false := by
   cases hb : fn.body <;> simp [hb] at h ⊢
  simp [this]
 ·
  cases h
theorem Cp.of_R {s : St} : ∀ {k : K} {x : k.T} {v : Value}, DR s.w s.ok ⟨k, x⟩ v → CpR s (Cp.of k x) v
 | .int _, x, v, h => .inr (show (K.int _).R s.w s.ok x [v] from by simpa [DR, K.single] using h)
 | .bool, x, v, h => .inr (show (K.bool).R s.w s.ok x [v] from by simpa [DR, K.single] using h)
 | .str, x, v, h => .inr (show (K.str).R s.w s.ok x [v] from by simpa [DR, K.single] using h)
 | .sl _, x, v, h => .inr (show (K.sl _).R s.w s.ok x [v] from by simpa [DR, K.single] using h)
 | .pr k1 k2, x, v, h => by
  obtain ⟨cs, rfl, hr⟩ := (show ∃ cs : Array Value, v = .agg cs ∧ (K.pr k1 k2).R s.w s.ok x cs.toList by simpa [DR, K.single] using h)
  exact ⟨cs, rfl, K.atoms_R hr⟩
 | .st k, x, v, h => by
  obtain ⟨cs, rfl, hr⟩ := (show ∃ cs : Array Value, v = .agg cs ∧ (K.st k).R s.w s.ok x cs.toList by simpa [DR, K.single] using h)
  exact ⟨cs, rfl, K.atoms_R (k := k) (x := x) (by rw [K.R] at hr; exact hr)⟩
 | .ref _, x, v, h => by
  simp [DR, K.single, K.R] at h
theorem Cp.of_A {s : St} (hw : s.hw = s.w) (hn : s.hn = s.w.heap.size) {k : K} {x : k.T} {v : Value} (h : DA s.w s.ok ⟨k, x⟩ v) : CpR s (Cp.of k x) v := by
 cases k with
 | ref k =>
  obtain ⟨b, o, cs, rfl, hb, hr, hc⟩ := h
  exact .inr ⟨b, o, cs, rfl, by rw [hn]; exact hb, hr, by rw [hw]; exact hc⟩
 | _ => exact Cp.of_R h
theorem DR.mono {w w' : World} {ok ok' : Nat → Prop} (hm : ∀ b, ok b → ok' b ∧ w'.heap[b]? = w.heap[b]?) {d : Dat} {v : Value} (h : DR w ok d v) : DR w' ok' d v := by
 unfold DR at *
 split
 ·
  rename_i hs; rw [if_pos hs] at h; exact K.R_move hm h
 ·
  rename_i hs; rw [if_neg hs] at h
  obtain ⟨cs, rfl, hr⟩ := h
  exact ⟨cs, rfl, K.R_move hm hr⟩
theorem K.R_flat {w w' : World} {ok ok' : Nat → Prop} : ∀ {k : K} {x : k.T} {cs : List Value}, k.flat = true → k.R w ok x cs → k.R w' ok' x cs
 | .int _, _, _, _, h => by rw [K.R] at h ⊢; exact h
 | .bool, _, _, _, h => by rw [K.R] at h ⊢; exact h
 | .str, _, _, _, h => by rw [K.R] at h ⊢; exact h
 | .sl _, _, _, hf, _ => by simp [K.flat] at hf
 | .pr a b, _, _, hf, h => by
  simp only [K.flat, Bool.and_eq_true] at hf
  rw [K.R] at h ⊢
  obtain ⟨c1, c2, rfl, h1, h2⟩ := h
  exact ⟨c1, c2, rfl, K.R_flat hf.1 h1, K.R_flat hf.2 h2⟩
 | .st k, x, _, hf, h => by
  rw [K.R] at h ⊢
  exact K.R_flat (k := k) (x := x) hf h
 | .ref _, _, _, hf, _ => by simp [K.flat] at hf
theorem DR.flat {w w' : World} {ok ok' : Nat → Prop} {d : Dat} {v : Value} (hf : d.k.flat = true) (h : DR w ok d v) : DR w' ok' d v := by
 unfold DR at *
 split
 ·
  rename_i hs; rw [if_pos hs] at h; exact K.R_flat hf h
 ·
  rename_i hs; rw [if_neg hs] at h
  obtain ⟨cs, rfl, hr⟩ := h
  exact ⟨cs, rfl, K.R_flat hf hr⟩
theorem dat_DR {e e1 : Env} {s : St} (g : G B A w₀ s) (hos : s.os = e1.os) (hsame : SameC e e1) {k : K} {c : Cp} {x : k.T} {v : Value} (hx : e.dat k c.atoms = some x) (hq : ∀ a ∈ c.atoms, e1.quiet a) (hs : (c.isA == k.single) = true) (hc : CpR s c v) :
  DR s.w s.ok ⟨k, x⟩ v := by
 have hx' : e1.dat k c.atoms = some x := by rw [hsame.dat]; exact hx
 unfold DR
 cases c with
 | a a =>
  have hs' : k.single = true := by simpa [Cp.isA] using hs
  rw [if_pos hs']
  have har : AR s a v := by
   rcases hc with hc | hc
   ·
    exfalso
    cases a <;> simp [isJunk] at hc
    cases k <;> simp [Env.dat, Env.ofAtoms, Env.peek, Cp.atoms, K.single] at hx hs'
   ·
    exact hc
  exact dat_R g hos hx' hq (.cons har .nil)
 | g xs =>
  have hs' : k.single = false := by simpa [Cp.isA] using hs
  rw [if_neg (by simp [hs'])]
  obtain ⟨arr, rfl, hf⟩ := hc
  exact ⟨arr, rfl, dat_R g hos hx' hq hf⟩
theorem argDat_R {e e1 : Env} {s : St} (g : G B A w₀ s) (hos : s.os = e1.os) (hsame : SameC e e1) {k : K} {c : Cp} {x : k.T} {v : Value} (hx : e.argDat k c = some x)
  (hq : ∀ a ∈ c.atoms ++ e.capL c, e1.quiet a) (hc : CpR s c v) : DA s.w s.ok ⟨k, x⟩ v := by
 have plain : cond (c.isA == k.single) (e.dat k c.atoms) none = some x → DR s.w s.ok ⟨k, x⟩ v := by
  intro hx
  cases hs : (c.isA == k.single)
  ·
   rw [hs] at hx; cases hx
  ·
   rw [hs] at hx
   exact dat_DR g hos hsame hx (fun a ha => hq a (List.mem_append_left _ ha)) hs hc
 cases k with
 | ref k =>
  simp only [Env.argDat] at hx
  unfold Env.refDat at hx
  split at hx
  ·
   rename_i o
   split at hx
   ·
    rename_i xs hl
    have hl1 : lk e1.os o = some (.box xs) := by
     have := hsame.lk o
     rw [hl] at this
     exact this
    have hls : lk s.os o = some (.box xs) := by rw [hos]; exact hl1
    obtain ⟨b, cs, T, hρ, hh, hf⟩ := g.obs o _ hls
    have har : AR s (.box o 0) v := hc.resolve_left (by simp [isJunk])
    obtain ⟨b', hρ', rfl⟩ := har.2.2 ⟨_, hls, rfl⟩
    rw [hρ] at hρ'
    cases hρ'
    have hx' : e1.dat k xs = some x := by rw [hsame.dat]; exact hx
    refine ⟨b, 0, cs.toList, rfl, (Array.getElem?_eq_some_iff.1 hh).1, dat_R g hos hx' (fun a ha => hq a ?_) hf, Cells.of_block hh⟩
    simp only [List.mem_append, Env.capL, Env.inBox, hl]
    exact .inr ha
   ·
    cases hx
  ·
   rename_i k' x' 
   obtain ⟨e1', e2⟩ := K.cast_eq hx
   subst e1'
   have e3 : x' = x := e2
   subst e3
   obtain ⟨b, o, cs, rfl, hb, hr, hcell⟩ := (hc.resolve_left (by simp [isJunk]) : AR s _ v)
   have hbB : b < B := Nat.lt_of_lt_of_le hb g.hid.2
   refine ⟨b, o, cs, rfl, Nat.lt_of_lt_of_le hbB g.size, hr, hcell.move ?_⟩
   rw [g.hid.1]
   exact g.below.block b hbB
  ·
   cases hx
 | _ => exact plain hx
theorem dats_R {e e1 : Env} {s : St} (g : G B A w₀ s) (hos : s.os = e1.os) (hsame : SameC e e1) : ∀ {ks : List K} {cs : List Cp} {ds : List Dat} {vs : List Value}, dats e ks cs = some ds → (∀ a ∈ e.argL cs, e1.quiet a) →
  F2 (CpR s) cs vs → F2 (DA s.w s.ok) ds vs ∧ ds.map (·.k) = ks
 | [], [], ds, vs, h, _, hv => by
  simp only [dats, Option.some.injEq] at h
  subst h
  cases hv
  exact ⟨.nil, rfl⟩
 | k :: ks, c :: cs, ds, _, h, hq, .cons hc hcs => by
  simp only [dats] at h
  split at h
  ·
   rename_i x hx
   split at h
   ·
    rename_i r hr
    cases h
    obtain ⟨h1, h2⟩ := dats_R g hos hsame hr (fun a ha => hq a (by simp only [Env.argL, List.mem_append]; exact .inr ha)) hcs
    exact ⟨.cons (argDat_R g hos hsame hx (fun a ha => hq a (by simp only [Env.argL, List.mem_append]; exact .inl (by simpa using ha))) hc) h1, by simp [h2]⟩
   ·
    cases h
  ·
   cases h
 | [], _ :: _, _, _, h, _, _ => by simp [dats] at h
 | _ :: _, [], _, _, h, _, _ => by simp [dats] at h
def impSt (s : St) : List Rs → List (Option Nat × Nat) → St
 | .own k xs :: l, (b, cap) :: m => impSt { s with ρ := fun o => if o = s.nx then b else s.ρ o, κ := fun o => if o = s.nx then cap else s.κ o, os := (s.nx, .row k 0 xs) :: s.os, nx := s.nx + 1 } l m
 | .dat _ _ :: l, m => impSt s l m
 | _, _ => s
inductive Bks (w : World) (ok : Nat → Prop) : List Rs → List (Option Nat × Nat) → List Nat → Prop
 | nil : Bks w ok [] [] []
 | dat {k x rs m bs} : Bks w ok rs m bs → Bks w ok (.dat k x :: rs) m bs
 | ownN {k rs m bs} : Bks w ok rs m bs → Bks w ok (.own k [] :: rs) ((none, 0) :: m) bs
 | own {k xs rs m bs b cs T inner rest cap} : w.heap[b]? = some (.cells cs T (0, 0)) → cs.toList = inner ++ rest → Reps (k.R w ok) xs inner → cs.size = cap * k.n → (xs.length ≤ cap ∧ xs.length ≤ maxLen) → Bks w ok rs m bs →
   Bks w ok (.own k xs :: rs) ((some b, cap) :: m) (b :: bs)
theorem imp_one {s : St} (g : G B A w₀ s) {k : K} {xs : List k.T} {b : Option Nat} {cap : Nat} (hok : ∀ x, b = some x → ¬ s.ok x) (hnew : ∀ x, b = some x → B ≤ x ∧ x < s.w.heap.size ∧ ∀ o ob, lk s.os o = some ob → s.ρ o ≠ some x)
  (hR : (b = none ∧ xs = []) ∨ ∃ x cs T inner rest, b = some x ∧ s.w.heap[x]? = some (.cells cs T (0, 0)) ∧ cs.toList = inner ++ rest ∧ Reps (k.R s.w s.ok) xs inner ∧ cs.size = cap * k.n ∧ xs.length ≤ cap ∧ xs.length ≤ maxLen) :
  G B A w₀ { s with ρ := fun o => if o = s.nx then b else s.ρ o, κ := fun o => if o = s.nx then cap else s.κ o, os := (s.nx, .row k 0 xs) :: s.os, nx := s.nx + 1 } ∧
  Ev s { s with ρ := fun o => if o = s.nx then b else s.ρ o, κ := fun o => if o = s.nx then cap else s.κ o, os := (s.nx, .row k 0 xs) :: s.os, nx := s.nx + 1 } := by
 generalize hs' : ({ s with ρ := fun o => if o = s.nx then b else s.ρ o, κ := fun o => if o = s.nx then cap else s.κ o, os := (s.nx, .row k 0 xs) :: s.os, nx := s.nx + 1 } : St) = s'
 have eρ : s'.ρ = fun o => if o = s.nx then b else s.ρ o := by rw [← hs']
 have eκ : s'.κ = fun o => if o = s.nx then cap else s.κ o := by rw [← hs']
 have eos : s'.os = (s.nx, .row k 0 xs) :: s.os := by rw [← hs']
 have enx : s'.nx = s.nx + 1 := by rw [← hs']
 have ew : s'.w = s.w := by rw [← hs']
 have eok : s'.ok = s.ok := by rw [← hs']
 have E : Ev s s' := by
  refine ⟨fun b hb => ⟨by rw [eok]; exact hb, by rw [ew]⟩, by omega, fun o ho h => ?_, fun o k2 ep ys ho _ h => ?_, by rw [← hs']; exact ⟨rfl, rfl⟩⟩
  ·
   have e : o ≠ s.nx := Nat.ne_of_lt ho
   unfold St.cellAt at h
   rw [eos, lk_cons_ne _ _ (Ne.symm e)] at h
   exact ⟨h, fun b hb => by rw [eρ]; simpa [e] using hb⟩
  ·
   have e : o ≠ s.nx := Nat.ne_of_lt ho
   unfold St.look at h
   rw [eos, lk_cons_ne _ _ (Ne.symm e)] at h
   exact ⟨ys, h, rfl, by rw [eρ]; simp [e], by rw [eκ]; simp [e]⟩
 refine ⟨g.step (by rw [ew]; exact Below.refl _ _) (fun x hx => ?_) E fun o ob ho => ?_, E⟩
 ·
  rw [eok] at hx
  have h := g.okb x hx
  refine ⟨h.1, by rw [ew]; exact h.2.1, fun o ob ho hl => ?_⟩
  by_cases e : o = s.nx
  ·
   rw [eρ]
   simp only [e, if_true]
   intro hc
   exact hok x hc hx
  ·
   rw [eos, lk_cons_ne _ _ (Ne.symm e)] at ho
   rw [eρ]
   simp only [e, if_false]
   exact h.2.2 o ob ho hl
 ·
  by_cases e : o = s.nx
  ·
   subst e
   rw [eos, lk_cons_same] at ho
   cases ho
   refine .inr ⟨?_, by omega, by rw [enx]; exact Nat.succ_pos _, fun _ x hx => ?_⟩
   ·
    rcases hR with ⟨h1, h2⟩ | ⟨x, cs, T, inner, rest, h1, h2, h3, h4, h5, h6⟩
    ·
     exact .inl ⟨by rw [eρ]; simp [h1], h2⟩
    ·
     exact .inr ⟨x, by rw [eρ]; simp [h1], cs, T, inner, rest, by rw [ew]; exact h2, h3, by rw [ew, eok]; exact h4, by rw [eκ]; simpa using h5, by rw [eκ]; simpa using h6.1, h6.2⟩
   ·
    have hx' : b = some x := by rw [eρ] at hx; simpa using hx
    obtain ⟨h1, h2, h3⟩ := hnew x hx'
    refine ⟨h1, by rw [ew]; exact h2, fun o' ob' hne ho' _ => ?_⟩
    rw [eos, lk_cons_ne _ _ (Ne.symm hne)] at ho'
    rw [eρ]
    simp only [hne, if_false]
    exact h3 o' ob' ho'
  ·
   rw [eos, lk_cons_ne _ _ (Ne.symm e)] at ho
   exact .inl ⟨ho, by rw [eρ]; simp [e], by rw [eκ]; simp [e], fun b hb => by rw [ew]⟩
theorem imp_R : ∀ {rs : List Rs} {vs : List Value} {bs : List Nat} {e : Env} {s : St}, At B A w₀ e s → Outs s.w s.ok rs vs bs → bs.Nodup → (∀ b ∈ bs, ¬ s.ok b ∧ B ≤ b ∧ b < s.w.heap.size ∧ ∀ o ob, lk s.os o = some ob → s.ρ o ≠ some b) →
  ∃ s', s'.w = s.w ∧ At B A w₀ (e.imp rs).2 s' ∧ Ev s s' ∧ (e.imp rs).2.tm = e.tm ∧ F2 (CpR s') (e.imp rs).1 vs
 | [], _, _, e, s, h, .nil, _, _ => ⟨s, rfl, h, Ev.refl s, rfl, .nil⟩
 | .dat k x :: rs, _, bs, e, s, h, .dat hd ho, hn, hb => by
  obtain ⟨s', w', h', E, t', f'⟩ := imp_R h ho hn hb
  exact ⟨s', w', h', E, t', .cons (CpR.ev E (Cp.of_R hd)) f'⟩
 | .own k _ :: rs, _, bs, e, s, h, .ownN ho, hn, hb => by
  obtain ⟨g1, E1⟩ := imp_one h.g (k := k) (xs := []) (b := none) (cap := 0) (fun _ hc => by cases hc) (fun _ hc => by cases hc) (.inl ⟨rfl, rfl⟩)
  have h1 : At B A w₀ (e.new (.row k 0 [])) _ := ⟨g1, by show (s.nx, _) :: s.os = (e.nx, _) :: e.os; rw [h.nx, h.os], by show s.nx + 1 = e.nx + 1; rw [h.nx]⟩
  obtain ⟨s', w', h', E, t', f'⟩ := imp_R (rs := rs) h1 ho hn (fun b hbm => by
   obtain ⟨q1, q2, q3, q4⟩ := hb b hbm
   refine ⟨q1, q2, q3, fun o ob hl => ?_⟩
   by_cases ee : o = s.nx
   ·
    simp [ee]
   ·
    simp only [ee, if_false]
    exact q4 o ob (by rw [show (_ : List (Nat × Ob)) = (s.nx, .row k 0 []) :: s.os from rfl, lk_cons_ne _ _ (Ne.symm ee)] at hl; exact hl))
  refine ⟨s', w', h', E1.trans E, t', .cons (.inr (AR.ev E ?_)) f'⟩
  rw [← h.nx]
  refine ⟨val1_slice _ _ _, Nat.lt_succ_self _, Nat.succ_pos _, fun k' xs' hl' => ?_⟩
  have : xs'.length = 0 := by
   unfold St.look at hl'
   simp only [lk_cons_same] at hl'
   rcases hl' with hl' | hl' <;> cases hl'
   rfl
  exact .inr ⟨by simp, this, rfl⟩
 | .own k xs :: rs, _, _, e, s, h, .own (b := b) (cap := cap) (bs := bs) hc he hr hs hl ho, hn, hb => by
  obtain ⟨q1, q2, q3, q4⟩ := hb b (by simp)
  obtain ⟨g1, E1⟩ := imp_one h.g (k := k) (xs := xs) (b := some b) (cap := cap) (fun _ hc => by cases hc; exact q1) (fun _ hc => by cases hc; exact ⟨q2, q3, q4⟩) (.inr ⟨b, _, _, _, _, rfl, hc, he, hr, hs, hl⟩)
  have h1 : At B A w₀ (e.new (.row k 0 xs)) _ := ⟨g1, by show (s.nx, _) :: s.os = (e.nx, _) :: e.os; rw [h.nx, h.os], by show s.nx + 1 = e.nx + 1; rw [h.nx]⟩
  have hn' := List.nodup_cons.1 hn
  obtain ⟨s', w', h', E, t', f'⟩ := imp_R (rs := rs) h1 ho hn'.2 (fun b' hbm => by
   obtain ⟨p1, p2, p3, p4⟩ := hb b' (by simp [hbm])
   refine ⟨p1, p2, p3, fun o ob hl => ?_⟩
   by_cases ee : o = s.nx
   ·
    simp only [ee, if_true]
    intro hcc
    cases hcc
    exact hn'.1 hbm
   ·
    simp only [ee, if_false]
    exact p4 o ob (by rw [show (_ : List (Nat × Ob)) = (s.nx, .row k 0 xs) :: s.os from rfl, lk_cons_ne _ _ (Ne.symm ee)] at hl; exact hl))
  refine ⟨s', w', h', E1.trans E, t', .cons (.inr (AR.ev E ?_)) f'⟩
  rw [← h.nx]
  refine ⟨val1_slice _ _ _, Nat.lt_succ_self _, Nat.succ_pos _, fun k' xs' hl' => ?_⟩
  have : k' = k ∧ HEq xs' xs := by
   unfold St.look at hl'
   simp only [lk_cons_same] at hl'
   rcases hl' with hl' | hl' <;> cases hl'
   exact ⟨rfl, HEq.rfl⟩
  obtain ⟨rfl, hx⟩ := this
  cases hx
  exact .inl ⟨b, by simp, by simpa using hl.1, by simp⟩
end
end Go.VI
namespace Go.VI
open Go Go.RowKit
set_option linter.unusedVariables false
set_option linter.unusedSimpArgs false
section
variable {P : Program} {B : Nat} {A : Nat → Prop} {w₀ : World}
def CallD (P : Program) (f : Nat) (args : List Cp) (e : Env) (rs : List Cp) (e' : Env) : Prop :=
 fnB P f = true ∧ ∀ (B : Nat) (A : Nat → Prop) (w₀ : World) (sv : Sv') (s : St) (vs : Array Value), At B A w₀ e s → SvR s e.nx sv → F2 (CpR s) args vs.toList →
  Calls P f vs s.w fun en w' => ∃ v s', en = .returned v ∧ s'.w = w' ∧ At B A w₀ e' s' ∧ SvR s' e.nx sv ∧ AVR s' (avOf rs) v ∧ e.nx ≤ e'.nx
def CallOk {α : Type} (P : Program) (call : CallC α) : Prop :=
 ∀ (chk : Env → Bool) (f : Nat) (args : List Cp) (e : Env) (k : List Cp → Env → Option α) (r : α), call chk f args e k = some r → ∃ rs e', k rs e' = some r ∧ CallD P f args e rs e' ∧
  (chk e' = true ∨ ∃ ks ds rs0, dats e ks args = some ds ∧ CallsTo P f ds rs0 ∧ rs = (e.impE args rs0).1 ∧ e' = (e.impE args rs0).2)
theorem avOf_R {s : St} : ∀ {cs : List Cp} {vs : List Value}, F2 (CpR s) cs vs → AVR s (avOf cs) (outV vs)
 | [], _, .nil => ⟨#[], rfl, .nil⟩
 | [c], _, .cons h .nil => h
 | c :: c' :: cs, _, .cons h (.cons h' hs) => ⟨_, rfl, by simpa using F2.cons h (.cons h' hs)⟩
theorem Outs.mono {w : World} {ok ok' : Nat → Prop} (hm : ∀ b, ok b → ok' b) : ∀ {rs : List Rs} {vs : List Value} {bs : List Nat}, Outs w ok rs vs bs → Outs w ok' rs vs bs
 | _, _, _, .nil => .nil
 | _, _, _, .dat hd h => .dat (hd.mono fun b hb => ⟨hm b hb, rfl⟩) (Outs.mono hm h)
 | _, _, _, .ownN h => .ownN (Outs.mono hm h)
 | _, _, _, .own h1 h2 h3 h4 h5 h => .own h1 h2 (h3.imp fun _ _ hx => K.R_move (fun b hb => ⟨hm b hb, rfl⟩) hx) h4 h5 (Outs.mono hm h)
theorem Outs.flat {w : World} {ok ok' : Nat → Prop} : ∀ {rs : List Rs} {vs : List Value} {bs : List Nat}, rs.all Rs.safe = true → Outs w ok rs vs bs → Outs w ok' rs vs bs
 | _, _, _, _, .nil => .nil
 | _, _, _, hs, .dat hd h => by
  simp only [List.all_cons, Bool.and_eq_true, Rs.safe] at hs
  exact .dat (hd.flat hs.1) (Outs.flat hs.2 h)
 | _, _, _, hs, .ownN h => by
  simp only [List.all_cons, Bool.and_eq_true, Rs.safe] at hs
  exact .ownN (Outs.flat hs.2 h)
 | _, _, _, hs, .own h1 h2 h3 h4 h5 h => by
  simp only [List.all_cons, Bool.and_eq_true, Rs.safe] at hs
  exact .own h1 h2 (h3.imp fun _ _ hx => K.R_flat hs.1 hx) h4 h5 (Outs.flat hs.2 h)
theorem dcall_core {f : Nat} {ks : List K} {args : List Cp} {e : Env} {ds : List Dat} {rs : List Rs} (hd : dats e ks args = some ds) (hcall : CallsTo P f ds rs)
  {s : St} {sv : Sv'} {n : Nat} {vs : Array Value} (h : At B A w₀ e s) (hsv : SvR s n sv) (ha : F2 (CpR s) args vs.toList) :
  Calls P f vs s.w fun en w' => ∃ os e' s', en = .returned (outV os) ∧ s'.w = w' ∧ At B A w₀ e' s' ∧ Ev s s' ∧
   e' = (e.impE args rs).2 ∧ F2 (CpR s') (e.impE args rs).1 os := by
 obtain ⟨s1, h1, E1, hw1, hκ1, hρ1⟩ := h.freezeL (l := e.argL args)
 have hq : ∀ a ∈ e.argL args, (e.freezeL (e.argL args)).quiet a := fun a ha => freezeL_quiet _ e a ha
 obtain ⟨hDR, hks⟩ := dats_R h1.g h1.os (freezeL_same _ e) hd hq (ha.imp fun _ _ hx => CpR.ev E1 hx)
 have hlt : ∀ b, s1.ok b → b < s.w.heap.size := fun b hb => by rw [← hw1]; exact (h1.g.okb b hb).2.1
 have hc := hcall s.w s1.ok vs hlt (by rw [← hw1]; exact hDR)
 refine hc.mono fun en w' hen => ?_
 obtain ⟨os, bs, rfl, hbel, hnd, hbs, hout⟩ := hen
 have livelt : ∀ {s2 : St}, G B A w₀ s2 → s2.w = s.w → ∀ o ob x, lk s2.os o = some ob → s2.ρ o = some x → x < s.w.heap.size := by
  intro s2 g2 hw2 o ob x hl hr
  rw [← hw2]
  exact (g2.obs o ob hl).lt hr
 cases hsafe : rs.all Rs.safe
 ·
  -- the arguments' rows are shared from now on
  have hb1 : Below s1.w.heap.size s1.w w' := by rw [hw1]; exact hbel
  let s2 : St := { s1 with w := w', ok := fun b => (s1.ok b ∨ s.w.heap.size ≤ b) ∧ b < w'.heap.size ∧ b ∉ bs }
  have E2 : Ev s1 s2 := by
   refine ⟨fun b hb => ?_, Nat.le_refl _, fun o _ hx => ⟨hx, fun _ hb => hb⟩, fun o k ep xs _ _ hx => ⟨xs, hx, rfl, rfl, rfl⟩, ⟨rfl, rfl⟩⟩
   have hbl := hlt b hb
   exact ⟨⟨.inl hb, Nat.lt_of_lt_of_le hbl hbel.size, fun hc => by have := (hbs b hc).1; omega⟩, by rw [show s2.w = w' from rfl, hbel.block b hbl, hw1]⟩
  have g2 : G B A w₀ s2 := by
   refine h1.g.step (s' := s2) (hb1.mono h1.g.size) (fun b hb => ?_) E2 fun o ob ho => .inl ⟨ho, rfl, rfl, fun b hb => hb1.block b ((h1.g.obs o ob ho).lt hb)⟩
   obtain ⟨q1, q2, q3⟩ := hb
   rcases q1 with q1 | q1
   ·
    have := h1.g.okb b q1
    exact ⟨this.1, q2, this.2.2⟩
   ·
    exact ⟨.inr (Nat.le_trans h.g.size q1), q2, fun o ob ho _ hc => by have := livelt h1.g hw1 o ob b ho hc; omega⟩
  have h2 : At B A w₀ (e.freezeL (e.argL args)) s2 := ⟨g2, h1.os, h1.nx⟩
  obtain ⟨s3, hw3, h3, E3, t3, f3⟩ := imp_R h2 hout hnd (fun b hb => ⟨fun hc => hc.2.2 hb, Nat.le_trans h.g.size (hbs b hb).1, (hbs b hb).2, fun o ob ho hc => by
   have := livelt h1.g hw1 o ob b ho hc
   have := (hbs b hb).1
   omega⟩)
  simp only [Env.impE, hsafe, cond_false]
  exact ⟨os, _, s3, rfl, hw3, h3, (E1.trans E2).trans E3, rfl, f3⟩
 ·
  -- flat results: nothing of the arguments is in them
  have hout' : Outs w' (fun b => s.ok b ∧ b < s.w.heap.size) rs os bs := hout.flat hsafe
  let s2 : St := { s with w := w', ok := fun b => s.ok b ∧ b < s.w.heap.size }
  have E2 : Ev s s2 := by
   refine ⟨fun b hb => ?_, Nat.le_refl _, fun o _ hx => ⟨hx, fun _ hb => hb⟩, fun o k ep xs _ _ hx => ⟨xs, hx, rfl, rfl, rfl⟩, ⟨rfl, rfl⟩⟩
   have hbl := (h.g.okb b hb).2.1
   exact ⟨⟨hb, hbl⟩, by rw [show s2.w = w' from rfl, hbel.block b hbl]⟩
  have g2 : G B A w₀ s2 := by
   refine h.g.step (s' := s2) (hbel.mono h.g.size) (fun b hb => ?_) E2 fun o ob ho => .inl ⟨ho, rfl, rfl, fun b hb => hbel.block b ((h.g.obs o ob ho).lt hb)⟩
   have := h.g.okb b hb.1
   exact ⟨this.1, Nat.lt_of_lt_of_le this.2.1 hbel.size, this.2.2⟩
  have h2 : At B A w₀ e s2 := ⟨g2, h.os, h.nx⟩
  obtain ⟨s3, hw3, h3, E3, t3, f3⟩ := imp_R h2 hout' hnd (fun b hb => ⟨fun hc => by have := hc.2; have := (hbs b hb).1; omega, Nat.le_trans h.g.size (hbs b hb).1, (hbs b hb).2, fun o ob ho hc => by
   have := livelt h.g rfl o ob b ho hc
   have := (hbs b hb).1
   omega⟩)
  simp only [Env.impE, hsafe, cond_true]
  exact ⟨os, _, s3, rfl, hw3, h3, E2.trans E3, rfl, f3⟩
theorem dats_ks : ∀ {e : Env} {ks : List K} {cs : List Cp} {ds : List Dat}, dats e ks cs = some ds → ds.map (·.k) = ks
 | e, [], [], ds, h => by simp only [dats, Option.some.injEq] at h; subst h; rfl
 | e, k :: ks, c :: cs, ds, h => by
  simp only [dats] at h
  split at h
  ·
   split at h
   ·
    rename_i r hr
    cases h
    simp [dats_ks hr]
   ·
    cases h
  ·
   cases h
 | e, [], _ :: _, _, h => by simp [dats] at h
 | e, _ :: _, [], _, h => by simp [dats] at h
structure Rel (B : Nat) (A : Nat → Prop) (w₀ : World) (lo : Nat) (sv : Sv') (N : Nat) (e : Env) (a : Act) (s : St) : Prop where
 at_ : At B A w₀ e s
 tm : TmR s e.tm a.tmps
 sv : SvR s lo sv
 df : a.defers = []
 sz : N ≤ a.tmps.size
 lo : lo ≤ e.nx
variable {lo : Nat} {sv : Sv'} {N : Nat} {e e' : Env} {a : Act} {s s' : St}
theorem Rel.ev (h : Rel B A w₀ lo sv N e a s) (x : Operand) : AVR s (e.ev x) (a.eval x) := by
 cases x with
 | tmp t => exact h.tm t
 | const v =>
  show CpR s (.a (ofConst v)) v
  unfold ofConst
  split
  ·
   rename_i k n
   cases hb : (decide (k.min ≤ n) && decide (n ≤ k.max))
   ·
    exact .inl rfl
   ·
    simp only [Bool.and_eq_true, decide_eq_true_eq] at hb
    exact .inr (int_R _ _ hb)
  ·
   exact .inr (bool_R _)
  ·
   rename_i str
   cases hb : Nat.ble str.data.toList.length 1099511627776
   ·
    exact .inl rfl
   ·
    exact .inr (str_R _ (ml_pos _ (Nat.le_of_ble_eq_true hb)))
  ·
   exact .inr rfl
  ·
   exact .inr rfl
  ·
   exact .inl rfl
 | func f => exact .inr ⟨#[], rfl, .nil⟩
 | global g => exact AVR.junk _ _
theorem put_getD {a : Act} {d t : Nat} {v : Value} : (a.put (some d) v).tmps.getD t undef = if d = t ∧ d < a.tmps.size then v else a.tmps.getD t undef := by
 simp only [Act.put, Array.getD_eq_getD_getElem?, Array.getElem?_setIfInBounds]
 by_cases h1 : d = t
 ·
  subst h1
  by_cases h2 : d < a.tmps.size
  ·
   simp [h2]
  ·
   simp [h2, Array.getElem?_eq_none (Nat.le_of_not_lt h2)]
 ·
  simp [h1]
theorem Rel.put' (h : Rel B A w₀ lo sv N e a s) {v : AV} {val : Value} (hv : AVR s v val) {α : Type} {d : Option Nat} {k : Env → Option α} {r : α} (hk : e.setK N d v k = some r) :
  ∃ e2, Rel B A w₀ lo sv N e2 (a.put d val) s ∧ e2.nx = e.nx ∧ k e2 = some r := by
 cases d with
 | none =>
  simp only [Env.setK] at hk
  exact ⟨e, h, rfl, hk⟩
 | some d =>
  simp only [Env.setK] at hk
  cases hb : (Nat.blt d N && Nat.ble N 2000)
  ·
   rw [hb] at hk; cases hk
  ·
   rw [hb] at hk
   simp only [cond_true] at hk
   simp only [Bool.and_eq_true] at hb
   have hd : d < N := by simpa [Nat.blt_eq] using hb.1
   have hdt : d < a.tmps.size := Nat.lt_of_lt_of_le hd h.sz
   refine ⟨{ e with tm := e.tm.set d v }, ⟨⟨h.at_.g, h.at_.os, h.at_.nx⟩, fun t => ?_, h.sv, h.df, by simpa [Act.put] using h.sz, h.lo⟩, rfl, hk⟩
   rw [put_getD]
   by_cases e1 : d = t
   ·
    subst e1
    simp only [hdt, and_self, if_true]
    show AVR s ((e.tm.set d v).get d) val
    rcases Tr.get_set_any e.tm d v with h1 | h1 <;> rw [h1]
    ·
     exact hv
    ·
     exact AVR.junk _ _
   ·
    simp only [e1, false_and, if_false]
    show AVR s ((e.tm.set d v).get t) _
    rw [Tr.get_set_ne _ _ e1]
    exact h.tm t
theorem Rel.put (h : Rel B A w₀ lo sv N e a s) (h' : At B A w₀ e' s') (htm : e'.tm = e.tm) (E : Ev s s') (hlo : e.nx ≤ e'.nx) {v : AV} {val : Value} (hv : AVR s' v val) {α : Type} {d : Option Nat} {k : Env → Option α} {r : α} (hk : e'.setK N d v k = some r) :
  ∃ e2, Rel B A w₀ lo sv N e2 (a.put d val) s' ∧ e2.nx = e'.nx ∧ k e2 = some r :=
 Rel.put' ⟨h', by rw [htm]; exact h.tm.ev E, h.sv.ev E, h.df, h.sz, Nat.le_trans h.lo hlo⟩ hv hk
theorem Rel.lit (h : Rel B A w₀ lo sv N e a s) {t : Nat} {b : Bool} (ht : e.tm.get t = .c (.a (.d .bool b))) : Rel B A w₀ lo sv N { e with tm := e.tm.set t (.at (.d .bool b)) } a s :=
 ⟨⟨h.at_.g, h.at_.os, h.at_.nx⟩, TmR.set h.tm (by have := h.tm t; rw [ht] at this; exact this), h.sv, h.df, h.sz, h.lo⟩
theorem Rel.bool (h : Rel B A w₀ lo sv N e a s) {t : Nat} {b : Bool} (ht : e.tm.get t = .c (.a (.d .bool b))) : a.tmps[t]? = some (.bool b) := by
 have := h.tm t
 rw [ht] at this
 have := R_bool (this.resolve_left (by simp [isJunk]))
 rw [Array.getD_eq_getD_getElem?] at this
 cases hq : a.tmps[t]? with
 | none => rw [hq] at this; simp [undef] at this
 | some v => rw [hq] at this; simp at this; rw [this]
theorem good_nx (h : Rel B A w₀ lo sv N e a s) {o : Oper} {v : AV} {e1 : Env} (hg : Good P B A w₀ s a.eval o v e1) :
  ∃ s' val, ((execOp a.eval o).run P s.w = .ok (.value val) s'.w ∨ ((execOp a.eval o).run P s.w = .ok .skip s'.w ∧ val = undef)) ∧ At B A w₀ (e.back e1) s' ∧ Ev s s' ∧ AVR s' v val ∧ e.nx ≤ e1.nx := by
 obtain ⟨s', val, h1, h2, h3, h4⟩ := hg
 refine ⟨s', val, h1, ⟨h2.g, h2.os, h2.nx⟩, h3, h4, ?_⟩
 have q1 : s.nx = e.nx := h.at_.nx
 have q2 := h2.nx
 have q3 := h3.nx
 omega
theorem absOp_nx {T : Tys} (hT : tysB P T = true) (h : Rel B A w₀ lo sv N e a s) {o : Oper} {v : AV} {e1 : Env} (hop : absOp T e.ev e.bare o = some (true, v, e1)) :
  ∃ s' val, ((execOp a.eval o).run P s.w = .ok (.value val) s'.w ∨ ((execOp a.eval o).run P s.w = .ok .skip s'.w ∧ val = undef)) ∧ At B A w₀ (e.back e1) s' ∧ Ev s s' ∧ AVR s' v val ∧ e.nx ≤ e1.nx :=
 good_nx h (absOp_good (e := e.bare) hT ⟨h.at_.g, h.at_.os, h.at_.nx⟩ h.ev hop)
theorem nextA_nx (h : Rel B A w₀ lo sv N e a s) {o : Oper} {b : Bool} {x y : AV × Env} (hop : nextA e.ev e.bare o = some (b, x, y)) :
  ∃ s' val, ((execOp a.eval o).run P s.w = .ok (.value val) s'.w ∨ ((execOp a.eval o).run P s.w = .ok .skip s'.w ∧ val = undef)) ∧ At B A w₀ (e.back (cond b x.2 y.2)) s' ∧ Ev s s' ∧ AVR s' (cond b x.1 y.1) val ∧ e.nx ≤ (cond b x.2 y.2).nx :=
 good_nx h (nextA_good (e := e.bare) ⟨h.at_.g, h.at_.os, h.at_.nx⟩ h.ev hop)
theorem cps_R (h : Rel B A w₀ lo sv N e a s) : ∀ {l : List Operand} {cs : List Cp}, cps? (l.map e.ev) = some cs → F2 (CpR s) cs (l.map a.eval)
 | [], cs, hc => by simp [cps?] at hc; subst hc; exact .nil
 | x :: l, cs, hc => by
  simp only [List.map_cons] at hc ⊢
  unfold cps? at hc
  split at hc
  ·
   rename_i heq; cases heq
  ·
   rename_i c l' heq
   have hx : e.ev x = .c c := (List.cons.inj heq).1
   have hl : l' = l.map e.ev := (List.cons.inj heq).2.symm
   subst hl
   split at hc
   ·
    rename_i r hr
    cases hc
    have := h.ev x
    rw [hx] at this
    exact .cons this (cps_R h hr)
   ·
    cases hc
  ·
   cases hc
theorem caps_args {cs : List Nat} {vs : List Value} (hf : F2 (fun o v => o < s.nx ∧ Val1 v ∧ (s.cellAt o → ∃ b, s.ρ o = some b ∧ v = .pointer (some ⟨b, 0, none⟩))) cs vs) : F2 (CpR s) (cs.map fun o => .a (.box o 0)) vs := by
 induction hf with
 | nil => exact .nil
 | cons h _ ih => exact .cons (.inr ⟨h.2.1, h.1, h.2.2⟩) ih
theorem F2.app' {α β : Type} {R : α → β → Prop} {xs xs' : List α} {ys ys' : List β} (h : F2 R xs ys) (h' : F2 R xs' ys') : F2 R (xs ++ xs') (ys ++ ys') := h.app h'
theorem callD_wp {o : Oper} {c : Call} {f : Operand} {fn : Nat} {caps : List Nat} {cs rs : List Cp} {e1 : Env} (hc : o.op = .call c) (hcv : c.callee = .value f) (hfn : e.ev f = .c (.a (.fn fn caps))) (hcs : cps? (c.args.toList.map e.ev) = some cs)
  (hD : CallD P fn (cs ++ caps.map fun o => .a (.box o 0)) e.bare rs e1) (h : Rel B A w₀ lo sv N e a s) {Q : Exit → Act → World → Prop} {R : Act → World → Prop}
  (hR : ∀ v s1, Rel B A w₀ lo sv N (e.back e1) a s1 → AVR s1 (avOf rs) v → R (a.put o.dst v) s1.w) : o.wp P a s.w R Q := by
 obtain ⟨hfb, hcalls⟩ := hD
 have hfv := h.ev f
 rw [hfn] at hfv
 obtain ⟨lb, hlb, hcaps⟩ := hfv.resolve_left (by simp [isJunk])
 have hargs := cps_R h hcs
 have hb : At B A w₀ e.bare s := ⟨h.at_.g, h.at_.os, h.at_.nx⟩
 have hsv' : SvR s e.bare.nx ((e.tm, a.tmps) :: sv) := by
  intro p hp t
  rcases List.mem_cons.1 hp with rfl | hp
  ·
   refine ⟨h.tm t, ?_⟩
   have := (h.tm t).below
   rw [h.at_.nx] at this
   exact this
  ·
   obtain ⟨q1, q2⟩ := h.sv p hp t
   refine ⟨q1, ?_⟩
   have := q1.below
   rw [h.at_.nx] at this
   exact this
 have hC := hcalls B A w₀ ((e.tm, a.tmps) :: sv) s (c.args.map a.eval ++ lb) hb hsv' (by simpa using hargs.app' (caps_args hcaps))
 have hrun : (execOp a.eval o).run P s.w = .ok (.enter fn (c.args.map a.eval ++ lb)) s.w := by
  simp only [execOp, hc, resolve, hcv, hlb, Deferred.ofValue, Sem.run_bind, Sem.run_pure, Result.andThen_ok, invoke]
  simp only [Array.empty_append]
  exact callFunc_run hfb _ _
 unfold Oper.wp
 rw [hrun]
 refine hC.mono fun en w' hen => ?_
 obtain ⟨v, s1, rfl, hw1, hat1, hsv1, hv1, hnx1⟩ := hen
 subst hw1
 exact hR v s1 ⟨⟨hat1.g, hat1.os, hat1.nx⟩, fun t => (hsv1 (e.tm, a.tmps) (by simp) t).1, fun p hp t => ⟨(hsv1 p (by simp [hp]) t).1, (h.sv p hp t).2⟩, h.df, h.sz, Nat.le_trans h.lo hnx1⟩ hv1
end
end Go.VI
namespace Go.VI
open Go Go.RowKit
set_option linter.unusedVariables false
set_option linter.unusedSimpArgs false
theorem fill_congr {T : Tys} {f g : Operand → AV} {fs : List (Nat × Nat)} : ∀ {l : List (Nat × Operand)} {z : List Atom}, (∀ x ∈ l.map (·.2), f x = g x) → fill T f fs l z = fill T g fs l z
 | [], z, _ => rfl
 | (i, x) :: l, z, h => by
  simp only [fill]
  rw [h x (by simp)]
  split
  ·
   split
   ·
    split
    ·
     rw [fill_congr fun y hy => h y (by simp at hy ⊢; exact .inr hy)]
    ·
     rfl
   ·
    rfl
  ·
   rfl
theorem elems_congr {f g : Operand → AV} {e : Env} {k : K} : ∀ {l : List (Nat × Operand)} {i : Nat}, (∀ x ∈ l.map (·.2), f x = g x) → elems f e k i l = elems g e k i l
 | [], i, _ => rfl
 | (j, x) :: l, i, h => by
  simp only [elems]
  rw [h x (by simp), elems_congr fun y hy => h y (by simp at hy ⊢; exact .inr hy)]
theorem absOp_congr {T : Tys} {f g : Operand → AV} {e : Env} {o : Oper} (h : ∀ x ∈ o.op.operands, f x = g x) : absOp T f e o = absOp T g e o := by
 obtain ⟨dst, op, type, pos, after, guard⟩ := o
 cases op <;> simp only [Op.operands] at h <;> simp only [absOp]
 case build t ps => simp only [show ∀ fs z, fill T f fs ps.toList z = fill T g fs ps.toList z from fun fs z => fill_congr fun x hx => h x (by simpa using hx)]
 case buildSlice t n ps => simp only [show ∀ k, elems f e k 0 ps.toList = elems g e k 0 ps.toList from fun k => elems_congr fun x hx => h x (by simpa using hx)]
 case makeFunc fn first caps =>
  cases fn <;> simp only []
  rw [show caps.toList.map f = caps.toList.map g from List.map_congr_left fun x hx => h x (by simp at hx ⊢; exact .inr hx)]
 case call c =>
  split
  ·
   rw [show c.args.toList.map f = c.args.toList.map g from List.map_congr_left fun x hx => h x (by simp [Call.operands]; exact .inr (by simpa using hx))]
  ·
   rfl
 case slice t x lo hi mx =>
  cases mx <;> simp only []
  rw [h x (by simp)]
  have e1 : lo.map f = lo.map g := by cases lo <;> simp_all
  have e2 : hi.map f = hi.map g := by cases hi <;> simp_all
  rw [e1, e2]
 all_goals first | rfl | (simp_all; done) | (simp [h]; done) | skip
theorem nextA_congr {f g : Operand → AV} {e : Env} {o : Oper} (h : ∀ x ∈ o.op.operands, f x = g x) : nextA f e o = nextA g e o := by
 obtain ⟨dst, op, type, pos, after, guard⟩ := o
 cases op <;> simp only [nextA]
 case next it b =>
  simp only [Op.operands] at h
  have := h it (by simp)
  cases b
  ·
   rfl
  ·
   simp only [this]
theorem nextA_nw {T : Tys} {f : Operand → AV} {e : Env} {o : Oper} {q : Bool × (AV × Env) × (AV × Env)} (h : nextA f e o = some q) : nwOp o.op = true ∧ pureOp T o.op = false ∧ ∀ c, o.op ≠ .call c := by
 obtain ⟨dst, op, type, pos, after, guard⟩ := o
 cases op <;> simp only [nextA] at h
 case next it b => exact ⟨rfl, rfl, fun c hc => (by cases hc)⟩
 all_goals cases h
theorem pure_map {T : Tys} {f : Operand → AV} {o : Oper} (hp : pureOp T o.op = true) (e e0 : Env) : absOp T f e o = (absOp T f e0 o).map fun p => (p.1, p.2.1, e) := by
 obtain ⟨dst, op, type, pos, after, guard⟩ := o
 cases op <;> simp only [pureOp, Bool.false_eq_true] at hp <;> simp only [absOp, ok1]
 case convert t d x =>
  simp only [Bool.not_eq_true'] at hp
  unfold convOp
  split
  ·
   rfl
  ·
   rename_i te z a h1 h2 h3
   rw [← h1, hp]
   simp only [cond_false]
   split
   ·
    rfl
   ·
    rfl
  ·
   rfl
 case makeFunc fn first caps =>
  cases fn <;> simp only [Option.map_none]
  cases Nat.beq first.size 0 <;> simp only [cond_true, cond_false, Option.map_none]
  split <;> rfl
 all_goals
  repeat' split
  all_goals first | rfl | simp_all
theorem pure_any {T : Tys} {f : Operand → AV} {o : Oper} (hp : pureOp T o.op = true) {e e1 : Env} {c : Bool} {v : AV} (h : absOp T f e o = some (c, v, e1)) : e1 = e ∧ ∀ e2, absOp T f e2 o = some (c, v, e2) := by
 constructor
 ·
  have := pure_map (T := T) (f := f) hp e e
  rw [h] at this
  simp only [Option.map_some, Option.some.injEq, Prod.mk.injEq, true_and] at this
  exact this
 ·
  intro e2
  rw [pure_map hp e2 e, h]
  rfl
theorem cond_e {b c c' : Bool} {v v' : AV} {e e1 : Env} (h : (bif b then some (c', v', e) else none) = some (c, v, e1)) : e1 = e := by
 cases b
 ·
  cases h
 ·
  cases h; rfl
theorem conv_same {e e1 : Env} {t d : Option TE} {x : Option Atom} {c : Bool} {v : AV} (h : convOp e t d x = some (c, v, e1)) : e1 = e := by
 unfold convOp at h
 split at h
 ·
  cases h; rfl
 ·
  rename_i te z a
  cases hu : isU8 (some te)
  ·
   rw [hu] at h
   simp only [cond_false] at h
   split at h
   ·
    cases h; rfl
   ·
    cases h
  ·
   rw [hu] at h
   simp only [cond_true] at h
   unfold convB at h
   repeat' split at h
   all_goals first | (cases h; done) | (simp only [Option.some.injEq, Prod.mk.injEq] at h; exact h.2.2.symm)
 ·
  cases h
theorem quiet_same {T : Tys} {f : Operand → AV} {o : Oper} (hp : nwOp o.op = false) {e e1 : Env} {c : Bool} {v : AV} (h : absOp T f e o = some (c, v, e1)) : e1 = e := by
 by_cases hpu : pureOp T o.op = true
 ·
  exact (pure_any hpu h).1
 ·
  obtain ⟨dst, op, type, pos, after, guard⟩ := o
  cases op <;> simp only [nwOp, pureOp, Bool.true_eq_false, not_true_eq_false] at hp hpu <;> simp only [absOp, ok1] at h
  case convert t d x => exact conv_same h
  case call cl =>
   obtain ⟨cal, args, ats⟩ := cl
   cases cal with
   | builtin b =>
    simp only at h
    unfold builtinA at h
    simp only [ok1] at h
    cases b <;> simp only [nwOp, Bool.true_eq_false] at hp
    all_goals
     repeat' split at h
     all_goals first | contradiction | (cases h; done) | (cases h; rfl) | skip
   | value f' => cases h
   | invoke f' m => cases h
  case slice t x lo hi mx =>
   cases mx <;> simp only at h
   ·
    repeat' split at h
    ·
     simp only [sliceStr, Option.some.injEq, Prod.mk.injEq] at h
     exact h.2.2.symm
    ·
     simp only [sliceOp] at h
     repeat' split at h
     all_goals first | (cases h; done) | (cases h; rfl) | skip
     all_goals exact cond_e h
    ·
     cases h
   ·
    cases h
  case indexAddr t x ix =>
   repeat' split at h
   all_goals first | (cases h; done) | (cases h; rfl) | skip
   all_goals exact cond_e h
  all_goals
   repeat' split at h
   all_goals first | (cases h; done) | (cases h; rfl) | skip
def IdsOk (e : Env) : Prop := ∀ o ob, lk e.os o = some ob → o < e.nx
def Ext (e e' : Env) : Prop := ∀ o ob, lk e.os o = some ob → ob ≠ .unb → lk e'.os o = some ob ∨ ∃ k ep xs, ob = .row k ep xs ∧ lk e'.os o = some (.frz k ep xs)
theorem Ext.refl (e : Env) : Ext e e := fun _ _ h _ => .inl h
theorem Ext.trans {a b c : Env} (h : Ext a b) (h' : Ext b c) : Ext a c := by
 intro o ob ho hu
 rcases h o ob ho hu with h1 | ⟨k, ep, xs, rfl, h1⟩
 ·
  exact h' o ob h1 hu
 ·
  rcases h' o _ h1 (by intro hc; cases hc) with h2 | ⟨_, _, _, h2, _⟩
  ·
   exact .inr ⟨k, ep, xs, rfl, h2⟩
  ·
   cases h2
theorem Ext.freeze (e : Env) (a : Atom) : Ext e (e.freeze a) := by
 cases a with
 | sl o ep0 v =>
  simp only [Env.freeze]
  split
  ·
   rename_i k ep xs hl
   intro i ob hi _
   by_cases h : o = i
   ·
    subst h
    rw [hl] at hi
    cases hi
    exact .inr ⟨k, ep, xs, rfl, lk_up_same hl⟩
   ·
    exact .inl (by show lk (up e.os o _) i = _; rw [lk_up_ne h]; exact hi)
  ·
   exact Ext.refl _
 | _ => exact Ext.refl _
theorem Ext.freezeL : ∀ (l : List Atom) (e : Env), Ext e (e.freezeL l)
 | [], e => Ext.refl e
 | a :: l, e => (Ext.freeze e a).trans (Ext.freezeL l _)
theorem Ext.new {e : Env} (h : IdsOk e) (b : Ob) : Ext e (e.new b) := by
 intro o ob ho _
 have := h o ob ho
 left
 show lk ((e.nx, b) :: e.os) o = _
 rw [lk_cons_ne _ _ (by omega)]
 exact ho
theorem IdsOk.freeze {e : Env} (h : IdsOk e) (a : Atom) : IdsOk (e.freeze a) := by
 cases a with
 | sl o ep0 v =>
  simp only [Env.freeze]
  split
  ·
   rename_i k ep xs hl
   intro i ob hi
   by_cases hq : o = i
   ·
    subst hq; exact h o _ hl
   ·
    have hi : lk (up e.os o (.frz k ep xs)) i = some ob := hi
    rw [lk_up_ne hq] at hi
    exact h i ob hi
  ·
   exact h
 | _ => exact h
theorem freeze_nx (e : Env) (a : Atom) : (e.freeze a).nx = e.nx := by
 unfold Env.freeze
 repeat' split
 all_goals rfl
theorem IdsOk.freezeL : ∀ (l : List Atom) {e : Env}, IdsOk e → IdsOk (e.freezeL l)
 | [], e, h => h
 | a :: l, e, h => IdsOk.freezeL l (h.freeze a)
theorem IdsOk.new {e : Env} (h : IdsOk e) (b : Ob) : IdsOk (e.new b) := by
 intro o ob ho
 have ho : lk ((e.nx, b) :: e.os) o = some ob := ho
 show o < e.nx + 1
 by_cases hq : e.nx = o
 ·
  omega
 ·
  rw [lk_cons_ne _ _ hq] at ho
  have := h o ob ho
  omega
theorem IdsOk.up {e : Env} (h : IdsOk e) {o : Nat} {b ob : Ob} (hl : lk e.os o = some ob) (n : Nat) (hn : e.nx ≤ n) : IdsOk { e with os := up e.os o b, nx := n } := by
 intro i ob' hi
 show i < n
 by_cases hq : o = i
 ·
  subst hq
  have := h o ob hl
  omega
 ·
  have hi : lk (VI.up e.os o b) i = some ob' := hi
  rw [lk_up_ne hq] at hi
  have := h i ob' hi
  omega
theorem cellsAt_ext {e e' : Env} (h : Ext e e') {a : Atom} {l : List Atom} (hc : e.cellsAt a = some l) : e'.cellsAt a = some l := by
 cases a with
 | box o i =>
  simp only [Env.cellsAt] at hc ⊢
  split at hc
  ·
   rename_i xs hl
   rcases h o _ hl (by intro hc; cases hc) with h1 | ⟨_, _, _, h1, _⟩
   ·
    rw [h1]; exact hc
   ·
    cases h1
  ·
   cases hc
 | row o ep i c =>
  simp only [Env.cellsAt] at hc ⊢
  split at hc
  ·
   rename_i k ep' xs hl
   rcases h o _ hl (by intro hc; cases hc) with h1 | ⟨_, _, _, h1, h2⟩
   ·
    rw [h1]; exact hc
   ·
    cases h1; rw [h2]; exact hc
  ·
   rename_i k ep' xs hl
   rcases h o _ hl (by intro hc; cases hc) with h1 | ⟨_, _, _, h1, _⟩
   ·
    rw [h1]; exact hc
   ·
    cases h1
  ·
   cases hc
 | elt k xs i c => exact hc
 | ref k x c => exact hc
 | _ => simp [Env.cellsAt] at hc
theorem lenA_ext {e e' : Env} (h : Ext e e') {a : Atom} {n : Int} (hc : e.lenA a = some n) : e'.lenA a = some n := by
 cases a with
 | sl o ep v =>
  simp only [Env.lenA] at hc ⊢
  split at hc
  ·
   rename_i k ep' xs hl
   rcases h o _ hl (by intro hc; cases hc) with h1 | ⟨_, _, _, h1, h2⟩
   ·
    rw [h1]; exact hc
   ·
    cases h1; rw [h2]; exact hc
  ·
   rename_i k ep' xs hl
   rcases h o _ hl (by intro hc; cases hc) with h1 | ⟨_, _, _, h1, _⟩
   ·
    rw [h1]; exact hc
   ·
    cases h1
  ·
   cases hc
 | bsl o q =>
  simp only [Env.lenA] at hc ⊢
  split at hc
  ·
   rename_i xs hl
   rcases h o _ hl (by intro hc; cases hc) with h1 | ⟨_, _, _, h1, _⟩
   ·
    rw [h1]; exact hc
   ·
    cases h1
  ·
   cases hc
 | d k x => cases k <;> exact hc
 | _ => first | exact hc | simp [Env.lenA] at hc
theorem cond_get {α : Type _} {b : Bool} {x : Option α} {y : α} (h : (bif b then x else none) = some y) : x = some y := by
 cases b
 ·
  cases h
 ·
  exact h
theorem some_cond {b : Bool} {x : Bool × AV} {e : Env} {c : Bool} {v : AV} {e1 : Env} (h : (bif b then some (x.1, x.2, e) else none) = some (c, v, e1)) (e2 : Env) : (bif b then some (x.1, x.2, e2) else none) = some (c, v, e2) := by
 cases b
 ·
  cases h
 ·
  cases h; rfl
theorem read_ext {T : Tys} {f : Operand → AV} {o : Oper} (hr : readOp o.op = true) {e e1 e2 : Env} (hx : Ext e e2) {c : Bool} {v : AV} (h : absOp T f e o = some (c, v, e1)) : absOp T f e2 o = some (c, v, e2) := by
 obtain ⟨dst, op, type, pos, after, guard⟩ := o
 cases op <;> simp only [readOp, Bool.false_eq_true] at hr <;> simp only [absOp, ok1] at h ⊢
 case load t x =>
  split at h
  ·
   rename_i te ad h1 h2
   split at h
   ·
    rename_i l hl
    simp only [cellsAt_ext hx hl]
    split at h
    ·
     rename_i cp hcp
     cases h
     rfl
    ·
     cases h
   ·
    cases h
  ·
   cases h
 case fieldAddr t x fi =>
  split at h
  ·
   rename_i fs n k z ad h1 h2
   split at h
   ·
    rename_i off ft l h3 hl
    simp only [h3, cellsAt_ext hx hl]
    split at h <;> first | (cases h; done) | (cases h; rfl)
   ·
    cases h
  ·
   cases h
 case indexAddr t x i =>
  split at h
  ·
   rename_i k z a j h1 h2 h3
   split at h
   ·
    rename_i n hn
    simp only [lenA_ext hx hn]
    split at h
    ·
     rename_i oo q hb
     cases h
     rfl
    ·
     rename_i hb
     split at h
     ·
      rename_i k' xs
      exact some_cond (x := (_, _)) h e2
     ·
      rename_i oo ep vw
      split at h
      ·
       rename_i k' ep' xs hl
       rcases hx oo _ hl (by intro hc; cases hc) with h4 | ⟨_, _, _, h4, h5⟩
       ·
        rw [h4]; exact some_cond (x := (_, _)) h e2
       ·
        cases h4; rw [h5]; exact some_cond (x := (_, _)) h e2
      ·
       rename_i k' ep' xs hl
       rcases hx oo _ hl (by intro hc; cases hc) with h4 | ⟨_, _, _, h4, _⟩
       ·
        rw [h4]; exact some_cond (x := (_, _)) h e2
       ·
        cases h4
      ·
       cases h
     ·
      cases h
   ·
    cases h
  ·
   rename_i et len n k z oo b j h1 h2 h3
   split at h
   ·
    rename_i te hte
    split at h
    ·
     rename_i xs hl
     rcases hx oo _ hl (by intro hc; cases hc) with h4 | ⟨_, _, _, h4, _⟩
     ·
      rw [h4]; cases h; rfl
     ·
      cases h4
    ·
     cases h
   ·
    cases h
  ·
   cases h
def BoxW (W : List Nat) (e e' : Env) : Prop := ∀ o, lk e'.os o = lk e.os o ∨ (memN W o = true ∧ ∃ xs ys, lk e.os o = some (.box xs) ∧ lk e'.os o = some (.box ys))
theorem BoxW.symm {W : List Nat} {e e' : Env} (h : BoxW W e e') : BoxW W e' e := by
 intro o
 rcases h o with h | ⟨h1, xs, ys, h2, h3⟩
 ·
  exact .inl h.symm
 ·
  exact .inr ⟨h1, ys, xs, h3, h2⟩
theorem BoxW.row {W : List Nat} {e e' : Env} (h : BoxW W e e') {o : Nat} {ob : Ob} (hl : lk e.os o = some ob) (hb : ∀ xs, ob ≠ .box xs) : lk e'.os o = some ob := by
 rcases h o with h | ⟨_, xs, _, h2, _⟩
 ·
  rw [h]; exact hl
 ·
  rw [hl] at h2; cases h2; exact absurd rfl (hb xs)
theorem BoxW.box {W : List Nat} {e e' : Env} (h : BoxW W e e') {o : Nat} {xs : List Atom} (hl : lk e.os o = some (.box xs)) : ∃ ys, lk e'.os o = some (.box ys) := by
 rcases h o with h | ⟨_, _, ys, _, h3⟩
 ·
  exact ⟨xs, by rw [h]; exact hl⟩
 ·
  exact ⟨ys, h3⟩
theorem cellsAt_boxW {W : List Nat} {e e' : Env} (h : BoxW W e e') {a : Atom} {l : List Atom} (hc : e.cellsAt a = some l) : (∃ l', e'.cellsAt a = some l') ∧ ((∀ q i, a = .box q i → memN W q = false) → e'.cellsAt a = some l) := by
 cases a with
 | box o i =>
  simp only [Env.cellsAt] at hc ⊢
  split at hc
  ·
   rename_i xs hl
   refine ⟨?_, fun hb => ?_⟩
   ·
    obtain ⟨ys, hy⟩ := h.box hl
    rw [hy]
    exact ⟨_, rfl⟩
   ·
    rcases h o with h1 | ⟨h1, _⟩
    ·
     rw [h1, hl]; exact hc
    ·
     rw [hb o i rfl] at h1; cases h1
  ·
   cases hc
 | row o ep i c =>
  have : e'.cellsAt (.row o ep i c) = some l := by
   simp only [Env.cellsAt] at hc ⊢
   split at hc
   ·
    rename_i k ep' xs hl
    rw [h.row hl (by intro xs hc; cases hc)]; exact hc
   ·
    rename_i k ep' xs hl
    rw [h.row hl (by intro xs hc; cases hc)]; exact hc
   ·
    cases hc
  exact ⟨⟨l, this⟩, fun _ => this⟩
 | elt k xs i c => exact ⟨⟨l, hc⟩, fun _ => hc⟩
 | ref k x c => exact ⟨⟨l, hc⟩, fun _ => hc⟩
 | _ => simp [Env.cellsAt] at hc
theorem lenA_boxW {W : List Nat} {e e' : Env} (h : BoxW W e e') {a : Atom} {n : Int} (hc : e.lenA a = some n) : e'.lenA a = some n := by
 cases a with
 | sl o ep v =>
  simp only [Env.lenA] at hc ⊢
  split at hc
  ·
   rename_i k ep' xs hl
   rw [h.row hl (by intro xs hc; cases hc)]; exact hc
  ·
   rename_i k ep' xs hl
   rw [h.row hl (by intro xs hc; cases hc)]; exact hc
  ·
   cases hc
 | bsl o q =>
  simp only [Env.lenA] at hc ⊢
  split at hc
  ·
   rename_i xs hl
   obtain ⟨ys, hy⟩ := h.box hl
   rw [hy]; exact hc
  ·
   cases hc
 | d k x => cases k <;> exact hc
 | _ => first | exact hc | simp [Env.lenA] at hc
theorem read_boxW {T : Tys} {W : List Nat} {f : Operand → AV} {o : Oper} (hr : readOp o.op = true) {e e1 e2 : Env} (hx : BoxW W e e2) (hb : ∀ t a, o.op = .load t a → ∀ q i, atom? (f a) = some (.box q i) → memN W q = false) {c : Bool} {v : AV} (h : absOp T f e o = some (c, v, e1)) : absOp T f e2 o = some (c, v, e2) := by
 obtain ⟨dst, op, type, pos, after, guard⟩ := o
 cases op <;> simp only [readOp, Bool.false_eq_true] at hr <;> simp only [absOp, ok1] at h ⊢
 case load t x =>
  split at h
  ·
   rename_i te ad h1 h2
   split at h
   ·
    rename_i l hl
    simp only [(cellsAt_boxW hx hl).2 (fun q i hq => hb t x rfl q i (by rw [h2, hq]))]
    split at h
    ·
     rename_i cp hcp
     cases h
     rfl
    ·
     cases h
   ·
    cases h
  ·
   cases h
 case fieldAddr t x fi =>
  split at h
  ·
   rename_i fs n k z ad h1 h2
   split at h
   ·
    rename_i off ft l h3 hl
    obtain ⟨l', hl'⟩ := (cellsAt_boxW hx hl).1
    simp only [h3, hl']
    split at h <;> first | (cases h; done) | (cases h; rfl)
   ·
    cases h
  ·
   cases h
 case indexAddr t x i =>
  split at h
  ·
   rename_i k z a j h1 h2 h3
   split at h
   ·
    rename_i n hn
    simp only [lenA_boxW hx hn]
    split at h
    ·
     rename_i oo q hb
     cases h
     rfl
    ·
     rename_i hb
     split at h
     ·
      rename_i k' xs
      exact some_cond (x := (_, _)) h e2
     ·
      rename_i oo ep vw
      split at h
      ·
       rename_i k' ep' xs hl
       rw [hx.row hl (by intro xs hc; cases hc)]; exact some_cond (x := (_, _)) h e2
      ·
       rename_i k' ep' xs hl
       rw [hx.row hl (by intro xs hc; cases hc)]; exact some_cond (x := (_, _)) h e2
      ·
       cases h
     ·
      cases h
   ·
    cases h
  ·
   rename_i et len n k z oo b j h1 h2 h3
   split at h
   ·
    rename_i te hte
    split at h
    ·
     rename_i xs hl
     obtain ⟨ys, hy⟩ := hx.box hl
     rw [hy]; cases h; rfl
    ·
     cases h
   ·
    cases h
  ·
   cases h
theorem make_ext {T : Tys} {f : Operand → AV} {o : Oper} (hm : makeOp o.op = true) {e e1 : Env} (hi : IdsOk e) {c : Bool} {v : AV} (h : absOp T f e o = some (c, v, e1)) : Ext e e1 := by
 obtain ⟨dst, op, type, pos, after, guard⟩ := o
 cases op <;> simp only [makeOp, Bool.false_eq_true] at hm
 all_goals simp only [absOp] at h
 case alloc t =>
  split at h
  ·
   cases h
   exact Ext.new hi _
  ·
   cases h
 split at h
 ·
  split at h
  ·
   rename_i ys as hel
   have : e1 = (e.freezeL as).new (.row _ 0 ys) := by
    generalize (Nat.beq (List.length ys) _ && Nat.ble _ 10000 && Nat.ble _ 100) = b at h
    cases b
    ·
     cases h
    ·
     cases h; rfl
   rw [this]
   exact (Ext.freezeL as e).trans (Ext.new (hi.freezeL as) _)
  ·
   cases h
 ·
  cases h
def RE (e e' : Env) (o : Nat) : Prop := lk e'.os o = lk e.os o ∨ ∃ k ep xs, (lk e.os o = some (.row k ep xs) ∧ lk e'.os o = some (.frz k ep xs)) ∨ (lk e.os o = some (.frz k ep xs) ∧ lk e'.os o = some (.row k ep xs))
theorem RE.symm {e e' : Env} {o : Nat} (h : RE e e' o) : RE e' e o := by
 rcases h with h | ⟨k, ep, xs, ⟨h1, h2⟩ | ⟨h1, h2⟩⟩
 ·
  exact .inl h.symm
 ·
  exact .inr ⟨k, ep, xs, .inr ⟨h2, h1⟩⟩
 ·
  exact .inr ⟨k, ep, xs, .inl ⟨h2, h1⟩⟩
theorem RE.box {e e' : Env} {o : Nat} (h : RE e e' o) {xs : List Atom} (hl : lk e.os o = some (.box xs)) : lk e'.os o = some (.box xs) := by
 rcases h with h | ⟨k, ep, ys, ⟨h1, h2⟩ | ⟨h1, h2⟩⟩
 ·
  rw [h]; exact hl
 ·
  rw [hl] at h1; cases h1
 ·
  rw [hl] at h1; cases h1
theorem cellsAt_re {e e' : Env} {a : Atom} (h : ∀ o ∈ idsA a, RE e e' o) : e'.cellsAt a = e.cellsAt a := by
 cases a with
 | box o i =>
  rcases h o (by simp [idsA]) with h | ⟨k, ep, xs, ⟨h1, h2⟩ | ⟨h1, h2⟩⟩
  ·
   simp only [Env.cellsAt, h]
  ·
   simp only [Env.cellsAt, h1, h2]
  ·
   simp only [Env.cellsAt, h1, h2]
 | row o ep i c =>
  rcases h o (by simp [idsA]) with h | ⟨k, ep, xs, ⟨h1, h2⟩ | ⟨h1, h2⟩⟩
  ·
   simp only [Env.cellsAt, h]
  ·
   simp only [Env.cellsAt, h1, h2]
  ·
   simp only [Env.cellsAt, h1, h2]
 | _ => rfl
theorem lenA_re {e e' : Env} {a : Atom} (h : ∀ o ∈ idsA a, RE e e' o) : e'.lenA a = e.lenA a := by
 cases a with
 | sl o ep v =>
  rcases h o (by simp [idsA]) with h | ⟨k, ep, xs, ⟨h1, h2⟩ | ⟨h1, h2⟩⟩
  ·
   simp only [Env.lenA, h]
  ·
   simp only [Env.lenA, h1, h2]
  ·
   simp only [Env.lenA, h1, h2]
 | bsl o n =>
  rcases h o (by simp [idsA]) with h | ⟨k, ep, xs, ⟨h1, h2⟩ | ⟨h1, h2⟩⟩
  ·
   simp only [Env.lenA, h]
  ·
   simp only [Env.lenA, h1, h2]
  ·
   simp only [Env.lenA, h1, h2]
 | d k x => cases k <;> rfl
 | _ => rfl
def readAddr : Op → Option Operand
 | .load _ a => some a
 | .fieldAddr _ a _ => some a
 | .indexAddr _ a _ => some a
 | _ => none
theorem read_re {T : Tys} {f : Operand → AV} {o : Oper} (hr : readOp o.op = true) {e e1 e2 : Env} (hx : ∀ a, readAddr o.op = some a → ∀ x, atom? (f a) = some x → ∀ q ∈ idsA x, RE e e2 q) {c : Bool} {v : AV} (h : absOp T f e o = some (c, v, e1)) : absOp T f e2 o = some (c, v, e2) := by
 obtain ⟨dst, op, type, pos, after, guard⟩ := o
 cases op <;> simp only [readOp, Bool.false_eq_true] at hr <;> simp only [absOp, ok1] at h ⊢
 case load t x =>
  split at h
  ·
   rename_i te ad h1 h2
   rw [cellsAt_re (hx x rfl ad h2)]
   split at h
   ·
    rename_i l hl
    try simp only [hl]
    split at h
    ·
     rename_i cp hcp
     cases h
     rfl
    ·
     cases h
   ·
    cases h
  ·
   cases h
 case fieldAddr t x fi =>
  split at h
  ·
   rename_i fs n k z ad h1 h2
   rw [cellsAt_re (hx x rfl ad h2)]
   split at h
   ·
    rename_i off ft l h3 hl
    try simp only [h3, hl]
    split at h <;> first | (cases h; done) | (cases h; rfl)
   ·
    cases h
  ·
   cases h
 case indexAddr t x i =>
  split at h
  ·
   rename_i k z a j h1 h2 h3
   rw [lenA_re (hx x rfl a h2)]
   split at h
   ·
    rename_i n hn
    try simp only [hn]
    split at h
    ·
     rename_i oo q hb
     cases h
     rfl
    ·
     rename_i hb
     split at h
     ·
      rename_i k' xs
      exact some_cond (x := (_, _)) h e2
     ·
      rename_i oo ep vw
      have hre := hx x rfl _ h2 oo (by simp [idsA])
      split at h
      ·
       rename_i k' ep' xs hl
       rcases hre with h4 | ⟨_, _, _, ⟨h4, h5⟩ | ⟨h4, h5⟩⟩
       ·
        rw [h4, hl]; exact some_cond (x := (_, _)) h e2
       ·
        rw [hl] at h4; cases h4; rw [h5]; exact some_cond (x := (_, _)) h e2
       ·
        rw [hl] at h4; cases h4
      ·
       rename_i k' ep' xs hl
       rcases hre with h4 | ⟨_, _, _, ⟨h4, h5⟩ | ⟨h4, h5⟩⟩
       ·
        rw [h4, hl]; exact some_cond (x := (_, _)) h e2
       ·
        rw [hl] at h4; cases h4
       ·
        rw [hl] at h4; cases h4; rw [h5]; exact some_cond (x := (_, _)) h e2
      ·
       cases h
     ·
      cases h
   ·
    cases h
  ·
   rename_i et len n k z oo b j h1 h2 h3
   have hre := hx x rfl _ h2 oo (by simp [idsA])
   split at h
   ·
    rename_i te hte
    split at h
    ·
     rename_i xs hl
     rw [hre.box hl]; cases h; rfl
    ·
     cases h
   ·
    cases h
  ·
   cases h
theorem freeze_re (e : Env) (a : Atom) : ∀ o, lk (e.freeze a).os o = lk e.os o ∨ ∃ k ep xs, lk e.os o = some (.row k ep xs) ∧ lk (e.freeze a).os o = some (.frz k ep xs) := by
 intro o
 cases a with
 | sl i ep v =>
  simp only [Env.freeze]
  split
  ·
   rename_i k ep' xs hl
   by_cases h : i = o
   ·
    subst h
    exact .inr ⟨k, ep', xs, hl, lk_up_same hl⟩
   ·
    exact .inl (lk_up_ne h)
  ·
   exact .inl rfl
 | _ => exact .inl rfl
theorem freezeL_re : ∀ (l : List Atom) (e : Env) (o : Nat), lk (e.freezeL l).os o = lk e.os o ∨ ∃ k ep xs, lk e.os o = some (.row k ep xs) ∧ lk (e.freezeL l).os o = some (.frz k ep xs)
 | [], e, o => .inl rfl
 | a :: l, e, o => by
  show lk ((e.freeze a).freezeL l).os o = _ ∨ ∃ k ep xs, _ ∧ lk ((e.freeze a).freezeL l).os o = _
  rcases freezeL_re l (e.freeze a) o with h | ⟨k, ep, xs, h1, h2⟩
  ·
   rw [h]; exact freeze_re e a o
  ·
   rcases freeze_re e a o with h3 | ⟨k', ep', xs', h3, h4⟩
   ·
    exact .inr ⟨k, ep, xs, by rw [← h3]; exact h1, h2⟩
   ·
    rw [h4] at h1; cases h1
theorem freezeL_nx : ∀ (l : List Atom) (e : Env), (e.freezeL l).nx = e.nx
 | [], _ => rfl
 | a :: l, e => (freezeL_nx l (e.freeze a)).trans (freeze_nx e a)
theorem imp_lk : ∀ (rs : List Rs) (e : Env) (o : Nat), o < e.nx → lk (e.imp rs).2.os o = lk e.os o
 | [], e, o, _ => rfl
 | .dat k x :: l, e, o, h => imp_lk l e o h
 | .own k xs :: l, e, o, h => by
  show lk ((e.new (.row k 0 xs)).imp l).2.os o = _
  rw [imp_lk l _ o (Nat.lt_succ_of_lt h)]
  exact lk_cons_ne _ _ (by omega)
theorem imp_nx : ∀ (rs : List Rs) (e : Env), e.nx ≤ (e.imp rs).2.nx
 | [], e => Nat.le_refl _
 | .dat k x :: l, e => imp_nx l e
 | .own k xs :: l, e => Nat.le_trans (Nat.le_succ _) (imp_nx l (e.new (.row k 0 xs)))
theorem impE_nx (e : Env) (args : List Cp) (rs : List Rs) : e.nx ≤ (e.impE args rs).2.nx := by
 unfold Env.impE
 cases rs.all Rs.safe
 ·
  simp only [cond_false]
  exact Nat.le_trans (Nat.le_of_eq (freezeL_nx _ _).symm) (imp_nx rs _)
 ·
  exact imp_nx rs e
theorem impE_re (e : Env) (args : List Cp) (rs : List Rs) (o : Nat) (h : o < e.nx) : lk (e.impE args rs).2.os o = lk e.os o ∨ ∃ k ep xs, lk e.os o = some (.row k ep xs) ∧ lk (e.impE args rs).2.os o = some (.frz k ep xs) := by
 unfold Env.impE
 cases rs.all Rs.safe
 ·
  simp only [cond_false]
  rw [imp_lk rs _ o (by rw [freezeL_nx]; exact h)]
  exact freezeL_re _ e o
 ·
  simp only [cond_true]
  exact .inl (imp_lk rs e o h)
theorem impE_ext {e : Env} (hi : IdsOk e) (args : List Cp) (rs : List Rs) : Ext e (e.impE args rs).2 := by
 intro o ob ho _
 rcases impE_re e args rs o (hi o ob ho) with h | ⟨k, ep, xs, h1, h2⟩
 ·
  exact .inl (h.trans ho)
 ·
  rw [ho] at h1
  cases h1
  exact .inr ⟨k, ep, xs, rfl, h2⟩
theorem up_comm {α : Type _} : ∀ (l : List (Nat × α)) {a b : Nat} (x y : α), a ≠ b → up (up l a x) b y = up (up l b y) a x
 | [], _, _, _, _, _ => rfl
 | (k, v) :: l, a, b, x, y, h => by
  cases h1 : Nat.beq k a
  ·
   cases h2 : Nat.beq k b
   ·
    simp only [up, h1, h2, cond_false, up_comm l x y h]
   ·
    simp only [up, h1, h2, cond_false, cond_true]
  ·
   cases h2 : Nat.beq k b
   ·
    simp only [up, h1, h2, cond_false, cond_true]
   ·
    exact absurd ((Nat.eq_of_beq_eq_true h1).symm.trans (Nat.eq_of_beq_eq_true h2)) h
def Env.reb (e : Env) (o : Nat) (ys : List Atom) : Env := { e with os := up e.os o (.box ys) }
section
variable {e : Env} {o : Nat} {xs ys : List Atom}
theorem reb_lk (hl : lk e.os o = some (.box xs)) {i : Nat} (h : i ≠ o) : lk (e.reb o ys).os i = lk e.os i := lk_up_ne (Ne.symm h)
theorem reb_freeze (hl : lk e.os o = some (.box xs)) (a : Atom) : (e.reb o ys).freeze a = (e.freeze a).reb o ys ∧ lk (e.freeze a).os o = some (.box xs) := by
 cases a with
 | sl i ep v =>
  by_cases h : i = o
  ·
   subst h
   have h1 : lk (e.reb i ys).os i = some (.box ys) := lk_up_same hl
   simp only [Env.freeze, h1, hl]
   exact ⟨trivial, trivial⟩
  ·
   have h1 : lk (e.reb o ys).os i = lk e.os i := reb_lk hl h
   simp only [Env.freeze, h1]
   split
   ·
    rename_i k ep' zs hz
    refine ⟨?_, by show lk (up e.os i _) o = _; rw [lk_up_ne h]; exact hl⟩
    simp only [Env.reb]
    rw [up_comm _ _ _ (Ne.symm h)]
   ·
    exact ⟨rfl, hl⟩
 | _ => exact ⟨rfl, hl⟩
theorem reb_freezeL : ∀ (l : List Atom) {e : Env}, lk e.os o = some (.box xs) → (e.reb o ys).freezeL l = (e.freezeL l).reb o ys ∧ lk (e.freezeL l).os o = some (.box xs)
 | [], e, hl => ⟨rfl, hl⟩
 | a :: l, e, hl => by
  obtain ⟨h1, h2⟩ := reb_freeze (ys := ys) hl a
  show ((e.reb o ys).freeze a).freezeL l = ((e.freeze a).freezeL l).reb o ys ∧ _
  rw [h1]
  exact reb_freezeL l h2
theorem reb_imp : ∀ (rs : List Rs) {e : Env}, o < e.nx → (e.reb o ys).imp rs = ((e.imp rs).1, (e.imp rs).2.reb o ys)
 | [], e, h => rfl
 | .dat k x :: l, e, h => by
  simp only [Env.imp, reb_imp l h]
 | .own k zs :: l, e, h => by
  have hne : Nat.beq e.nx o = false := by
   cases hb : Nat.beq e.nx o
   ·
    rfl
   ·
    have := Nat.eq_of_beq_eq_true hb; omega
  have : (e.reb o ys).new (.row k 0 zs) = (e.new (.row k 0 zs)).reb o ys := by
   simp only [Env.new, Env.reb, up, hne, cond_false]
  simp only [Env.imp, this, reb_imp l (e := e.new (.row k 0 zs)) (Nat.lt_succ_of_lt h)]
  rfl
theorem reb_peek (hl : lk e.os o = some (.box xs)) (k : K) (a : Atom) : (e.reb o ys).peek k a = e.peek k a := by
 cases a with
 | sl i ep v =>
  by_cases h : i = o
  ·
   subst h
   have h1 : lk (e.reb i ys).os i = some (.box ys) := lk_up_same hl
   simp only [Env.peek, h1, hl]
  ·
   simp only [Env.peek, reb_lk (ys := ys) hl h]
 | _ => rfl
theorem reb_ofAtoms (hl : lk e.os o = some (.box xs)) : ∀ (k : K) (l : List Atom), (e.reb o ys).ofAtoms k l = e.ofAtoms k l
 | .pr a b, l => by
  simp only [Env.ofAtoms]
  rw [reb_ofAtoms hl a l]
  split
  ·
   rfl
  ·
   rw [reb_ofAtoms hl b]
 | .st k, l => by simp only [Env.ofAtoms]; exact reb_ofAtoms hl k l
 | .int k, [] => rfl
 | .bool, [] => rfl
 | .str, [] => rfl
 | .sl _, [] => rfl
 | .ref _, [] => rfl
 | .ref _, _ :: _ => rfl
 | .int k, a :: l => by simp only [Env.ofAtoms, reb_peek hl]
 | .bool, a :: l => by simp only [Env.ofAtoms, reb_peek hl]
 | .str, a :: l => by simp only [Env.ofAtoms, reb_peek hl]
 | .sl _, a :: l => by simp only [Env.ofAtoms, reb_peek hl]
theorem reb_dat (hl : lk e.os o = some (.box xs)) (k : K) (l : List Atom) : (e.reb o ys).dat k l = e.dat k l := by
 simp only [Env.dat, reb_ofAtoms hl]
theorem reb_argDat (hl : lk e.os o = some (.box xs)) (k : K) {c : Cp} (hc : ∀ q, c = .a (.box q 0) → q ≠ o) : (e.reb o ys).argDat k c = e.argDat k c := by
 cases k with
 | ref k =>
  simp only [Env.argDat]
  unfold Env.refDat
  split
  ·
   rename_i q
   rw [reb_lk (ys := ys) hl (hc q rfl)]
   split
   ·
    exact reb_dat hl k _
   ·
    rfl
  ·
   rfl
  ·
   rfl
 | _ => simp only [Env.argDat, reb_dat hl]
theorem reb_dats (hl : lk e.os o = some (.box xs)) : ∀ (ks : List K) {cs : List Cp}, (∀ c ∈ cs, ∀ q, c = .a (.box q 0) → q ≠ o) → dats (e.reb o ys) ks cs = dats e ks cs
 | [], [], _ => rfl
 | [], _ :: _, _ => rfl
 | _ :: _, [], _ => rfl
 | k :: ks, c :: cs, h => by
  simp only [dats]
  rw [reb_argDat hl k (h c (by simp)), reb_dats hl ks (fun c' hc' => h c' (by simp [hc']))]
theorem reb_argL (hl : lk e.os o = some (.box xs)) : ∀ {cs : List Cp}, (∀ c ∈ cs, ∀ q, c = .a (.box q 0) → q ≠ o) → (e.reb o ys).argL cs = e.argL cs
 | [], _ => rfl
 | c :: cs, h => by
  simp only [Env.argL]
  rw [reb_argL hl (fun c' hc' => h c' (by simp [hc']))]
  congr 2
  unfold Env.capL
  split
  ·
   rename_i q
   unfold Env.inBox
   rw [reb_lk (ys := ys) hl (h _ (by simp) q rfl)]
  ·
   rfl
theorem reb_impE (hl : lk e.os o = some (.box xs)) (hlt : o < e.nx) {args : List Cp} (rs : List Rs) (h : ∀ c ∈ args, ∀ q, c = .a (.box q 0) → q ≠ o) : (e.reb o ys).impE args rs = ((e.impE args rs).1, (e.impE args rs).2.reb o ys) := by
 unfold Env.impE
 rw [reb_argL hl h]
 cases rs.all Rs.safe
 ·
  simp only [cond_false]
  rw [(reb_freezeL (ys := ys) (e.argL args) hl).1]
  exact reb_imp rs (by rw [freezeL_nx]; exact hlt)
 ·
  exact reb_imp rs hlt
end
theorem alc_ext {e : Env} {n : Nat} {xs : List Atom} (h : lk e.os n = some .unb) : Ext e { e with os := up e.os n (.box xs) } := by
 intro o ob ho hu
 by_cases hq : n = o
 ·
  subst hq
  rw [h] at ho
  cases ho
  exact absurd rfl hu
 ·
  exact .inl (by show lk (up e.os n _) o = _; rw [lk_up_ne hq]; exact ho)
theorem idx_inj : ∀ {l : List Nat} {a b k : Nat}, idx l a = some k → idx l b = some k → a = b
 | [], _, _, _, h, _ => by cases h
 | x :: l, a, b, k, h, h' => by
  simp only [idx] at h h'
  cases h1 : Nat.beq x a
  ·
   cases h2 : Nat.beq x b
   ·
    rw [h1] at h
    rw [h2] at h'
    simp only [cond_false] at h h'
    split at h
    ·
     rename_i i hi
     cases h
     split at h'
     ·
      rename_i i' hi'
      simp only [Option.some.injEq] at h'
      exact idx_inj hi (by rw [hi']; congr 1; omega)
     ·
      cases h'
    ·
     cases h
   ·
    rw [h1] at h
    rw [h2] at h'
    simp only [cond_false, cond_true, Option.some.injEq] at h h'
    subst h'
    split at h
    ·
     cases h
    ·
     cases h
  ·
   cases h2 : Nat.beq x b
   ·
    rw [h1] at h
    rw [h2] at h'
    simp only [cond_false, cond_true, Option.some.injEq] at h h'
    subst h
    split at h'
    ·
     cases h'
    ·
     cases h'
   ·
    exact (Nat.eq_of_beq_eq_true h1).symm.trans (Nat.eq_of_beq_eq_true h2)
end Go.VI
namespace Go.VI
open Go Go.RowKit
set_option linter.unusedVariables false
set_option linter.unusedSimpArgs false
structure EqE (e e' : Env) : Prop where
 os : e.os = e'.os
 nx : e.nx = e'.nx
 tm : ∀ t, e.tm.get t = e'.tm.get t
theorem EqE.refl (e : Env) : EqE e e := ⟨rfl, rfl, fun _ => rfl⟩
theorem EqE.symm {e e' : Env} (h : EqE e e') : EqE e' e := ⟨h.os.symm, h.nx.symm, fun t => (h.tm t).symm⟩
theorem EqE.trans {a b c : Env} (h : EqE a b) (h' : EqE b c) : EqE a c := ⟨h.os.trans h'.os, h.nx.trans h'.nx, fun t => (h.tm t).trans (h'.tm t)⟩
theorem EqE.ev {e e' : Env} (h : EqE e e') : e.ev = e'.ev := by
 funext x
 cases x <;> first | rfl | exact h.tm _
theorem EqE.bare {e e' : Env} (h : EqE e e') : e.bare = e'.bare := by
 unfold Env.bare
 rw [h.os, h.nx]
def putE (e : Env) (d : Option Nat) (v : AV) : Env := match d with
 | some t => { e with tm := e.tm.set t v }
 | none => e
def dstOk (N : Nat) (d : Option Nat) : Prop := ∀ t, d = some t → t < N ∧ N ≤ 2000
theorem setK_put {α : Type} {N : Nat} {e : Env} {d : Option Nat} {v : AV} {k : Env → Option α} {r : α} (h : e.setK N d v k = some r) : dstOk N d ∧ k (putE e d v) = some r := by
 cases d with
 | none => exact ⟨fun t ht => (by cases ht), h⟩
 | some t =>
  simp only [Env.setK] at h
  cases hb : (Nat.blt t N && Nat.ble N 2000)
  ·
   rw [hb] at h; cases h
  ·
   rw [hb] at h
   simp only [Bool.and_eq_true] at hb
   refine ⟨fun t' ht => ?_, h⟩
   cases ht
   exact ⟨by simpa [Nat.blt_eq] using hb.1, Nat.le_of_ble_eq_true hb.2⟩
theorem putE_get {N : Nat} {e : Env} {d : Option Nat} {v : AV} (hd : dstOk N d) (t : Nat) : (putE e d v).tm.get t = if d = some t then v else e.tm.get t := by
 cases d with
 | none => rfl
 | some d =>
  simp only [putE, Option.some.injEq]
  by_cases e1 : d = t
  ·
   subst e1
   rw [if_pos rfl]
   have := hd d rfl
   exact Tr.get_set_same _ _ (by omega)
  ·
   rw [if_neg e1]
   exact Tr.get_set_ne _ _ e1
theorem putE_os (e : Env) (d : Option Nat) (v : AV) : (putE e d v).os = e.os ∧ (putE e d v).nx = e.nx := by cases d <;> exact ⟨rfl, rfl⟩
inductive Do1 (P : Program) (T : Tys) (q : CM) (R : Option RR) (o : Oper) (e : Env) : AV → Env → Prop
 | plain {v e1} : (∀ c f, o.op = .call c → c.callee ≠ .value f) → (R.isSome = true → allocOp o.op = false) → absOp T e.ev e.bare o = some (true, v, e1) → Do1 P T q R o e v e1
 | alc {t te d rr k} : R = some rr → o.op = .alloc t → o.dst = some d → lk T t = some te → idx rr.ds d = some k → lk e.bare.os (rr.n + k) = some .unb → Do1 P T q R o e (.at (.box (rr.n + k) 0)) { e.bare with os := up e.bare.os (rr.n + k) (.box te.z) }
 | next {b x y v e1} : nextA e.ev e.bare o = some (b, x, y) → v = cond b x.1 y.1 → e1 = cond b x.2 y.2 → Do1 P T q R o e v e1
 | call {c f fn caps cs ks ds rs} : o.op = .call c → c.callee = .value f → e.ev f = .c (.a (.fn fn caps)) → cps? (c.args.toList.map e.ev) = some cs → fnB P fn = true →
   dats e.bare ks (cs ++ caps.map fun o => .a (.box o 0)) = some ds → CallsTo P fn ds rs → rs.all Rs.quiet = true → Do1 P T q R o e (avOf (rs.map Rs.cp)) e.bare
 | con {c f fn caps cs ks ds rs v e1} : (q = .con ∨ q = .dyn) → o.op = .call c → c.callee = .value f → e.ev f = .c (.a (.fn fn caps)) → cps? (c.args.toList.map e.ev) = some cs → fnB P fn = true →
   dats e.bare ks (cs ++ caps.map fun o => .a (.box o 0)) = some ds → CallsTo P fn ds rs → v = avOf (e.bare.impE (cs ++ caps.map fun o => .a (.box o 0)) rs).1 → e1 = (e.bare.impE (cs ++ caps.map fun o => .a (.box o 0)) rs).2 → Do1 P T q R o e v e1
 | dyn {c f fn caps cs rs e1} : q = .dyn → o.op = .call c → c.callee = .value f → e.ev f = .c (.a (.fn fn caps)) → cps? (c.args.toList.map e.ev) = some cs →
   CallD P fn (cs ++ caps.map fun o => .a (.box o 0)) e.bare rs e1 → rdChk T R e.bare e1 = true → Do1 P T q R o e (avOf rs) e1
 | inl {c f fn caps cs rs e1} : q = .any → o.op = .call c → c.callee = .value f → e.ev f = .c (.a (.fn fn caps)) → cps? (c.args.toList.map e.ev) = some cs →
   CallD P fn (cs ++ caps.map fun o => .a (.box o 0)) e.bare rs e1 → Do1 P T q R o e (avOf rs) e1
inductive Val (P : Program) (T : Tys) (q : CM) (R : Option RR) (W : Option WH) (ops : Array Oper) (o : Oper) (e : Env) : AV → Env → Prop
 | plain {v f} : o.guard = none → chkWR W R e o = true → Do1 P T q R o e v f → Val P T q R W ops o e v f
 | yes {j t b v f} : o.guard = some (j, b) → (ops[j]?).bind (·.dst) = some t → e.tm.get t = .c (.a (.d .bool b)) → chkWR W R e o = true → Do1 P T q R o e v f → Val P T q R W ops o e v f
 | no {j t b want} : o.guard = some (j, want) → (ops[j]?).bind (·.dst) = some t → e.tm.get t = .c (.a (.d .bool b)) → b ≠ want → Val P T q R W ops o e (.t []) e.bare
 | undef {j t l want} : o.guard = some (j, want) → (ops[j]?).bind (·.dst) = some t → e.tm.get t = .t l → Val P T q R W ops o e (.t []) e.bare
def Step1 (P : Program) (T : Tys) (q : CM) (R : Option RR) (W : Option WH) (N : Nat) (ops : Array Oper) (o : Oper) (e e2 : Env) : Prop := ∃ v f, Val P T q R W ops o e v f ∧ dstOk N o.dst ∧ EqE e2 (putE (e.back f) o.dst v)
inductive RunL (P : Program) (T : Tys) (q : CM) (R : Option RR) (W : Option WH) (N : Nat) (ops : Array Oper) : List Oper → Env → Env → Prop
 | nil {e e'} : EqE e e' → RunL P T q R W N ops [] e e'
 | cons {o l e e1 e2} : Step1 P T q R W N ops o e e1 → RunL P T q R W N ops l e1 e2 → RunL P T q R W N ops (o :: l) e e2
section
variable {P : Program} {T : Tys} {q : CM} {R : Option RR} {W : Option WH} {N : Nat} {ops : Array Oper}
theorem chkL_congr {n : Option Nat} {ws : List Nat} {e e' : Env} {o : Oper} (h : ∀ x ∈ o.op.operands, e'.ev x = e.ev x) : chkL n ws e' o = chkL n ws e o := by
 unfold chkL
 cases n with
 | none => rfl
 | some n =>
  simp only
  split
  ·
   rename_i a hop
   rw [h _ (by rw [hop]; simp [Op.operands])]
  ·
   rename_i a hop
   rw [h _ (by rw [hop]; simp [Op.operands])]
  ·
   rename_i a hop
   rw [h _ (by rw [hop]; simp [Op.operands])]
  ·
   rename_i a hop
   rw [h _ (by rw [hop]; simp [Op.operands])]
  ·
   rename_i c hop
   split
   ·
    rename_i f hc
    rw [h f (by rw [hop]; simp [Op.operands, Call.operands, hc])]
    rw [show c.args.toList.map e'.ev = c.args.toList.map e.ev from List.map_congr_left fun x hx => h x (by rw [hop]; simp [Op.operands, Call.operands]; exact .inr (by simpa using hx))]
   ·
    rfl
  ·
   rfl
theorem chkW_congr {W : Option WH} {e e' : Env} {o : Oper} (h : ∀ x ∈ o.op.operands, e'.ev x = e.ev x) : chkW W e' o = chkW W e o := by
 unfold chkW
 cases W with
 | none => rfl
 | some W =>
  simp only [chkL_congr h]
  congr 1
  split
  ·
   rename_i a b hop
   rw [h _ (by rw [hop]; simp [Op.operands])]
  ·
   rename_i a hop
   rw [h _ (by rw [hop]; simp [Op.operands])]
  ·
   rfl
theorem chkW_two {W0 : WH} {e : Env} {o : Oper} (h : chkW (some W0) e o = true) : (match o.op with
  | .store _ a _ => (match boxOf (e.ev a) with | some q => memN W0.ws q | none => false)
  | .load _ a => (match boxOf (e.ev a) with | some q => !W0.lw || !memN W0.ws q | none => true)
  | _ => true) = true ∧ chkL W0.n W0.ws e o = true := by
 unfold chkW at h
 simp only [Bool.and_eq_true] at h
 exact h
theorem chkD_congr {R : Option RR} {e e' : Env} {o : Oper} (h : ∀ x ∈ o.op.operands, e'.ev x = e.ev x) : chkD R e' o = chkD R e o := by
 unfold chkD
 cases R with
 | none => rfl
 | some r =>
  simp only
  congr 1
  split
  ·
   rename_i k a hk
   have : a ∈ o.op.operands := by
    generalize o.op = op at hk
    cases op <;> simp only [rkOp, Option.some.injEq, Prod.mk.injEq, reduceCtorEq] at hk <;> (obtain ⟨_, rfl⟩ := hk; simp [Op.operands])
   rw [h a this]
  ·
   rfl
theorem chkWR_congr {W : Option WH} {R : Option RR} {e e' : Env} {o : Oper} (h : ∀ x ∈ o.op.operands, e'.ev x = e.ev x) : chkWR W R e' o = chkWR W R e o := by
 unfold chkWR
 rw [chkW_congr h, chkD_congr h]
theorem chkWR_w {W : Option WH} {R : Option RR} {e : Env} {o : Oper} (h : chkWR W R e o = true) : chkW W e o = true := by
 unfold chkWR at h
 simp only [Bool.and_eq_true] at h
 exact h.1
theorem chkWR_d {W : Option WH} {R : Option RR} {e : Env} {o : Oper} (h : chkWR W R e o = true) : chkD R e o = true := by
 unfold chkWR at h
 simp only [Bool.and_eq_true] at h
 exact h.2
theorem Do1.eq {o : Oper} {e e' : Env} (h : EqE e e') {v : AV} {f : Env} (hd : Do1 P T q R o e v f) : Do1 P T q R o e' v f := by
 cases hd with
 | plain h1 hp h2 => exact .plain h1 hp (by rw [← h.ev, ← h.bare]; exact h2)
 | alc h1 h2 h3 h4 h5 h6 => rw [h.bare]; exact .alc h1 h2 h3 h4 h5 (by rw [← h.bare]; exact h6)
 | next h1 h2 h3 => exact .next (by rw [← h.ev, ← h.bare]; exact h1) h2 h3
 | call h1 h2 h3 h4 h5 h6 h7 h8 =>
  rw [h.bare]
  exact .call h1 h2 (by rw [← h.ev]; exact h3) (by rw [← h.ev]; exact h4) h5 (by rw [← h.bare]; exact h6) h7 h8
 | con h0 h1 h2 h3 h4 h5 h6 h7 h8 h9 =>
  exact .con h0 h1 h2 (by rw [← h.ev]; exact h3) (by rw [← h.ev]; exact h4) h5 (by rw [← h.bare]; exact h6) h7 (by rw [← h.bare]; exact h8) (by rw [← h.bare]; exact h9)
 | inl h0 h1 h2 h3 h4 h5 => exact .inl h0 h1 h2 (by rw [← h.ev]; exact h3) (by rw [← h.ev]; exact h4) (by rw [← h.bare]; exact h5)
 | dyn h0 h1 h2 h3 h4 h5 h6 => exact .dyn h0 h1 h2 (by rw [← h.ev]; exact h3) (by rw [← h.ev]; exact h4) (by rw [← h.bare]; exact h5) (by rw [← h.bare]; exact h6)
theorem Val.eq {o : Oper} {e e' : Env} (h : EqE e e') {v : AV} {f : Env} (hd : Val P T q R W ops o e v f) : Val P T q R W ops o e' v f := by
 cases hd with
 | plain h1 hc h2 => exact .plain h1 ((chkWR_congr fun x _ => by rw [h.ev]).trans hc) (h2.eq h)
 | yes h1 h2 h3 hc h4 => exact .yes h1 h2 (by rw [← h.tm]; exact h3) ((chkWR_congr fun x _ => by rw [h.ev]).trans hc) (h4.eq h)
 | no h1 h2 h3 h4 => rw [h.bare]; exact .no h1 h2 (by rw [← h.tm]; exact h3) h4
 | undef h1 h2 h3 => rw [h.bare]; exact .undef h1 h2 (by rw [← h.tm]; exact h3)
theorem back_eq {e e' : Env} (h : EqE e e') (f : Env) (d : Option Nat) (v : AV) (hd : dstOk N d) : EqE (putE (e.back f) d v) (putE (e'.back f) d v) := by
 refine ⟨?_, ?_, fun t => ?_⟩
 ·
  rw [(putE_os _ _ _).1, (putE_os _ _ _).1]; rfl
 ·
  rw [(putE_os _ _ _).2, (putE_os _ _ _).2]; rfl
 ·
  rw [putE_get hd, putE_get hd]
  split
  ·
   rfl
  ·
   exact h.tm t
theorem Step1.eq {o : Oper} {e e' e2 : Env} (h : EqE e e') (hs : Step1 P T q R W N ops o e e2) : Step1 P T q R W N ops o e' e2 := by
 obtain ⟨v, f, h1, h2, h3⟩ := hs
 exact ⟨v, f, h1.eq h, h2, h3.trans (back_eq h f _ _ h2)⟩
theorem RunL.eq : ∀ {l : List Oper} {e e' ef : Env}, EqE e e' → RunL P T q R W N ops l e ef → RunL P T q R W N ops l e' ef
 | _, _, _, _, h, .nil h1 => .nil (h.symm.trans h1)
 | _, _, _, _, h, .cons h1 h2 => .cons (h1.eq h) h2
theorem nwQ_nw {q : CM} {o : Op} (h : nwQ q o = false) : nwOp o = false := by
 simp only [nwQ, Bool.or_eq_false_iff] at h
 exact h.1
theorem Do1.loc {o : Oper} {e e' : Env} {v : AV} {f : Env} (hd : Do1 P T q R o e v f) (ht : ∀ t ∈ o.looksAt ops, e'.tm.get t = e.tm.get t) :
  (e'.bare = e.bare → Do1 P T q R o e' v f) ∧ (pureOp T o.op = true → f = e.bare ∧ Do1 P T q R o e' v e'.bare) ∧ (nwQ q o.op = false → f = e.bare) := by
 have hev : ∀ x ∈ o.op.operands, e'.ev x = e.ev x := by
  intro x hx
  cases x with
  | tmp t => exact ht t (List.mem_append_left _ (List.mem_filterMap.2 ⟨.tmp t, by simpa using hx, rfl⟩))
  | _ => rfl
 cases hd with
 | @alc t te d rr k h1 h2 h3 h4 h5 h6 =>
  refine ⟨fun hb => ?_, fun hp => ?_, fun hn => ?_⟩
  ·
   rw [← hb]
   exact .alc h1 h2 h3 h4 h5 (by rw [hb]; exact h6)
  ·
   rw [h2] at hp; cases hp
  ·
   have := nwQ_nw hn
   rw [h2] at this
   cases this
 | plain h1 hpl h2 =>
  have e1 : absOp T e'.ev e.bare o = absOp T e.ev e.bare o := absOp_congr hev
  refine ⟨fun hb => .plain h1 hpl (by rw [hb, e1]; exact h2), fun hp => ?_, fun hn => quiet_same (nwQ_nw hn) h2⟩
  have hpa := pure_any hp h2
  refine ⟨hpa.1, .plain h1 hpl ?_⟩
  have : absOp T e'.ev e'.bare o = absOp T e.ev e'.bare o := absOp_congr hev
  rw [this]
  exact hpa.2 _
 | @next b x y v' f' h1 h2 h3 =>
  obtain ⟨n1, n2, _⟩ := nextA_nw (T := T) h1
  refine ⟨fun hb => .next ?_ h2 h3, fun hp => ?_, fun hn => ?_⟩
  ·
   rw [hb, nextA_congr hev]
   exact h1
  ·
   rw [n2] at hp; cases hp
  ·
   rw [nwQ_nw hn] at n1; cases n1
 | @call c f' fn caps cs ks ds rs h1 h2 h3 h4 h5 h6 h7 h8 =>
  have hf : e'.ev f' = e.ev f' := hev f' (by rw [h1]; simp [Op.operands, Call.operands, h2])
  have hargs : c.args.toList.map e'.ev = c.args.toList.map e.ev := List.map_congr_left fun x hx => hev x (by rw [h1]; simp [Op.operands, Call.operands]; exact .inr (by simpa using hx))
  refine ⟨fun hb => ?_, fun hp => ?_, fun _ => rfl⟩
  ·
   rw [← hb]
   exact .call h1 h2 (by rw [hf]; exact h3) (by rw [hargs]; exact h4) h5 (by rw [hb]; exact h6) h7 h8
  ·
   rw [h1] at hp
   simp [pureOp] at hp
 | @con c f' fn caps cs ks ds rs v' f1 h0 h1 h2 h3 h4 h5 h6 h7 h8 h9 =>
  have hf : e'.ev f' = e.ev f' := hev f' (by rw [h1]; simp [Op.operands, Call.operands, h2])
  have hargs : c.args.toList.map e'.ev = c.args.toList.map e.ev := List.map_congr_left fun x hx => hev x (by rw [h1]; simp [Op.operands, Call.operands]; exact .inr (by simpa using hx))
  refine ⟨fun hb => .con h0 h1 h2 (by rw [hf]; exact h3) (by rw [hargs]; exact h4) h5 (by rw [hb]; exact h6) h7 (by rw [hb]; exact h8) (by rw [hb]; exact h9), fun hp => ?_, fun hn => ?_⟩
  ·
   rw [h1] at hp
   simp [pureOp] at hp
  ·
   obtain ⟨⟩ := c
   simp only at h2
   subst h2
   rw [h1] at hn
   rcases h0 with rfl | rfl <;> simp [nwQ, CM.nw, callV] at hn
 | @dyn c f' fn caps cs rs e1 h0 h1 h2 h3 h4 h5 h6 =>
  have hf : e'.ev f' = e.ev f' := hev f' (by rw [h1]; simp [Op.operands, Call.operands, h2])
  have hargs : c.args.toList.map e'.ev = c.args.toList.map e.ev := List.map_congr_left fun x hx => hev x (by rw [h1]; simp [Op.operands, Call.operands]; exact .inr (by simpa using hx))
  refine ⟨fun hb => .dyn h0 h1 h2 (by rw [hf]; exact h3) (by rw [hargs]; exact h4) (by rw [hb]; exact h5) (by rw [hb]; exact h6), fun hp => ?_, fun hn => ?_⟩
  ·
   rw [h1] at hp
   simp [pureOp] at hp
  ·
   subst h0
   obtain ⟨⟩ := c
   simp only at h2
   subst h2
   rw [h1] at hn
   simp [nwQ, CM.nw, callV] at hn
 | @inl c f' fn caps cs rs e1 h0 h1 h2 h3 h4 h5 =>
  have hf : e'.ev f' = e.ev f' := hev f' (by rw [h1]; simp [Op.operands, Call.operands, h2])
  have hargs : c.args.toList.map e'.ev = c.args.toList.map e.ev := List.map_congr_left fun x hx => hev x (by rw [h1]; simp [Op.operands, Call.operands]; exact .inr (by simpa using hx))
  refine ⟨fun hb => .inl h0 h1 h2 (by rw [hf]; exact h3) (by rw [hargs]; exact h4) (by rw [hb]; exact h5), fun hp => ?_, fun hn => ?_⟩
  ·
   rw [h1] at hp
   simp [pureOp] at hp
  ·
   subst h0
   obtain ⟨⟩ := c
   simp only at h2
   subst h2
   rw [h1] at hn
   simp [nwQ, CM.nw, callV] at hn
theorem Val.loc {o : Oper} {e e' : Env} {v : AV} {f : Env} (hd : Val P T q R W ops o e v f) (ht : ∀ t ∈ o.looksAt ops, e'.tm.get t = e.tm.get t) :
  (e'.bare = e.bare → Val P T q R W ops o e' v f) ∧ (pureOp T o.op = true → f = e.bare ∧ Val P T q R W ops o e' v e'.bare) ∧ (nwQ q o.op = false → f = e.bare) := by
 have hg : ∀ {j t b}, o.guard = some (j, b) → (ops[j]?).bind (·.dst) = some t → e'.tm.get t = e.tm.get t := by
  intro j t b hg ht'
  refine ht t (List.mem_append_right _ ?_)
  rw [hg]
  simp [ht']
 have hck : chkWR W R e' o = chkWR W R e o := chkWR_congr fun x hx => by
  cases x with
  | tmp t => exact ht t (List.mem_append_left _ (List.mem_filterMap.2 ⟨.tmp t, by simpa using hx, rfl⟩))
  | _ => rfl
 cases hd with
 | plain h1 hc h2 =>
  obtain ⟨p1, p2, p3⟩ := h2.loc ht
  exact ⟨fun hb => .plain h1 (hck.trans hc) (p1 hb), fun hp => ⟨(p2 hp).1, .plain h1 (hck.trans hc) (p2 hp).2⟩, p3⟩
 | yes h1 h2 h3 hc h4 =>
  obtain ⟨p1, p2, p3⟩ := h4.loc ht
  have hgt := hg h1 h2
  exact ⟨fun hb => .yes h1 h2 (hgt.trans h3) (hck.trans hc) (p1 hb), fun hp => ⟨(p2 hp).1, .yes h1 h2 (hgt.trans h3) (hck.trans hc) (p2 hp).2⟩, p3⟩
 | no h1 h2 h3 h4 =>
  have hgt := hg h1 h2
  refine ⟨fun hb => by rw [← hb]; exact .no h1 h2 (hgt.trans h3) h4, fun _ => ⟨rfl, .no h1 h2 (hgt.trans h3) h4⟩, fun _ => rfl⟩
 | undef h1 h2 h3 =>
  have hgt := hg h1 h2
  refine ⟨fun hb => by rw [← hb]; exact .undef h1 h2 (hgt.trans h3), fun _ => ⟨rfl, .undef h1 h2 (hgt.trans h3)⟩, fun _ => rfl⟩
theorem Val.read {o : Oper} {e e' : Env} {v : AV} {f : Env} (hr : readOp o.op = true) (hd : Val P T q R W ops o e v f) (ht : ∀ t ∈ o.looksAt ops, e'.tm.get t = e.tm.get t) (hx : Ext e.bare e'.bare) : f = e.bare ∧ Val P T q R W ops o e' v e'.bare := by
 have hnw : nwOp o.op = false := by
  generalize o.op = q at hr
  cases q <;> first | rfl | cases hr
 have hev : ∀ x ∈ o.op.operands, e'.ev x = e.ev x := by
  intro x hx
  cases x with
  | tmp t => exact ht t (List.mem_append_left _ (List.mem_filterMap.2 ⟨.tmp t, by simpa using hx, rfl⟩))
  | _ => rfl
 have hd1 : ∀ {v f}, Do1 P T q R o e v f → f = e.bare ∧ Do1 P T q R o e' v e'.bare := by
  intro v f hd
  cases hd with
  | alc _ h2 _ _ _ _ => rw [h2] at hr; cases hr
  | plain h1 hpl h2 =>
   refine ⟨quiet_same hnw h2, .plain h1 hpl ?_⟩
   rw [absOp_congr (g := e.ev) hev]
   exact read_ext hr hx h2
  | next h1 h2 h3 =>
   obtain ⟨n1, _, _⟩ := nextA_nw (T := T) h1
   rw [n1] at hnw; cases hnw
  | call h1 _ _ _ _ _ _ _ =>
   rw [h1] at hr
   cases hr
  | con _ h1 _ _ _ _ _ _ _ _ =>
   rw [h1] at hr
   cases hr
  | dyn _ h1 _ _ _ _ _ =>
   rw [h1] at hr
   cases hr
  | inl _ h1 _ _ _ _ =>
   rw [h1] at hr
   cases hr
 have hg : ∀ {j t b}, o.guard = some (j, b) → (ops[j]?).bind (·.dst) = some t → e'.tm.get t = e.tm.get t := by
  intro j t b hg ht'
  refine ht t (List.mem_append_right _ ?_)
  rw [hg]
  simp [ht']
 cases hd with
 | plain h1 hc h2 => exact ⟨(hd1 h2).1, .plain h1 ((chkWR_congr hev).trans hc) (hd1 h2).2⟩
 | yes h1 h2 h3 hc h4 => exact ⟨(hd1 h4).1, .yes h1 h2 ((hg h1 h2).trans h3) ((chkWR_congr hev).trans hc) (hd1 h4).2⟩
 | no h1 h2 h3 h4 => exact ⟨rfl, .no h1 h2 ((hg h1 h2).trans h3) h4⟩
 | undef h1 h2 h3 => exact ⟨rfl, .undef h1 h2 ((hg h1 h2).trans h3)⟩
theorem Val.readW {W0 : WH} (hlw : W0.lw = true) {o : Oper} {e e' : Env} {v : AV} {f : Env} (hr : readOp o.op = true) (hd : Val P T q R (some W0) ops o e v f) (ht : ∀ t ∈ o.looksAt ops, e'.tm.get t = e.tm.get t) (hx : BoxW W0.ws e.bare e'.bare) : f = e.bare ∧ Val P T q R (some W0) ops o e' v e'.bare := by
 have hnw : nwOp o.op = false := by
  generalize o.op = q at hr
  cases q <;> first | rfl | cases hr
 have hev : ∀ x ∈ o.op.operands, e'.ev x = e.ev x := by
  intro x hx
  cases x with
  | tmp t => exact ht t (List.mem_append_left _ (List.mem_filterMap.2 ⟨.tmp t, by simpa using hx, rfl⟩))
  | _ => rfl
 have hd1 : ∀ {v f}, chkWR (some W0) R e o = true → Do1 P T q R o e v f → f = e.bare ∧ Do1 P T q R o e' v e'.bare := by
  intro v f hck hd
  cases hd with
  | alc _ h2 _ _ _ _ => rw [h2] at hr; cases hr
  | plain h1 hpl h2 =>
   refine ⟨quiet_same hnw h2, .plain h1 hpl ?_⟩
   rw [absOp_congr (g := e.ev) hev]
   refine read_boxW hr hx (fun t a hop q' i ha => ?_) h2
   have hck := (chkW_two (chkWR_w hck)).1
   rw [hop] at hck
   simp only at hck
   have : e.ev a = .c (.a (.box q' i)) := by
    unfold atom? at ha
    split at ha
    ·
     rename_i x hxx
     cases ha
     exact hxx
    ·
     cases ha
   rw [this] at hck
   simpa [boxOf, hlw] using hck
  | next h1 h2 h3 =>
   obtain ⟨n1, _, _⟩ := nextA_nw (T := T) h1
   rw [n1] at hnw; cases hnw
  | call h1 _ _ _ _ _ _ _ =>
   rw [h1] at hr
   cases hr
  | con _ h1 _ _ _ _ _ _ _ _ =>
   rw [h1] at hr
   cases hr
  | dyn _ h1 _ _ _ _ _ =>
   rw [h1] at hr
   cases hr
  | inl _ h1 _ _ _ _ =>
   rw [h1] at hr
   cases hr
 have hg : ∀ {j t b}, o.guard = some (j, b) → (ops[j]?).bind (·.dst) = some t → e'.tm.get t = e.tm.get t := by
  intro j t b hg ht'
  refine ht t (List.mem_append_right _ ?_)
  rw [hg]
  simp [ht']
 cases hd with
 | plain h1 hc h2 => exact ⟨(hd1 hc h2).1, .plain h1 ((chkWR_congr hev).trans hc) (hd1 hc h2).2⟩
 | yes h1 h2 h3 hc h4 => exact ⟨(hd1 hc h4).1, .yes h1 h2 ((hg h1 h2).trans h3) ((chkWR_congr hev).trans hc) (hd1 hc h4).2⟩
 | no h1 h2 h3 h4 => exact ⟨rfl, .no h1 h2 ((hg h1 h2).trans h3) h4⟩
 | undef h1 h2 h3 => exact ⟨rfl, .undef h1 h2 ((hg h1 h2).trans h3)⟩
theorem Val.storeW {W0 : WH} {o : Oper} {e : Env} {v : AV} {f : Env} (hs : storeOp o.op = true) (hd : Val P T q R (some W0) ops o e v f) : BoxW W0.ws e.bare f := by
 have hd1 : ∀ {v f}, chkWR (some W0) R e o = true → Do1 P T q R o e v f → BoxW W0.ws e.bare f := by
  intro v f hck hd
  cases hd with
  | alc _ h2 _ _ _ _ => rw [h2] at hs; cases hs
  | plain h1 _ h2 =>
   generalize hop : o.op = op at hs
   cases op <;> simp only [storeOp, Bool.false_eq_true] at hs
   rename_i t x y
   have hck := (chkW_two (chkWR_w hck)).1
   rw [hop] at hck
   simp only at hck
   unfold absOp at h2
   rw [hop] at h2
   simp only at h2
   split at h2
   ·
    rename_i te ad hte had
    split at h2
    ·
     rename_i m hm
     have h2 := cond_get h2
     split at h2
     ·
      rename_i e' he'
      cases h2
      have hb : e.ev x = .c (.a ad) := by
       unfold atom? at had
       split at had
       ·
        rename_i z hz
        cases had
        exact hz
       ·
        cases had
      rw [hb] at hck
      cases ad <;> simp only [boxOf, Bool.false_eq_true] at hck
      rename_i o' i
      simp only [Env.storeAt] at he'
      split at he'
      ·
       rename_i xs hl
       have he' := cond_get he'
       cases he'
       intro o2
       by_cases ho : o' = o2
       ·
        subst ho
        exact .inr ⟨hck, xs, splice xs i m, hl, lk_up_same hl⟩
       ·
        exact .inl (lk_up_ne ho)
      ·
       cases he'
     ·
      cases h2
    ·
     cases h2
   ·
    cases h2
  | next h1 h2 h3 =>
   unfold nextA at h1
   split at h1
   ·
    rename_i hq
    rw [hq] at hs
    cases hs
   ·
    cases h1
  | call h1 _ _ _ _ _ _ _ =>
   rw [h1] at hs
   cases hs
  | con _ h1 _ _ _ _ _ _ _ _ =>
   rw [h1] at hs
   cases hs
  | dyn _ h1 _ _ _ _ _ =>
   rw [h1] at hs
   cases hs
  | inl _ h1 _ _ _ _ =>
   rw [h1] at hs
   cases hs
 cases hd with
 | plain h1 hc h2 => exact hd1 hc h2
 | yes h1 h2 h3 hc h4 => exact hd1 hc h4
 | no h1 h2 h3 h4 => exact fun _ => .inl rfl
 | undef h1 h2 h3 => exact fun _ => .inl rfl
theorem Val.make {o : Oper} {e : Env} {v : AV} {f : Env} (hm : makeOp o.op = true) (hi : IdsOk e) (hd : Val P T q R W ops o e v f) : Ext e.bare f := by
 have hd1 : ∀ {v f}, Do1 P T q R o e v f → Ext e.bare f := by
  intro v f hd
  cases hd with
  | alc _ _ _ _ _ h6 => exact alc_ext (e := e.bare) h6
  | plain h1 _ h2 => exact make_ext hm hi h2
  | next h1 h2 h3 =>
   unfold nextA at h1
   split at h1
   ·
    rename_i hq
    rw [hq] at hm
    cases hm
   ·
    cases h1
  | call h1 _ _ _ _ _ _ _ =>
   rw [h1] at hm
   cases hm
  | con _ h1 _ _ _ _ _ _ _ _ =>
   rw [h1] at hm
   cases hm
  | dyn _ h1 _ _ _ _ _ =>
   rw [h1] at hm
   cases hm
  | inl _ h1 _ _ _ _ =>
   rw [h1] at hm
   cases hm
 cases hd with
 | plain h1 _ h2 => exact hd1 h2
 | yes h1 h2 h3 _ h4 => exact hd1 h4
 | no h1 h2 h3 h4 => exact Ext.refl _
 | undef h1 h2 h3 => exact Ext.refl _
theorem atom_ev {e : Env} {x : Operand} {a : Atom} (h : atom? (e.ev x) = some a) : e.ev x = .c (.a a) := by
 unfold atom? at h
 split at h
 ·
  rename_i z hz
  cases h
  exact hz
 ·
  cases h
theorem looks_ev {o : Oper} {e e' : Env} (ht : ∀ t ∈ o.looksAt ops, e'.tm.get t = e.tm.get t) : ∀ x ∈ o.op.operands, e'.ev x = e.ev x := by
 intro x hx
 cases x with
 | tmp t => exact ht t (List.mem_append_left _ (List.mem_filterMap.2 ⟨.tmp t, by simpa using hx, rfl⟩))
 | _ => rfl
theorem looks_guard {o : Oper} {e e' : Env} (ht : ∀ t ∈ o.looksAt ops, e'.tm.get t = e.tm.get t) {j t : Nat} {b : Bool} (hg : o.guard = some (j, b)) (ht' : (ops[j]?).bind (·.dst) = some t) : e'.tm.get t = e.tm.get t := by
 refine ht t (List.mem_append_right _ ?_)
 rw [hg]
 simp [ht']
theorem Val.readLow {W0 : WH} {n0 : Nat} (hn : W0.n = some n0) {o : Oper} {e e' : Env} {v : AV} {f : Env} (hr : readOp o.op = true) (hd : Val P T q R (some W0) ops o e v f) (ht : ∀ t ∈ o.looksAt ops, e'.tm.get t = e.tm.get t) (hx : ∀ i, i < n0 → RE e.bare e'.bare i) : f = e.bare ∧ Val P T q R (some W0) ops o e' v e'.bare := by
 have hnw : nwOp o.op = false := by
  generalize o.op = q at hr
  cases q <;> first | rfl | cases hr
 have hev := looks_ev ht
 have hd1 : ∀ {v f}, chkWR (some W0) R e o = true → Do1 P T q R o e v f → f = e.bare ∧ Do1 P T q R o e' v e'.bare := by
  intro v f hck hd
  cases hd with
  | alc _ h2 _ _ _ _ => rw [h2] at hr; cases hr
  | plain h1 hpl h2 =>
   refine ⟨quiet_same hnw h2, .plain h1 hpl ?_⟩
   rw [absOp_congr (g := e.ev) hev]
   refine read_re hr (fun a ha x hxa i hi => hx i ?_) h2
   have hck := (chkW_two (chkWR_w hck)).2
   unfold chkL at hck
   rw [hn] at hck
   have hev := atom_ev hxa
   generalize o.op = op at ha hck
   have low : lowV n0 (e.ev a) = true → i < n0 := by
    intro hl
    rw [hev] at hl
    simp only [lowV, List.all_eq_true, Nat.blt_eq] at hl
    exact hl i hi
   cases op <;> simp only [readAddr, Option.some.injEq, reduceCtorEq] at ha <;> subst ha <;> exact low hck
  | next h1 h2 h3 =>
   obtain ⟨n1, _, _⟩ := nextA_nw (T := T) h1
   rw [n1] at hnw; cases hnw
  | call h1 _ _ _ _ _ _ _ =>
   rw [h1] at hr
   cases hr
  | con _ h1 _ _ _ _ _ _ _ _ =>
   rw [h1] at hr
   cases hr
  | dyn _ h1 _ _ _ _ _ =>
   rw [h1] at hr
   cases hr
  | inl _ h1 _ _ _ _ =>
   rw [h1] at hr
   cases hr
 cases hd with
 | plain h1 hc h2 => exact ⟨(hd1 hc h2).1, .plain h1 ((chkWR_congr hev).trans hc) (hd1 hc h2).2⟩
 | yes h1 h2 h3 hc h4 => exact ⟨(hd1 hc h4).1, .yes h1 h2 ((looks_guard ht h1 h2).trans h3) ((chkWR_congr hev).trans hc) (hd1 hc h4).2⟩
 | no h1 h2 h3 h4 => exact ⟨rfl, .no h1 h2 ((looks_guard ht h1 h2).trans h3) h4⟩
 | undef h1 h2 h3 => exact ⟨rfl, .undef h1 h2 ((looks_guard ht h1 h2).trans h3)⟩
theorem callV_not {o : Oper} (hc : callV o.op = true) : ∃ c f, o.op = .call c ∧ c.callee = .value f := by
 generalize o.op = op at hc
 cases op <;> simp only [callV, Bool.false_eq_true] at hc
 rename_i c
 obtain ⟨cal, args, ats⟩ := c
 cases cal <;> simp only [callV, Bool.false_eq_true] at hc
 exact ⟨_, _, rfl, rfl⟩
theorem Val.con_low {o : Oper} {e : Env} {v : AV} {f : Env} (hq : q.isCon = true) (hcv : callV o.op = true) (hd : Val P T q R W ops o e v f) :
  (∀ i, i < e.nx → lk f.os i = lk e.os i ∨ ∃ k ep xs, lk e.os i = some (.row k ep xs) ∧ lk f.os i = some (.frz k ep xs)) ∧ e.nx ≤ f.nx := by
 have hd1 : ∀ {v f}, Do1 P T q R o e v f → (∀ i, i < e.nx → lk f.os i = lk e.os i ∨ ∃ k ep xs, lk e.os i = some (.row k ep xs) ∧ lk f.os i = some (.frz k ep xs)) ∧ e.nx ≤ f.nx := by
  intro v f hd
  cases hd with
  | alc _ h2 _ _ _ _ => rw [h2] at hcv; cases hcv
  | plain h1 _ h2 =>
   obtain ⟨c, f', h3, h4⟩ := callV_not hcv
   exact absurd h4 (h1 c f' h3)
  | next h1 h2 h3 =>
   obtain ⟨c, f', h4, _⟩ := callV_not hcv
   exact absurd h4 ((nextA_nw (T := T) h1).2.2 c)
  | call _ _ _ _ _ _ _ _ => exact ⟨fun i _ => .inl rfl, Nat.le_refl _⟩
  | con _ _ _ _ _ _ _ _ h8 h9 =>
   subst h9
   exact ⟨fun i hi => impE_re e.bare _ _ i hi, impE_nx e.bare _ _⟩
  | inl h0 _ _ _ _ _ => subst h0; cases hq
  | dyn h0 _ _ _ _ _ _ => subst h0; cases hq
 cases hd with
 | plain h1 _ h2 => exact hd1 h2
 | yes h1 h2 h3 _ h4 => exact hd1 h4
 | no h1 h2 h3 h4 => exact ⟨fun i _ => .inl rfl, Nat.le_refl _⟩
 | undef h1 h2 h3 => exact ⟨fun i _ => .inl rfl, Nat.le_refl _⟩
theorem cps_mem : ∀ {l : List AV} {cs : List Cp}, cps? l = some cs → ∀ c ∈ cs, AV.c c ∈ l
 | [], cs, h, c, hc => by simp [cps?] at h; subst h; cases hc
 | x :: l, cs, h, c, hc => by
  unfold cps? at h
  split at h
  ·
   rename_i heq; cases heq
  ·
   rename_i c' l' heq
   split at h
   ·
    rename_i r hr
    cases h
    cases heq
    rcases List.mem_cons.1 hc with rfl | hc
    ·
     simp
    ·
     exact List.mem_cons_of_mem _ (cps_mem hr c hc)
   ·
    cases h
  ·
   cases h
theorem Val.con_reb {W0 : WH} {n0 : Nat} (hn : W0.n = some n0) {o : Oper} {e e' : Env} {v : AV} {f : Env} (hq : q.isCon = true) (hcv : callV o.op = true) (hd : Val P T q R (some W0) ops o e v f) {i : Nat} {xs ys : List Atom} (hl : lk e.os i = some (.box xs)) (hi : i < e.nx) (hw : memN W0.ws i = true)
  (ht : ∀ t ∈ o.looksAt ops, e'.tm.get t = e.tm.get t) (hb : e'.bare = e.bare.reb i ys) : Val P T q R (some W0) ops o e' v (f.reb i ys) := by
 have hev := looks_ev ht
 have hd1 : ∀ {v f}, chkWR (some W0) R e o = true → Do1 P T q R o e v f → Do1 P T q R o e' v (f.reb i ys) := by
  intro v f hck hd
  have caps : ∀ {c : Call} {f' : Operand} {fn : Nat} {caps : List Nat} {cs : List Cp}, o.op = .call c → c.callee = .value f' → e.ev f' = .c (.a (.fn fn caps)) → cps? (c.args.toList.map e.ev) = some cs → ∀ z ∈ cs ++ caps.map (fun o => Cp.a (.box o 0)), ∀ q', z = .a (.box q' 0) → q' ≠ i := by
   intro c f' fn caps cs h1 h2 h3 h4 z hz q' hzq hqi
   subst hzq
   subst hqi
   have hck := (chkW_two (chkWR_w hck)).2
   unfold chkL at hck
   rw [hn, h1] at hck
   simp only [h2, h3, Bool.and_eq_true] at hck
   rcases List.mem_append.1 hz with hz | hz
   ·
    have hm := cps_mem h4 _ hz
    have := List.all_eq_true.1 hck.2 _ hm
    simp only [offV, hw, Bool.not_true, Bool.false_eq_true] at this
   ·
    obtain ⟨p, hp, hpe⟩ := List.mem_map.1 hz
    cases hpe
    have := hck.1
    simp only [offV, List.all_eq_true] at this
    have := this _ hp
    rw [hw] at this
    cases this
  cases hd with
  | alc _ h2 _ _ _ _ => rw [h2] at hcv; cases hcv
  | plain h1 _ h2 =>
   obtain ⟨c, f', h3, h4⟩ := callV_not hcv
   exact absurd h4 (h1 c f' h3)
  | next h1 h2 h3 =>
   obtain ⟨c, f', h4, _⟩ := callV_not hcv
   exact absurd h4 ((nextA_nw (T := T) h1).2.2 c)
  | @call c f' fn caps' cs ks ds rs h1 h2 h3 h4 h5 h6 h7 h8 =>
   have hf : e'.ev f' = e.ev f' := hev f' (by rw [h1]; simp [Op.operands, Call.operands, h2])
   have hargs : c.args.toList.map e'.ev = c.args.toList.map e.ev := List.map_congr_left fun x hx => hev x (by rw [h1]; simp [Op.operands, Call.operands]; exact .inr (by simpa using hx))
   have hcap := caps h1 h2 h3 h4
   have := Do1.call (T := T) (q := q) (R := R) h1 h2 (by rw [hf]; exact h3) (by rw [hargs]; exact h4) h5 (by rw [hb, reb_dats (e := e.bare) hl ks hcap]; exact h6) h7 h8
   rw [hb] at this
   exact this
  | @con c f' fn caps' cs ks ds rs v' f1 h0 h1 h2 h3 h4 h5 h6 h7 h8 h9 =>
   have hf : e'.ev f' = e.ev f' := hev f' (by rw [h1]; simp [Op.operands, Call.operands, h2])
   have hargs : c.args.toList.map e'.ev = c.args.toList.map e.ev := List.map_congr_left fun x hx => hev x (by rw [h1]; simp [Op.operands, Call.operands]; exact .inr (by simpa using hx))
   have hcap := caps h1 h2 h3 h4
   have himp := reb_impE (e := e.bare) (ys := ys) hl hi rs hcap
   exact .con h0 h1 h2 (by rw [hf]; exact h3) (by rw [hargs]; exact h4) h5 (by rw [hb, reb_dats (e := e.bare) hl ks hcap]; exact h6) h7 (by rw [hb, himp]; exact h8) (by rw [hb, himp, h9])
  | inl h0 _ _ _ _ _ => subst h0; cases hq
  | dyn h0 _ _ _ _ _ _ => subst h0; cases hq
 cases hd with
 | plain h1 hc h2 => exact .plain h1 ((chkWR_congr hev).trans hc) (hd1 hc h2)
 | yes h1 h2 h3 hc h4 => exact .yes h1 h2 ((looks_guard ht h1 h2).trans h3) ((chkWR_congr hev).trans hc) (hd1 hc h4)
 | no h1 h2 h3 h4 => rw [← hb]; exact .no h1 h2 ((looks_guard ht h1 h2).trans h3) h4
 | undef h1 h2 h3 => rw [← hb]; exact .undef h1 h2 ((looks_guard ht h1 h2).trans h3)
theorem Val.store_at {W0 : WH} {n0 : Nat} (hn : W0.n = some n0) {o : Oper} {e : Env} {v : AV} {f : Env} (hs : storeOp o.op = true) (hd : Val P T q R (some W0) ops o e v f) :
  (f = e.bare ∧ ∀ e' : Env, (∀ t ∈ o.looksAt ops, e'.tm.get t = e.tm.get t) → Val P T q R (some W0) ops o e' v e'.bare) ∨
  ∃ i xs ys, i < n0 ∧ memN W0.ws i = true ∧ lk e.os i = some (.box xs) ∧ f = e.bare.reb i ys ∧ ∀ e' : Env, (∀ t ∈ o.looksAt ops, e'.tm.get t = e.tm.get t) → lk e'.os i = some (.box xs) → Val P T q R (some W0) ops o e' v (e'.bare.reb i ys) := by
 have hd1 : ∀ {v f}, chkWR (some W0) R e o = true → Do1 P T q R o e v f → ∃ i xs ys, i < n0 ∧ memN W0.ws i = true ∧ lk e.os i = some (.box xs) ∧ f = e.bare.reb i ys ∧ ∀ e' : Env, (∀ t ∈ o.looksAt ops, e'.tm.get t = e.tm.get t) → lk e'.os i = some (.box xs) → Do1 P T q R o e' v (e'.bare.reb i ys) := by
  intro v f hck hd
  cases hd with
  | alc _ h2 _ _ _ _ => rw [h2] at hs; cases hs
  | plain h1 hpl h2 =>
   have hcong : ∀ e' : Env, (∀ t ∈ o.looksAt ops, e'.tm.get t = e.tm.get t) → absOp T e'.ev e'.bare o = absOp T e.ev e'.bare o := fun e' ht => absOp_congr (looks_ev ht)
   generalize hop : o.op = op at hs
   cases op <;> simp only [storeOp, Bool.false_eq_true] at hs
   rename_i t x y
   obtain ⟨hck1, hck2⟩ := chkW_two (chkWR_w hck)
   rw [hop] at hck1
   simp only at hck1
   unfold chkL at hck2
   rw [hn, hop] at hck2
   simp only at hck2
   have h2' := h2
   unfold absOp at h2
   rw [hop] at h2
   simp only at h2
   split at h2
   ·
    rename_i te ad hte had
    split at h2
    ·
     rename_i m hm
     cases hlen : Nat.beq m.length te.n
     ·
      rw [hlen] at h2; cases h2
     rw [hlen] at h2
     simp only [cond_true] at h2
     split at h2
     ·
      rename_i e' he'
      cases h2
      have hb := atom_ev had
      rw [hb] at hck1 hck2
      cases ad <;> simp only [boxOf, Bool.false_eq_true] at hck1
      rename_i i j
      simp only [lowV, idsA, List.all_cons, List.all_nil, Bool.and_true, Nat.blt_eq] at hck2
      simp only [Env.storeAt] at he'
      split at he'
      ·
       rename_i xs hl
       cases hfit : Nat.ble (j + m.length) xs.length
       ·
        rw [hfit] at he'; cases he'
       rw [hfit] at he'
       simp only [cond_true, Option.some.injEq] at he'
       subst he'
       refine ⟨i, xs, splice xs j m, hck2, hck1, hl, rfl, fun e2 ht hl2 => .plain h1 hpl ?_⟩
       rw [hcong e2 ht]
       unfold absOp
       rw [hop]
       simp only [hte, had, hm, hlen, cond_true, Env.storeAt]
       rw [show lk e2.bare.os i = some (.box xs) from hl2]
       simp only [hfit, cond_true]
       rfl
      ·
       cases he'
     ·
      cases h2
    ·
     cases h2
   ·
    cases h2
  | next h1 h2 h3 =>
   unfold nextA at h1
   split at h1
   ·
    rename_i hq
    rw [hq] at hs
    cases hs
   ·
    cases h1
  | call h1 _ _ _ _ _ _ _ =>
   rw [h1] at hs
   cases hs
  | con _ h1 _ _ _ _ _ _ _ _ =>
   rw [h1] at hs
   cases hs
  | dyn _ h1 _ _ _ _ _ =>
   rw [h1] at hs
   cases hs
  | inl _ h1 _ _ _ _ =>
   rw [h1] at hs
   cases hs
 cases hd with
 | plain h1 hc h2 =>
  obtain ⟨i, xs, ys, a1, a2, a3, a4, a5⟩ := hd1 hc h2
  exact .inr ⟨i, xs, ys, a1, a2, a3, a4, fun e' ht hl => .plain h1 ((chkWR_congr (looks_ev ht)).trans hc) (a5 e' ht hl)⟩
 | yes h1 h2 h3 hc h4 =>
  obtain ⟨i, xs, ys, a1, a2, a3, a4, a5⟩ := hd1 hc h4
  exact .inr ⟨i, xs, ys, a1, a2, a3, a4, fun e' ht hl => .yes h1 h2 ((looks_guard ht h1 h2).trans h3) ((chkWR_congr (looks_ev ht)).trans hc) (a5 e' ht hl)⟩
 | no h1 h2 h3 h4 => exact .inl ⟨rfl, fun e' ht => .no h1 h2 ((looks_guard ht h1 h2).trans h3) h4⟩
 | undef h1 h2 h3 => exact .inl ⟨rfl, fun e' ht => .undef h1 h2 ((looks_guard ht h1 h2).trans h3)⟩
theorem Val.un {o : Oper} {e : Env} {v : AV} {f : Env} (hg : o.guard = none) (hv : Val P T q R W ops o e v f) : chkWR W R e o = true ∧ Do1 P T q R o e v f := by
 cases hv with
 | plain _ gc g2 => exact ⟨gc, g2⟩
 | yes g1 _ _ _ _ => rw [hg] at g1; cases g1
 | no g1 _ _ _ => rw [hg] at g1; cases g1
 | undef g1 _ _ => rw [hg] at g1; cases g1
theorem swap {w : Bool} {n0 : Nat} (hR : R.isSome = true) (hW : w = true ∨ q.isCon = true → ∃ W0, W = some W0 ∧ (w = true → W0.lw = true) ∧ (q.isCon = true → W0.n = some n0)) {x y : Oper} (hi : indepB T q w ops x y = true) (hD : q.isDyn = true → rdOp x = true → callV y.op = true → ∀ rr, R = some rr → memO rr.rs x.dst = true) {e e1 e2 : Env} (hid : IdsOk e) (hn0 : n0 ≤ e.nx) (hx : Step1 P T q R W N ops x e e1) (hy : Step1 P T q R W N ops y e1 e2) : ∃ e1', Step1 P T q R W N ops y e e1' ∧ Step1 P T q R W N ops x e1' e2 := by
 simp only [indepB, Bool.and_eq_true, Bool.or_eq_true, Bool.not_eq_true', Bool.and_eq_false_iff, Bool.not_eq_false'] at hi
 obtain ⟨hap, hcs⟩ := hi
 obtain ⟨a1, a2', a3⟩ := Oper.apart_spec hap
 have a2 := a2'
 obtain ⟨vx, fx, hvx, hdx, hex⟩ := hx
 obtain ⟨vy, fy, hvy, hdy, hey⟩ := hy
 have hvy := hvy.eq hex
 have hyl : ∀ t ∈ y.looksAt ops, e.tm.get t = (putE (e.back fx) x.dst vx).tm.get t := by
  intro t ht
  rw [putE_get hdx]
  have : x.dst ≠ some t := fun hc => a1 t hc ht
  rw [if_neg this]
  rfl
 obtain ⟨p1, p2, p3⟩ := hvy.loc hyl
 have xl : ∀ (q : Env) (u : AV), q.tm = e.tm → ∀ t ∈ x.looksAt ops, (putE q y.dst u).tm.get t = e.tm.get t := by
  intro q u hq t ht
  rw [putE_get hdy]
  have : y.dst ≠ some t := fun hc => a3 t hc ht
  rw [if_neg this, hq]
 have hbx : (putE (e.back fx) x.dst vx).bare = ⟨.e, fx.os, fx.nx⟩ := by
  unfold Env.bare
  rw [(putE_os _ _ _).1, (putE_os _ _ _).2]
  rfl
 have fin : ∀ (g h : Env), h.os = fy.os → h.nx = fy.nx → EqE e2 (putE ((putE (e.back g) y.dst vy).back h) x.dst vx) := by
  intro g h ho hn
  refine hey.trans ((back_eq hex fy y.dst vy hdy).trans ⟨?_, ?_, fun t => ?_⟩)
  ·
   rw [(putE_os _ _ _).1, (putE_os _ _ _).1]; exact ho.symm
  ·
   rw [(putE_os _ _ _).2, (putE_os _ _ _).2]; exact hn.symm
  ·
   rw [putE_get hdy, putE_get hdx]
   show (if y.dst = some t then vy else (putE (e.back fx) x.dst vx).tm.get t) = if x.dst = some t then vx else (putE (e.back g) y.dst vy).tm.get t
   rw [putE_get hdx, putE_get hdy]
   by_cases h1 : x.dst = some t
   ·
    have h2 : y.dst ≠ some t := a2 t h1
    simp [h1, h2]
   ·
    simp [h1]
    rfl
 have nwr : ∀ {z : Oper}, readOp z.op = true → nwQ q z.op = false := by
  intro z hz
  generalize z.op = op at hz
  cases op <;> first | (cases q <;> rfl) | cases hz
 have hb3' : ∀ (u : AV) (z : Env), (putE (e.back z) y.dst u).bare = ⟨.e, z.os, z.nx⟩ := by
  intro u z
  unfold Env.bare
  rw [(putE_os _ _ _).1, (putE_os _ _ _).2]
  rfl
 rcases hcs with ((((⟨hc1, hc2⟩ | ⟨hrx, hmy⟩) | hw) | hcon) | halc) | hdyn
 case inr =>
  obtain ⟨⟨hqd, hrx⟩, hcy⟩ := hdyn
  have hrk : ∃ k a, rkOp x.op = some (k, a) ∧ readOp x.op = true := by
   unfold rdOp at hrx
   generalize x.op = op at hrx
   cases op <;> simp only [Bool.false_and, Bool.false_eq_true, Bool.true_and] at hrx <;> exact ⟨_, _, rfl, rfl⟩
  obtain ⟨k, a, hrk, hrd⟩ := hrk
  have hfx : fx = e.bare := (hvx.loc (e' := e) fun _ _ => rfl).2.2 (nwr hrd)
  subst hfx
  have hb : e.bare = (putE (e.back e.bare) x.dst vx).bare := by rw [hbx]; rfl
  have hy1 := p1 hb
  refine ⟨putE (e.back fy) y.dst vy, ⟨vy, fy, hy1, hdy, EqE.refl _⟩, ?_⟩
  have goal : Val P T q R W ops x (putE (e.back fy) y.dst vy) vx (putE (e.back fy) y.dst vy).bare → True ∧ Step1 P T q R W N ops x (putE (e.back fy) y.dst vy) e2 := fun hv => by
   refine ⟨trivial, vx, _, hv, hdx, fin _ _ ?_ ?_⟩
   ·
    show (putE (e.back fy) y.dst vy).os = fy.os
    rw [(putE_os _ _ _).1]; rfl
   ·
    show (putE (e.back fy) y.dst vy).nx = fy.nx
    rw [(putE_os _ _ _).2]; rfl
  have same : ∀ v, Val P T q R W ops x (putE (e.back e.bare) y.dst v) vx (putE (e.back e.bare) y.dst v).bare := fun v => by
   rw [hb3' v e.bare]
   exact (hvx.loc (xl (e.back e.bare) v rfl)).1 (by rw [hb3']; rfl)
  have hdo : ∀ {v f}, Do1 P T q R y e v f → Val P T q R W ops x (putE (e.back f) y.dst v) vx (putE (e.back f) y.dst v).bare := by
   intro v f hd
   cases hd with
   | alc _ h2 _ _ _ _ => rw [h2] at hcy; cases hcy
   | plain h1 _ h2 =>
    obtain ⟨c, f', h3, h4⟩ := callV_not hcy
    exact absurd h4 (h1 c f' h3)
   | next h1 h2 h3 =>
    obtain ⟨c, f', h4, _⟩ := callV_not hcy
    exact absurd h4 ((nextA_nw (T := T) h1).2.2 c)
   | call _ _ _ _ _ _ _ _ => exact same _
   | @con _ _ _ _ _ _ _ _ v f _ _ _ _ _ _ _ _ h8 h9 =>
    exact (Val.read hrd hvx (xl (e.back f) v rfl) (by rw [hb3', h9]; exact fun o ob ho hu => impE_ext (e := e.bare) hid _ _ o ob ho hu)).2
   | inl h0 _ _ _ _ _ => subst h0; cases hqd
   | @dyn _ _ _ _ _ rs f h0 h1 h2 h3 h4 h5 h6 =>
    have hev := looks_ev (ops := ops) (o := x) (xl (e.back f) (avOf rs) rfl)
    have hread : ∀ {vx : AV} {f0 : Env}, Do1 P T q R x e vx f0 → chkD R e x = true → Do1 P T q R x (putE (e.back f) y.dst (avOf rs)) vx (putE (e.back f) y.dst (avOf rs)).bare := by
     intro vx f0 hd hck
     cases hd with
     | plain g1 gp g2 =>
      refine .plain g1 gp ?_
      rw [absOp_congr (g := e.ev) hev, hb3']
      have hcanon : ∀ (u : Env) (A : Atom), e.ev a = .c (.a A) → absOp T e.ev u x = absOp T (fun _ => .at A) u (rkOper k) := by
       intro u A hA
       unfold absOp rkOper
       generalize x.op = op at hrk
       cases op <;> simp only [rkOp, Option.some.injEq, Prod.mk.injEq, reduceCtorEq] at hrk <;> (obtain ⟨rfl, rfl⟩ := hrk; simp only [hA, cond_true, cond_false])
      have hrr : ∃ rr, R = some rr := by
       cases R with
       | none => cases hR
       | some rr => exact ⟨rr, rfl⟩
      obtain ⟨rr, hrr⟩ := hrr
      have hm := hD hqd hrx hcy rr hrr
      unfold chkD at hck
      rw [hrr] at hck
      simp only [hm, cond_true, hrk] at hck
      split at hck
      ·
       rename_i A hA
       obtain ⟨p, hp, hpe⟩ := List.any_eq_true.1 hck
       simp only [Bool.and_eq_true] at hpe
       have hA2 := fxEq_eq hpe.2
       have hk2 : p.1 = k := by
        have := hpe.1
        unfold rkEq at this
        simp only [Bool.and_eq_true, beq_iff_eq] at this
        exact Prod.ext this.1 (Prod.ext (Nat.eq_of_beq_eq_true this.2.1) (Nat.eq_of_beq_eq_true this.2.2))
       unfold rdChk at h6
       rw [hrr] at h6
       have h7 := List.all_eq_true.1 h6 p hp
       unfold rdSame at h7
       rw [hA2, hk2] at h7
       rw [hcanon _ A hA] at g2 ⊢
       rw [g2] at h7
       split at h7
       ·
        rename_i heq; cases heq
       ·
        rename_i av ev' heq
        cases heq
        split at h7
        ·
         rename_i bv ev2 heq2
         have := fxEq_eq h7
         subst this
         have hsame := quiet_same (o := rkOper k) (by unfold rkOper; cases k.1 <;> rfl) heq2
         rw [hsame] at heq2
         exact read_ext (o := rkOper k) (e := f) (e1 := f) (e2 := ⟨.e, f.os, f.nx⟩) (by unfold rkOper; cases k.1 <;> rfl) (fun _ _ h _ => .inl h) heq2
        ·
         cases h7
       ·
        cases h7
      ·
       cases hck
     | alc _ g2 _ _ _ _ => rw [g2] at hrd; cases hrd
     | next g1 g2 g3 =>
      obtain ⟨n1, _, _⟩ := nextA_nw (T := T) g1
      have := nwQ_nw (nwr hrd)
      rw [n1] at this; cases this
     | call g1 _ _ _ _ _ _ _ => rw [g1] at hrd; cases hrd
     | con _ g1 _ _ _ _ _ _ _ _ => rw [g1] at hrd; cases hrd
     | dyn _ g1 _ _ _ _ _ => rw [g1] at hrd; cases hrd
     | inl _ g1 _ _ _ _ => rw [g1] at hrd; cases hrd
    have hgn : x.guard = none := by
     unfold rdOp at hrx
     simp only [Bool.and_eq_true] at hrx
     simpa using hrx.2
    obtain ⟨gc, g2⟩ := Val.un hgn hvx
    exact .plain hgn ((chkWR_congr hev).trans gc) (hread g2 (chkWR_d gc))
  have hval : Val P T q R W ops x (putE (e.back fy) y.dst vy) vx (putE (e.back fy) y.dst vy).bare := by
   cases hy1 with
   | plain _ _ h2 => exact hdo h2
   | yes _ _ _ _ h4 => exact hdo h4
   | no _ _ _ _ => exact same _
   | undef _ _ _ => exact same _
  obtain ⟨_, h⟩ := goal hval
  exact h
 case inl.inr =>
  obtain ⟨hax, hay⟩ := halc
  have alc : ∀ {z : Oper} {u : Env} {vz : AV} {fz : Env}, allocOp z.op = true → Val P T q R W ops z u vz fz → (fz = u.bare ∧ ∀ u' : Env, (∀ t ∈ z.looksAt ops, u'.tm.get t = u.tm.get t) → Val P T q R W ops z u' vz u'.bare) ∨
    ∃ d rr k te, R = some rr ∧ z.dst = some d ∧ idx rr.ds d = some k ∧ lk u.os (rr.n + k) = some .unb ∧ fz = { u.bare with os := up u.os (rr.n + k) (.box te) } ∧
     ∀ u' : Env, (∀ t ∈ z.looksAt ops, u'.tm.get t = u.tm.get t) → lk u'.os (rr.n + k) = some .unb → Val P T q R W ops z u' vz { u'.bare with os := up u'.os (rr.n + k) (.box te) } := by
   intro z u vz fz hz hv
   have hd1 : ∀ {vz fz}, Do1 P T q R z u vz fz → ∃ d rr k te, R = some rr ∧ z.dst = some d ∧ idx rr.ds d = some k ∧ lk u.os (rr.n + k) = some .unb ∧ fz = { u.bare with os := up u.os (rr.n + k) (.box te) } ∧
     ∀ u' : Env, (∀ t ∈ z.looksAt ops, u'.tm.get t = u.tm.get t) → lk u'.os (rr.n + k) = some .unb → Do1 P T q R z u' vz { u'.bare with os := up u'.os (rr.n + k) (.box te) } := by
    intro vz fz hd
    cases hd with
    | @alc t te d rr k h1 h2 h3 h4 h5 h6 => exact ⟨d, rr, k, te.z, h1, h3, h5, h6, rfl, fun u' _ hl => .alc h1 h2 h3 h4 h5 hl⟩
    | plain h1 hpl h2 =>
     rw [hpl hR] at hz; cases hz
    | next h1 h2 h3 =>
     unfold nextA at h1
     split at h1
     ·
      rename_i hq
      rw [hq] at hz
      cases hz
     ·
      cases h1
    | call h1 _ _ _ _ _ _ _ =>
     rw [h1] at hz
     cases hz
    | con _ h1 _ _ _ _ _ _ _ _ =>
     rw [h1] at hz
     cases hz
    | dyn _ h1 _ _ _ _ _ =>
     rw [h1] at hz
     cases hz
    | inl _ h1 _ _ _ _ =>
     rw [h1] at hz
     cases hz
   cases hv with
   | plain h1 hc h2 =>
    obtain ⟨d, rr, k, te, a1, a2, a3, a4, a5, a6⟩ := hd1 h2
    exact .inr ⟨d, rr, k, te, a1, a2, a3, a4, a5, fun u' ht hl => .plain h1 ((chkWR_congr (looks_ev ht)).trans hc) (a6 u' ht hl)⟩
   | yes h1 h2 h3 hc h4 =>
    obtain ⟨d, rr, k, te, a1, a2, a3, a4, a5, a6⟩ := hd1 h4
    exact .inr ⟨d, rr, k, te, a1, a2, a3, a4, a5, fun u' ht hl => .yes h1 h2 ((looks_guard ht h1 h2).trans h3) ((chkWR_congr (looks_ev ht)).trans hc) (a6 u' ht hl)⟩
   | no h1 h2 h3 h4 => exact .inl ⟨rfl, fun u' ht => .no h1 h2 ((looks_guard ht h1 h2).trans h3) h4⟩
   | undef h1 h2 h3 => exact .inl ⟨rfl, fun u' ht => .undef h1 h2 ((looks_guard ht h1 h2).trans h3)⟩
  have hose : (putE (e.back fx) x.dst vx).os = fx.os := by rw [(putE_os _ _ _).1]; rfl
  have hnxe : (putE (e.back fx) x.dst vx).nx = fx.nx := by rw [(putE_os _ _ _).2]; rfl
  rcases alc hay hvy with ⟨hfy, hvy'⟩ | ⟨d, rr, k, te, a1, a2, a3, a4, a5, a6⟩
  ·
   refine ⟨putE (e.back e.bare) y.dst vy, ⟨vy, e.bare, hvy' e hyl, hdy, EqE.refl _⟩, ?_⟩
   refine ⟨vx, fx, (hvx.loc (xl _ _ rfl)).1 (hb3' vy e.bare), hdx, fin _ _ ?_ ?_⟩
   ·
    rw [hfy, hbx]
   ·
    rw [hfy, hbx]
  ·
   rw [hose] at a4
   rcases alc hax hvx with ⟨hfx, hvx'⟩ | ⟨d2, rr2, k2, te2, b1, b2, b3, b4, b5, b6⟩
   ·
    have hle : lk e.os (rr.n + k) = some .unb := by rw [hfx] at a4; exact a4
    refine ⟨putE (e.back { e.bare with os := up e.os (rr.n + k) (.box te) }) y.dst vy, ⟨vy, _, a6 e hyl hle, hdy, EqE.refl _⟩, ?_⟩
    refine ⟨vx, _, hvx' _ (xl _ _ rfl), hdx, fin _ _ ?_ ?_⟩
    ·
     rw [hb3', a5, hose, hfx]; rfl
    ·
     rw [hb3', a5]; show e.nx = (putE (e.back fx) x.dst vx).nx; rw [hnxe, hfx]; rfl
   ·
    rw [a1] at b1
    cases b1
    have hne : rr.n + k2 ≠ rr.n + k := by
     intro hc
     have hk : k2 = k := by omega
     subst hk
     have := idx_inj a3 b3
     subst this
     exact a2' d b2 a2
    have hle : lk e.os (rr.n + k) = some .unb := by
     rw [b5] at a4
     rw [← a4]
     exact (lk_up_ne hne).symm
    refine ⟨putE (e.back { e.bare with os := up e.os (rr.n + k) (.box te) }) y.dst vy, ⟨vy, _, a6 e hyl hle, hdy, EqE.refl _⟩, ?_⟩
    have ho1 : (putE (e.back { e.bare with os := up e.os (rr.n + k) (.box te) }) y.dst vy).os = up e.os (rr.n + k) (.box te) := by rw [(putE_os _ _ _).1]; rfl
    have hx2 := b6 (putE (e.back { e.bare with os := up e.os (rr.n + k) (.box te) }) y.dst vy) (xl _ _ rfl) (by rw [ho1, lk_up_ne (Ne.symm hne)]; exact b4)
    refine ⟨vx, _, hx2, hdx, fin _ _ ?_ ?_⟩
    ·
     show up (putE _ _ _).os _ _ = _
     rw [ho1, a5]
     show _ = up (putE (e.back fx) x.dst vx).os _ _
     rw [hose, b5]
     exact up_comm _ _ _ (Ne.symm hne)
    ·
     show (putE _ _ _).nx = _
     rw [(putE_os _ _ _).2, a5]
     show e.nx = (putE (e.back fx) x.dst vx).nx
     rw [hnxe, b5]
     rfl
 case inl.inl.inr =>
  obtain ⟨hqc, hcs⟩ := hcon
  obtain ⟨W0, rfl, _, hWn⟩ := hW (.inr hqc)
  have hWn := hWn hqc
  rcases hcs with ⟨hrx, hcy⟩ | ⟨hcx, hry | hsy⟩
  ·
   -- x reads, y calls
   have hfx : fx = e.bare := (hvx.loc (e' := e) fun _ _ => rfl).2.2 (nwr hrx)
   subst hfx
   have hb : e.bare = (putE (e.back e.bare) x.dst vx).bare := by rw [hbx]; rfl
   have hy1 := p1 hb
   have hlow := (Val.con_low hqc hcy hy1).1
   have hext : Ext e.bare fy := by
    intro i ob hl _
    rcases hlow i (hid i ob hl) with h | ⟨k, ep, zs, h1, h2⟩
    ·
     exact .inl (h.trans hl)
    ·
     have hl : lk e.os i = some ob := hl
     rw [hl] at h1
     cases h1
     exact .inr ⟨k, ep, zs, rfl, h2⟩
   refine ⟨putE (e.back fy) y.dst vy, ⟨vy, fy, hy1, hdy, EqE.refl _⟩, ?_⟩
   have qq := Val.read hrx hvx (e' := putE (e.back fy) y.dst vy) (xl _ _ rfl) (by rw [hb3']; exact hext)
   refine ⟨vx, _, qq.2, hdx, fin _ _ ?_ ?_⟩
   ·
    show (putE (e.back fy) y.dst vy).os = fy.os
    rw [(putE_os _ _ _).1]; rfl
   ·
    show (putE (e.back fy) y.dst vy).nx = fy.nx
    rw [(putE_os _ _ _).2]; rfl
  ·
   -- x calls, y reads
   obtain ⟨hlow, _⟩ := Val.con_low hqc hcx hvx
   have qq := Val.readLow hWn hry hvy (e' := e) hyl (by
    intro i hi
    rw [hbx]
    rcases hlow i (by omega) with h | ⟨k, ep, zs, h1, h2⟩
    ·
     exact .inl h.symm
    ·
     exact .inr ⟨k, ep, zs, .inr ⟨h2, h1⟩⟩)
   have hfy := qq.1
   refine ⟨putE (e.back e.bare) y.dst vy, ⟨vy, e.bare, qq.2, hdy, EqE.refl _⟩, ?_⟩
   refine ⟨vx, fx, (hvx.loc (xl _ _ rfl)).1 (hb3' vy e.bare), hdx, fin _ _ ?_ ?_⟩
   ·
    rw [hfy, hbx]
   ·
    rw [hfy, hbx]
  ·
   -- x calls, y stores
   obtain ⟨hlow, _⟩ := Val.con_low hqc hcx hvx
   rcases Val.store_at hWn hsy hvy with ⟨hfy, hst⟩ | ⟨i, xs, ys, hi0, hiw, hil, hfy, hst⟩
   ·
    refine ⟨putE (e.back e.bare) y.dst vy, ⟨vy, e.bare, hst e hyl, hdy, EqE.refl _⟩, ?_⟩
    refine ⟨vx, fx, (hvx.loc (xl _ _ rfl)).1 (hb3' vy e.bare), hdx, fin _ _ ?_ ?_⟩
    ·
     rw [hfy, hbx]
    ·
     rw [hfy, hbx]
   ·
    have hil' : lk fx.os i = some (.box xs) := by
     have : (putE (e.back fx) x.dst vx).os = fx.os := by rw [(putE_os _ _ _).1]; rfl
     rw [← this]
     exact hil
    have hle : lk e.os i = some (.box xs) := by
     rcases hlow i (by omega) with h | ⟨k, ep, zs, h1, h2⟩
     ·
      rw [← h]; exact hil'
     ·
      rw [hil'] at h2; cases h2
    refine ⟨putE (e.back (e.bare.reb i ys)) y.dst vy, ⟨vy, e.bare.reb i ys, hst e hyl hle, hdy, EqE.refl _⟩, ?_⟩
    have hx2 := Val.con_reb hWn hqc hcx hvx (ys := ys) hle (by omega) hiw (xl (e.back (e.bare.reb i ys)) vy rfl) (hb3' vy _)
    refine ⟨vx, fx.reb i ys, hx2, hdx, fin _ _ ?_ ?_⟩
    ·
     rw [hfy, hbx]; rfl
    ·
     rw [hfy, hbx]; rfl
 case inl.inl.inl.inr =>
  obtain ⟨rfl, hw⟩ := hw
  obtain ⟨W0, rfl, hlw, _⟩ := hW (.inl rfl)
  have hlw := hlw rfl
  have hb2 : (putE (e.back fy) y.dst vy).bare = ⟨.e, fy.os, fy.nx⟩ := by
   unfold Env.bare
   rw [(putE_os _ _ _).1, (putE_os _ _ _).2]
   rfl
  rcases hw with ⟨hrx, hsy⟩ | ⟨hsx, hry⟩
  ·
   have hfx : fx = e.bare := (hvx.loc (e' := e) fun _ _ => rfl).2.2 (nwr hrx)
   subst hfx
   have hb : e.bare = (putE (e.back e.bare) x.dst vx).bare := by rw [hbx]; rfl
   have hy1 := p1 hb
   have hext : BoxW W0.ws e.bare fy := Val.storeW hsy hy1
   refine ⟨putE (e.back fy) y.dst vy, ⟨vy, fy, hy1, hdy, EqE.refl _⟩, ?_⟩
   have qq := Val.readW hlw hrx hvx (e' := putE (e.back fy) y.dst vy) (xl _ _ rfl) (by rw [hb2]; exact hext)
   refine ⟨vx, _, qq.2, hdx, fin _ _ ?_ ?_⟩
   ·
    show (putE (e.back fy) y.dst vy).os = fy.os
    rw [(putE_os _ _ _).1]; rfl
   ·
    show (putE (e.back fy) y.dst vy).nx = fy.nx
    rw [(putE_os _ _ _).2]; rfl
  ·
   have hext : BoxW W0.ws e.bare fx := Val.storeW hsx hvx
   have qq := Val.readW hlw hry hvy (e' := e) hyl (by rw [hbx]; exact hext.symm)
   have hfy := qq.1
   refine ⟨putE (e.back e.bare) y.dst vy, ⟨vy, e.bare, qq.2, hdy, EqE.refl _⟩, ?_⟩
   have hb3 : (putE (e.back e.bare) y.dst vy).bare = e.bare := by
    unfold Env.bare
    rw [(putE_os _ _ _).1, (putE_os _ _ _).2]
    rfl
   refine ⟨vx, fx, (hvx.loc (xl _ _ rfl)).1 hb3, hdx, fin _ _ ?_ ?_⟩
   ·
    rw [hfy, hbx]
   ·
    rw [hfy, hbx]
 case inl.inl.inl.inl.inr =>
  have hnx : nwQ q x.op = false := by
   generalize x.op = op at hrx
   cases op <;> first | (cases q <;> rfl) | cases hrx
  have hfx : fx = e.bare := (hvx.loc (e' := e) fun _ _ => rfl).2.2 hnx
  subst hfx
  have hb : e.bare = (putE (e.back e.bare) x.dst vx).bare := by rw [hbx]; rfl
  have hy1 := p1 hb
  have hext : Ext e.bare fy := Val.make hmy hid hy1
  have hb2 : (putE (e.back fy) y.dst vy).bare = ⟨.e, fy.os, fy.nx⟩ := by
   unfold Env.bare
   rw [(putE_os _ _ _).1, (putE_os _ _ _).2]
   rfl
  refine ⟨putE (e.back fy) y.dst vy, ⟨vy, fy, hy1, hdy, EqE.refl _⟩, ?_⟩
  have qq := Val.read hrx hvx (e' := putE (e.back fy) y.dst vy) (xl _ _ rfl) (by rw [hb2]; exact hext)
  refine ⟨vx, _, qq.2, hdx, fin _ _ ?_ ?_⟩
  ·
   show (putE (e.back fy) y.dst vy).os = fy.os
   rw [(putE_os _ _ _).1]; rfl
  ·
   show (putE (e.back fy) y.dst vy).nx = fy.nx
   rw [(putE_os _ _ _).2]; rfl
 by_cases hnx : nwQ q x.op = false
 ·
  -- x leaves the objects alone
  have hfx : fx = e.bare := (hvx.loc (e' := e) fun _ _ => rfl).2.2 hnx
  subst hfx
  have hb : e.bare = (putE (e.back e.bare) x.dst vx).bare := by rw [hbx]; rfl
  refine ⟨putE (e.back fy) y.dst vy, ⟨vy, fy, p1 hb, hdy, EqE.refl _⟩, ?_⟩
  by_cases hny : nwQ q y.op = false
  ·
   have hfy : fy = (putE (e.back e.bare) x.dst vx).bare := p3 hny
   have hfy' : fy = e.bare := by rw [hfy, ← hb]
   subst hfy'
   have hb2 : (putE (e.back e.bare) y.dst vy).bare = e.bare := by
    unfold Env.bare
    rw [(putE_os _ _ _).1, (putE_os _ _ _).2]
    rfl
   exact ⟨vx, e.bare, (hvx.loc (xl _ _ rfl)).1 hb2, hdx, fin _ _ rfl rfl⟩
  ·
   have hpx : pureOp T x.op = true := by
    rcases hc2 with h | h
    ·
     exact absurd h hny
    ·
     exact h
   have qq := (hvx.loc (xl (e.back fy) vy rfl)).2.1 hpx
   refine ⟨vx, _, qq.2, hdx, fin _ _ ?_ ?_⟩
   ·
    show (putE (e.back fy) y.dst vy).os = fy.os
    rw [(putE_os _ _ _).1]; rfl
   ·
    show (putE (e.back fy) y.dst vy).nx = fy.nx
    rw [(putE_os _ _ _).2]; rfl
 ·
  -- then y is pure
  have hpy : pureOp T y.op = true := by
   rcases hc1 with h | h
   ·
    exact absurd h hnx
   ·
    exact h
  obtain ⟨q1, q2⟩ := p2 hpy
  refine ⟨putE (e.back e.bare) y.dst vy, ⟨vy, e.bare, q2, hdy, EqE.refl _⟩, ?_⟩
  have hb2 : (putE (e.back e.bare) y.dst vy).bare = e.bare := by
   unfold Env.bare
   rw [(putE_os _ _ _).1, (putE_os _ _ _).2]
   rfl
  refine ⟨vx, fx, (hvx.loc (xl _ _ rfl)).1 hb2, hdx, fin _ _ ?_ ?_⟩
  ·
   rw [q1, hbx]
  ·
   rw [q1, hbx]
theorem insert {w : Bool} {n0 : Nat} (hR : R.isSome = true) (hW : w = true ∨ q.isCon = true → ∃ W0, W = some W0 ∧ (w = true → W0.lw = true) ∧ (q.isCon = true → W0.n = some n0)) {I : Env → Prop} (hI : ∀ e, I e → IdsOk e ∧ n0 ≤ e.nx) (hS : ∀ o e e2, Step1 P T q R W N ops o e e2 → I e → I e2) {y : Oper} {post : List Oper} : ∀ {pre : List Oper} {e ef : Env}, (∀ x ∈ pre, indepB T q w ops x y = true ∧ (q.isDyn = true → rdOp x = true → callV y.op = true → ∀ rr, R = some rr → memO rr.rs x.dst = true)) → I e → RunL P T q R W N ops (pre ++ y :: post) e ef → ∃ e1, Step1 P T q R W N ops y e e1 ∧ RunL P T q R W N ops (pre ++ post) e1 ef
 | [], e, ef, _, _, .cons h1 h2 => ⟨_, h1, h2⟩
 | x :: pre, e, ef, hi, hid, .cons h1 h2 => by
  obtain ⟨e1, h3, h4⟩ := insert hR hW hI hS (fun z hz => hi z (by simp [hz])) (hS _ _ _ h1 hid) h2
  obtain ⟨e1', h5, h6⟩ := swap hR hW (hi x (by simp)).1 (hi x (by simp)).2 (hI _ hid).1 (hI _ hid).2 h1 h3
  exact ⟨e1', h5, .cons h6 h4⟩
def CallW (P : Program) (T : Tys) (q : CM) (R : Option RR) {α : Type} (call : CallC α) : Prop :=
 ∀ {o : Oper} {e : Env} {k : List Cp → Env → Option α} {r : α} {c : Call} {f : Operand} {fn : Nat} {caps : List Nat} {cs : List Cp}, o.op = .call c → c.callee = .value f → e.ev f = .c (.a (.fn fn caps)) → cps? (c.args.toList.map e.ev) = some cs →
  call (rdChk T R e.bare) fn (cs ++ caps.map fun o => .a (.box o 0)) e.bare k = some r → ∃ rs f1, Do1 P T q R o e (avOf rs) f1 ∧ k rs f1 = some r
theorem CallOk.w {α : Type} {call : CallC α} (h : CallOk P call) : CallW P T .any R call := by
 intro o e k r c f fn caps cs hc hcv hfn hcs hev
 obtain ⟨rs, e', hk, hD, _⟩ := h _ _ _ _ _ _ hev
 exact ⟨rs, e', .inl rfl hc hcv hfn hcs hD, hk⟩
theorem CallOk.d {α : Type} {call : CallC α} (h : CallOk P call) : CallW P T .dyn R call := by
 intro o e k r c f fn caps cs hc hcv hfn hcs hev
 obtain ⟨rs, e', hk, hD, hchk | ⟨ks, ds, rs0, h1, h2, h3, h4⟩⟩ := h _ _ _ _ _ _ hev
 ·
  exact ⟨rs, e', .dyn rfl hc hcv hfn hcs hD hchk, hk⟩
 ·
  subst h3
  subst h4
  exact ⟨_, _, .con (.inr rfl) hc hcv hfn hcs hD.1 h1 h2 rfl rfl, hk⟩
def QuietOk {α : Type} (P : Program) (call : CallK α) : Prop :=
 ∀ (f : Nat) (args : List Cp) (e : Env) (k : List Cp → Env → Option α) (r : α), call f args e k = some r → ∃ ks ds rs, fnB P f = true ∧ dats e ks args = some ds ∧ CallsTo P f ds rs ∧ rs.all Rs.quiet = true ∧ k (rs.map Rs.cp) e = some r
def ConOk {α : Type} (P : Program) (call : CallK α) : Prop :=
 ∀ (f : Nat) (args : List Cp) (e : Env) (k : List Cp → Env → Option α) (r : α), call f args e k = some r → ∃ ks ds rs, fnB P f = true ∧ dats e ks args = some ds ∧ CallsTo P f ds rs ∧ k (e.impE args rs).1 (e.impE args rs).2 = some r
theorem ConOk.w {α : Type} {call : CallK α} (h : ConOk P call) : CallW P T .con R (fun _ => call) := by
 intro o e k r c f fn caps cs hc hcv hfn hcs hev
 obtain ⟨ks, ds, rs, h1, h2, h3, hk⟩ := h _ _ _ _ _ hev
 exact ⟨_, _, .con (.inl rfl) hc hcv hfn hcs h1 h2 h3 rfl rfl, hk⟩
theorem QuietOk.w {α : Type} {call : CallK α} (h : QuietOk P call) : CallW P T .quiet R (fun _ => call) := by
 intro o e k r c f fn caps cs hc hcv hfn hcs hev
 obtain ⟨ks, ds, rs, h1, h2, h3, h4, hk⟩ := h _ _ _ _ _ hev
 exact ⟨_, e.bare, .call hc hcv hfn hcs h1 h2 h3 h4, hk⟩
theorem evOps_run {α : Type} {call : CallC α} (hcall : CallW P T q R call) {k : Env → Option α} {r : α} : ∀ (l : List Oper) (e : Env), evOps T N R W call ops l e k = some r → ∃ ef, RunL P T q R W N ops l e ef ∧ k ef = some r
 | [], e, h => ⟨e, .nil (EqE.refl e), h⟩
 | o :: l, e, h => by
  have step : ∀ {e : Env}, evStep T N R call o e (fun e' => evOps T N R W call ops l e' k) = some r → ∃ v f ef, Do1 P T q R o e v f ∧ dstOk N o.dst ∧ RunL P T q R W N ops l (putE (e.back f) o.dst v) ef ∧ k ef = some r := by
   intro e h
   unfold evStep at h
   split at h
   ·
    rename_i f args hcq
    have hop : ∃ c, o.op = .call c ∧ c.callee = .value f ∧ c.args = args := by
     split at hcq
     ·
      rename_i c hc
      split at hcq
      ·
       rename_i f' hf'
       simp only [Option.some.injEq, Prod.mk.injEq] at hcq
       obtain ⟨rfl, rfl⟩ := hcq
       exact ⟨c, hc, hf', rfl⟩
      ·
       cases hcq
     ·
      cases hcq
    obtain ⟨c, hc, hcv, rfl⟩ := hop
    split at h
    ·
     rename_i fn caps cs hfn hcs
     obtain ⟨rs, f1, hd1, hk⟩ := hcall hc hcv hfn hcs h
     obtain ⟨hd, hk⟩ := setK_put hk
     obtain ⟨ef, h1, h2⟩ := evOps_run hcall l _ hk
     exact ⟨_, f1, ef, hd1, hd, h1, h2⟩
    ·
     cases h
   ·
    rename_i hcq
    split at h
    ·
     rename_i b x y hop
     have h : Env.setK N (e.back (cond b x.2 y.2)) o.dst (cond b x.1 y.1) (fun e' => evOps T N R W call ops l e' k) = some r := by
      cases b <;> exact h
     obtain ⟨hd, hk⟩ := setK_put h
     obtain ⟨ef, h1, h2⟩ := evOps_run hcall l _ hk
     exact ⟨_, _, ef, .next hop rfl rfl, hd, h1, h2⟩
    split at h
    ·
     cases h
    ·
     rename_i v e1 halc
     obtain ⟨hd, hk⟩ := setK_put h
     obtain ⟨ef, h1, h2⟩ := evOps_run hcall l _ hk
     refine ⟨v, e1, ef, ?_, hd, h1, h2⟩
     unfold alcA at halc
     split at halc
     ·
      cases halc
     ·
      rename_i n ds
      split at halc
      ·
       rename_i t hop
       split at halc
       ·
        rename_i d hdst
        split at halc
        ·
         rename_i te k hte hidx
         split at halc
         ·
          rename_i hlk
          simp only [Option.some.injEq, Prod.mk.injEq] at halc
          obtain ⟨rfl, rfl⟩ := halc
          exact .alc rfl hop hdst hte hidx hlk
         ·
          cases halc
        ·
         cases halc
       ·
        cases halc
      ·
       cases halc
    rename_i halc
    split at h
    ·
     cases h
    ·
     rename_i b v e1 hop
     cases b
     ·
      cases h
     ·
      simp only [cond_true] at h
      obtain ⟨hd, hk⟩ := setK_put h
      obtain ⟨ef, h1, h2⟩ := evOps_run hcall l _ hk
      refine ⟨v, e1, ef, .plain (fun c f hc hf => ?_) (fun hR => ?_) hop, hd, h1, h2⟩
      ·
       rw [hc] at hcq
       simp [hf] at hcq
      ·
       unfold alcA at halc
       split at halc
       ·
        cases hR
       ·
        split at halc
        ·
         exfalso
         repeat' split at halc
         all_goals cases halc
        ·
         rename_i hno
         generalize o.op = op at hno
         cases op <;> first | rfl | exact absurd rfl (hno _)
  simp only [evOps] at h
  split at h
  ·
   rename_i hg
   have hck : chkWR W R e o = true := by
    cases q : chkWR W R e o
    ·
     rw [q] at h; cases h
    ·
     rfl
   have h := cond_get h
   obtain ⟨v, f, ef, h1, h2, h3, h4⟩ := step h
   exact ⟨ef, .cons ⟨v, f, .plain hg hck h1, h2, EqE.refl _⟩ h3, h4⟩
  ·
   rename_i j want hg
   split at h
   ·
    cases h
   ·
    rename_i t ht
    split at h
    ·
     rename_i v htv
     have hlit : ∀ b, v = b → EqE { e with tm := e.tm.set t (.at (.d .bool b)) } e ∨ True := fun _ _ => .inr trivial
     have main : ∀ b, v = b → cond (b == want) (cond (chkWR W R e o) (evStep T N R call o { e with tm := e.tm.set t (.at (.d .bool b)) } fun e' => evOps T N R W call ops l e' k) none) (Env.setK N { e with tm := e.tm.set t (.at (.d .bool b)) } o.dst (.t []) fun e' => evOps T N R W call ops l e' k) = some r →
       ∃ ef, RunL P T q R W N ops (o :: l) e ef ∧ k ef = some r := by
      intro b hb hm
      subst hb
      have heq : EqE { e with tm := e.tm.set t (.at (.d .bool v)) } e := by
       refine ⟨rfl, rfl, fun u => ?_⟩
       show (e.tm.set t _).get u = e.tm.get u
       by_cases e1 : t = u
       ·
        subst e1
        rw [htv]
        exact Tr.set_get_same htv
       ·
        exact Tr.get_set_ne _ _ e1
      cases hvw : (v == want)
      ·
       rw [hvw] at hm
       simp only [cond_false] at hm
       obtain ⟨hd, hk⟩ := setK_put hm
       obtain ⟨ef, h1, h2⟩ := evOps_run hcall l _ hk
       refine ⟨ef, .cons ⟨.t [], e.bare, .no hg ht htv (by simpa using hvw), hd, ?_⟩ h1, h2⟩
       exact back_eq (N := N) heq e.bare o.dst (.t []) hd
      ·
       rw [hvw] at hm
       simp only [cond_true] at hm
       have hck : chkWR W R e o = true := by
        cases q : chkWR W R e o
        ·
         rw [q] at hm; cases hm
        ·
         rfl
       have hm := cond_get hm
       have hvw' : v = want := by simpa using hvw
       subst hvw'
       obtain ⟨v', f, ef, h1, h2, h3, h4⟩ := step hm
       exact ⟨ef, .cons ⟨v', f, .yes hg ht htv hck (h1.eq heq), h2, back_eq heq f _ _ h2⟩ h3, h4⟩
     cases v
     ·
      exact main false rfl h
     ·
      exact main true rfl h
    ·
     rename_i vs htv
     obtain ⟨hd, hk⟩ := setK_put h
     obtain ⟨ef, h1, h2⟩ := evOps_run hcall l _ hk
     exact ⟨ef, .cons ⟨.t [], e.bare, .undef hg ht htv, hd, EqE.refl _⟩ h1, h2⟩
    ·
     cases h
end
end Go.VI
namespace Go.VI
open Go Go.RowKit
set_option linter.unusedVariables false
set_option linter.unusedSimpArgs false
section
variable {P : Program} {B : Nat} {A : Nat → Prop} {w₀ : World} {lo : Nat} {sv : Sv'} {T : Tys} {q : CM} {R : Option RR} {w : Bool} {W : Option WH} {N n0 : Nat} {ops : Array Oper}
theorem AVR.undef (s : St) : AVR s (.t []) undef := ⟨#[], rfl, .nil⟩
theorem Rel.noBool {e : Env} {a : Act} {s : St} (h : Rel B A w₀ lo sv N e a s) {ops : Array Oper} {j t : Nat} {vs : List Cp} (ht : (ops[j]?).bind (·.dst) = some t) (htv : e.tm.get t = .t vs) : yielded ops a.tmps j = none := by
 obtain ⟨l, hl, _⟩ : AVR s (.t vs) (a.tmps.getD t undef) := by rw [← htv]; exact h.tm t
 unfold yielded
 rw [ht, Option.bind_some]
 rw [Array.getD_eq_getD_getElem?] at hl
 cases hq : a.tmps[t]? with
 | none => rfl
 | some v =>
  rw [hq] at hl
  simp only [Option.getD_some] at hl
  rw [hl]
theorem Rel.eqE {e e' : Env} {a : Act} {s : St} (h : Rel B A w₀ lo sv N e a s) (he : EqE e e') : Rel B A w₀ lo sv N e' a s :=
 ⟨⟨h.at_.g, h.at_.os.trans he.os, h.at_.nx.trans he.nx⟩, fun t => by rw [← he.tm]; exact h.tm t, h.sv, h.df, h.sz, by rw [← he.nx]; exact h.lo⟩
theorem Rel.drawn {e : Env} {a : Act} {s : St} (h : Rel B A w₀ lo sv N e a s) (d : Nat) : Rel B A w₀ lo sv N e a { s with w := { s.w with drawn := d } } := by
 have E : Ev s { s with w := { s.w with drawn := d } } := ⟨fun b hb => ⟨hb, rfl⟩, Nat.le_refl _, fun o _ hx => ⟨hx, fun _ hb => hb⟩, fun o k ep xs _ _ hx => ⟨xs, hx, rfl, rfl, rfl⟩, ⟨rfl, rfl⟩⟩
 refine ⟨⟨⟨?_, h.at_.g.size, h.at_.g.okb, h.at_.g.own, h.at_.g.inj, fun o ob ho => ?_, h.at_.g.nx, h.at_.g.ep, h.at_.g.hid⟩, h.at_.os, h.at_.nx⟩, h.tm.ev E, h.sv.ev E, h.df, h.sz, h.lo⟩
 ·
  have := h.at_.g.below
  exact ⟨this.os, this.tape, this.output, this.size, this.block⟩
 ·
  exact ObR.ev E rfl rfl (fun b _ => rfl) (h.at_.g.obs o ob ho)
theorem setK_of {e : Env} {d : Option Nat} {v : AV} (h : dstOk N d) : e.setK N d v some = some (putE e d v) := by
 cases d with
 | none => rfl
 | some t =>
  have := h t rfl
  simp only [Env.setK, putE]
  rw [show (Nat.blt t N && Nat.ble N 2000) = true by simp [Nat.blt_eq, this.1, this.2]]
  rfl
theorem quiet_all : ∀ {rs : List Rs}, rs.all Rs.quiet = true → rs.all Rs.safe = true ∧ ∀ e : Env, e.imp rs = (rs.map Rs.cp, e)
 | [], _ => ⟨rfl, fun _ => rfl⟩
 | x :: l, h => by
  simp only [List.all_cons, Bool.and_eq_true] at h
  obtain ⟨h1, h2⟩ := quiet_all h.2
  cases x with
  | dat k x =>
   refine ⟨?_, fun e => ?_⟩
   ·
    simp only [List.all_cons, Bool.and_eq_true]
    exact ⟨h.1, h1⟩
   ·
    simp only [Env.imp, h2]
    rfl
  | own k xs => exact absurd h.1 (by simp [Rs.quiet])
theorem zero_key {s : St} (hT : tysB P T = true) {t : Nat} {te : TE} (ht : lk T t = some te) : ∃ i z, P.info? t = some i ∧ i.zero = some z ∧ F2 (AR s) te.z z.cells.toList := by
 have htb := tysB_lk hT ht
 cases te with
 | one k z =>
  obtain ⟨i, v, h1, _, h2, h3, h4⟩ := (one_of htb).info
  exact ⟨i, v, h1, h2, by rw [h3.1]; exact .cons (h4 s) .nil⟩
 | agg fs n k z =>
  obtain ⟨i, v, h1, _, h2, _, h4⟩ := (agg_of htb).info
  exact ⟨i, .agg v, h1, h2, h4 s⟩
 | arr et len n k z =>
  obtain ⟨i, v, h1, _, h2, _, h4⟩ := (arr_of htb).info
  exact ⟨i, .agg v, h1, h2, h4 s⟩
theorem Rel.resv : ∀ (ds : List Nat) {e : Env} {a : Act} {s : St}, Rel B A w₀ lo sv N e a s → ∃ s', s'.w = s.w ∧ Rel B A w₀ lo sv N (e.resv ds) a s'
 | [], e, a, s, h => ⟨s, rfl, h⟩
 | _ :: ds, e, a, s, h => by
  have E := St.addU_ev h.at_.g
  have h1 : Rel B A w₀ lo sv N (e.new .unb) a s.addU := ⟨⟨h.at_.g.addU, by show (s.nx, Ob.unb) :: s.os = (e.nx, Ob.unb) :: e.os; rw [h.at_.nx, h.at_.os], by show s.nx + 1 = e.nx + 1; rw [h.at_.nx]⟩, h.tm.ev E, h.sv.ev E, h.df, h.sz, Nat.le_succ_of_le h.lo⟩
  obtain ⟨s', h2, h3⟩ := Rel.resv ds h1
  exact ⟨s', h2, h3⟩
theorem resv_nx : ∀ (ds : List Nat) (e : Env), e.nx ≤ (e.resv ds).nx
 | [], e => Nat.le_refl _
 | _ :: ds, e => Nat.le_trans (Nat.le_succ _) (resv_nx ds (e.new .unb))
theorem Do1.wp (hT : tysB P T = true) {o : Oper} {e f : Env} {v : AV} (hd : Do1 P T q R o e v f) (hdst : dstOk N o.dst) {a : Act} {s : St} (h : Rel B A w₀ lo sv N e a s) {Q : Exit → Act → World → Prop} :
  o.wp P a s.w (fun a' w' => ∃ s', s'.w = w' ∧ Rel B A w₀ lo sv N (putE (e.back f) o.dst v) a' s') Q := by
 cases hd with
 | @alc t te d rr k hR hop hdd hte hidx hlk =>
  have hlk' : lk s.os (rr.n + k) = some .unb := by rw [h.at_.os]; exact hlk
  obtain ⟨i, z, hi, hz, hf⟩ := zero_key (s := s) hT hte
  have E := St.born_ev (xs := te.z) (cells := z.cells) (T := t) h.at_.g hlk'
  have g1 := h.at_.g.born (xs := te.z) (cells := z.cells) (T := t) hlk' hf
  have h2 : At B A w₀ (e.back { e.bare with os := up e.bare.os (rr.n + k) (.box te.z) }) (s.born B A (rr.n + k) (.box te.z) z.cells t) := ⟨g1, by show up s.os _ _ = up e.os _ _; rw [h.at_.os], h.at_.nx⟩
  have hv : AVR (s.born B A (rr.n + k) (.box te.z) z.cells t) (.at (.box (rr.n + k) 0)) (.pointer (some ⟨s.w.heap.size, 0, none⟩)) :=
   .inr ⟨val1_pointer _, h.at_.g.nx _ _ hlk', fun _ => ⟨_, by simp [St.born], rfl⟩⟩
  obtain ⟨e2, hrel, hnx2, hk⟩ := h.put h2 rfl E (Nat.le_refl _) hv (setK_of (e := e.back { e.bare with os := up e.bare.os (rr.n + k) (.box te.z) }) (v := .at (.box (rr.n + k) 0)) hdst)
  cases hk
  unfold Oper.wp
  have hrun : (execOp a.eval o).run P s.w = .ok (.value (.pointer (some ⟨s.w.heap.size, 0, none⟩))) (s.w.alloc (.cells z.cells t)) := by
   simp [execOp, hop, Instr.alloc, zeroValue, typeInfo, hi, hz, newVar, newRow]
  rw [hrun]
  exact ⟨_, rfl, hrel⟩
 | plain h1 _ hop =>
  obtain ⟨s', val, h1, h2, h3, h4, h5⟩ := absOp_nx hT h hop
  obtain ⟨e2, hrel, hnx2, hk⟩ := h.put h2 rfl h3 h5 h4 (setK_of (e := e.back f) (v := v) hdst)
  cases hk
  unfold Oper.wp
  rcases h1 with h1 | ⟨h1, rfl⟩
  ·
   rw [h1]
   exact ⟨s', rfl, hrel⟩
  ·
   rw [h1]
   exact ⟨s', rfl, hrel⟩
 | @next b x y v' f' hop hv hf =>
  subst hv
  subst hf
  obtain ⟨s', val, h1, h2, h3, h4, h5⟩ := nextA_nx (P := P) h hop
  obtain ⟨e2, hrel, hnx2, hk⟩ := h.put h2 rfl h3 h5 h4 (setK_of (e := e.back (cond b x.2 y.2)) (v := cond b x.1 y.1) hdst)
  cases hk
  unfold Oper.wp
  rcases h1 with h1 | ⟨h1, rfl⟩
  ·
   rw [h1]
   exact ⟨s', rfl, hrel⟩
  ·
   rw [h1]
   exact ⟨s', rfl, hrel⟩
 | @call c f fn caps cs ks ds rs hc hcv hfn hcs hfb hds hcalls hq =>
  refine callD_wp hc hcv hfn hcs ⟨hfb, fun B A w₀ sv s vs hat hsv ha => ?_⟩ h (Q := Q) (rs := rs.map Rs.cp) (e1 := e.bare) fun v s1 hr hv => ?_
  ·
   have hD := dcall_core (sv := sv) (n := e.bare.nx) hds hcalls hat hsv ha
   refine hD.mono fun en w' hen => ?_
   obtain ⟨os, e1, s1, rfl, hw1, hat1, hev1, he1, hf1⟩ := hen
   obtain ⟨q1, q2⟩ := quiet_all hq
   simp only [Env.impE, q1, cond_true, q2] at he1 hf1
   subst he1
   exact ⟨_, s1, rfl, hw1, hat1, hsv.ev hev1, avOf_R hf1, Nat.le_refl _⟩
  ·
   obtain ⟨e2, hrel, hnx2, hk⟩ := hr.put' hv (setK_of hdst)
   cases hk
   exact ⟨s1, rfl, hrel⟩
 | @con c f fn caps cs ks ds rs v' f1 hq hc hcv hfn hcs hfb hds hcalls hv hf1 =>
  subst hv
  subst hf1
  refine callD_wp hc hcv hfn hcs ⟨hfb, fun B A w₀ sv s vs hat hsv ha => ?_⟩ h (Q := Q) (rs := (e.bare.impE (cs ++ caps.map fun o => .a (.box o 0)) rs).1) (e1 := (e.bare.impE (cs ++ caps.map fun o => .a (.box o 0)) rs).2) fun v s1 hr hv => ?_
  ·
   have hD := dcall_core (sv := sv) (n := e.bare.nx) hds hcalls hat hsv ha
   refine hD.mono fun en w' hen => ?_
   obtain ⟨os, e1, s1, rfl, hw1, hat1, hev1, he1, hf1⟩ := hen
   subst he1
   exact ⟨_, s1, rfl, hw1, hat1, hsv.ev hev1, avOf_R hf1, impE_nx _ _ _⟩
  ·
   obtain ⟨e2, hrel, hnx2, hk⟩ := hr.put' hv (setK_of hdst)
   cases hk
   exact ⟨s1, rfl, hrel⟩
 | @dyn c f fn caps cs rs e1 hq hc hcv hfn hcs hD _ =>
  refine callD_wp hc hcv hfn hcs hD h (Q := Q) fun v s1 hr hv => ?_
  obtain ⟨e2, hrel, hnx2, hk⟩ := hr.put' hv (setK_of hdst)
  cases hk
  exact ⟨s1, rfl, hrel⟩
 | @inl c f fn caps cs rs e1 hq hc hcv hfn hcs hD =>
  refine callD_wp hc hcv hfn hcs hD h (Q := Q) fun v s1 hr hv => ?_
  obtain ⟨e2, hrel, hnx2, hk⟩ := hr.put' hv (setK_of hdst)
  cases hk
  exact ⟨s1, rfl, hrel⟩
theorem Oper.wp_ex {o : Oper} {a : Act} {w : World} {R : Act → World → Prop} (h : o.wp P a w R fun _ _ _ => False) : ∃ a' w', R a' w' := by
 unfold Oper.wp at h
 generalize (execOp a.eval o).run P w = r at h
 cases r with
 | ok n w' =>
  cases n with
  | value v => exact ⟨_, _, h⟩
  | skip => exact ⟨_, _, h⟩
  | «defer» d => exact ⟨_, _, h⟩
  | enter f args =>
   obtain ⟨e, w'', fr, h1, _⟩ := h []
   cases e with
   | returned v => exact ⟨_, _, h1⟩
   | panicked c => exact h1.elim
   | outgrown =>
    obtain ⟨_, _, hf⟩ := h1
    exact hf.elim
  | row row args =>
   obtain ⟨v, w'', h1, _⟩ := h (Frame.enter P 0 #[] .normal) []
   exact ⟨_, _, h1⟩
  | _ => exact h.elim
 | halt x w' => cases x <;> exact h.elim
theorem Step1.ex (hT : tysB P T = true) {o : Oper} {e e2 : Env} (hs : Step1 P T q R W N ops o e e2) {a : Act} {s : St} (h : Rel B A w₀ lo sv N e a s) : ∃ a' s', Rel B A w₀ lo sv N e2 a' s' := by
 obtain ⟨v, f, hv, hd, he⟩ := hs
 have dn : Do1 P T q R o e v f → ∃ a' s', Rel B A w₀ lo sv N e2 a' s' := fun h2 => by
  obtain ⟨a', w', s', _, hr⟩ := Oper.wp_ex (h2.wp hT hd h)
  exact ⟨a', s', hr.eqE he.symm⟩
 cases hv with
 | plain hg _ h2 => exact dn h2
 | yes _ _ _ _ h2 => exact dn h2
 | no _ _ _ _ =>
  obtain ⟨e3, hrel, _, hk⟩ := h.put' (val := Go.undef) (AVR.undef _) (setK_of (e := e) (v := .t []) hd)
  cases hk
  exact ⟨_, s, hrel.eqE he.symm⟩
 | undef _ _ _ =>
  obtain ⟨e3, hrel, _, hk⟩ := h.put' (val := Go.undef) (AVR.undef _) (setK_of (e := e) (v := .t []) hd)
  cases hk
  exact ⟨_, s, hrel.eqE he.symm⟩
theorem Step1.wp (hT : tysB P T = true) {i : Nat} {o : Oper} (ho : ops[i]? = some o) {e e2 : Env} (hs : Step1 P T q R W N ops o e e2) {a : Act} {s : St} (h : Rel B A w₀ lo sv N e a s) {Q : Exit → Act → World → Prop} :
  wpOp P ops Q i (fun a' w' => ∃ s', s'.w = w' ∧ Rel B A w₀ lo sv N e2 a' s') a s.w := by
 obtain ⟨v, f, hv, hd, he⟩ := hs
 unfold wpOp
 rw [ho]
 simp only
 have fin : ∀ a' w', (∃ s', s'.w = w' ∧ Rel B A w₀ lo sv N (putE (e.back f) o.dst v) a' s') → ∃ s', s'.w = w' ∧ Rel B A w₀ lo sv N e2 a' s' := by
  rintro a' w' ⟨s', h1, h2⟩
  exact ⟨s', h1, h2.eqE he.symm⟩
 cases hv with
 | plain hg _ h2 =>
  rw [if_pos (by unfold Region.wanted; rw [hg])]
  exact .inl (Oper.wp_mono fin (h2.wp hT hd h))
 | @yes j t b _ _ hg ht htv _ h2 =>
  have hy : yielded ops a.tmps j = some b := by
   unfold yielded
   rw [ht]
   simp [h.bool htv]
  rw [if_pos (by unfold Region.wanted; rw [hg]; simp [hy])]
  exact .inl (Oper.wp_mono fin (h2.wp hT hd h))
 | @no j t b want hg ht htv hne =>
  have hy : yielded ops a.tmps j = some b := by
   unfold yielded
   rw [ht]
   simp [h.bool htv]
  rw [if_neg (by unfold Region.wanted; rw [hg]; simp [hy, hne])]
  obtain ⟨e3, hrel, _, hk⟩ := h.put' (val := undef) (AVR.undef _) (setK_of (e := e) (v := .t []) hd)
  cases hk
  exact fin _ _ ⟨s, rfl, hrel⟩
 | @undef j t l want hg ht htv =>
  have hy := h.noBool ht htv
  rw [if_neg (by unfold Region.wanted; rw [hg]; simp [hy])]
  obtain ⟨e3, hrel, _, hk⟩ := h.put' (val := undef) (AVR.undef _) (setK_of (e := e) (v := .t []) hd)
  cases hk
  exact fin _ _ ⟨s, rfl, hrel⟩
def Left (ops : Array Oper) (ls : Array Bool) : List Nat := (List.range ops.size).filter fun i => !ls.getD i true
structure Closed (ops : Array Oper) (ls : Array Bool) : Prop where
 sz : ls.size = ops.size
 up : ∀ i o, ops[i]? = some o → ls.getD i true = true → ∀ m ∈ edgesOf o, ls.getD m false = true
theorem tabB_at {tab : List (List Nat)} : ∀ (l : List Oper) (n : Nat), tabB tab l n = true → ∀ i o, l[i]? = some o → (∀ m ∈ edgesOf o, m < n + i) ∧ ∀ j ∈ tab.getD (n + i) [], j ∈ edgesOf o ∨ ∃ m ∈ edgesOf o, j ∈ tab.getD m []
 | [], n, _, i, o, h => by simp at h
 | x :: l, n, hb, 0, o, h => by
  simp only [List.getElem?_cons_zero, Option.some.injEq] at h
  subst h
  simp only [tabB, Bool.and_eq_true, List.all_eq_true, Nat.blt_eq, Bool.or_eq_true, List.any_eq_true, memN_iff] at hb
  exact ⟨hb.1.1, hb.1.2⟩
 | x :: l, n, hb, i + 1, o, h => by
  simp only [tabB, Bool.and_eq_true] at hb
  have := tabB_at l (n + 1) hb.2 i o (by simpa using h)
  rw [show n + (i + 1) = n + 1 + i by omega]
  exact this
theorem pairB_at {tab : List (List Nat)} {i : Nat} {o : Oper} : ∀ (l : List Oper) (n : Nat), pairB T q w ops tab i o l n = true → ∀ j x, l[j]? = some x → n + j < i → (n + j) ∈ tab.getD i [] ∨ indepB T q w ops x o = true
 | [], n, _, j, x, h, _ => by simp at h
 | y :: l, n, hb, j, x, h, hlt => by
  simp only [pairB] at hb
  have h0 : n < i := by omega
  rw [show Nat.blt n i = true from by simpa [Nat.blt_eq] using h0] at hb
  simp only [cond_true, Bool.and_eq_true, Bool.or_eq_true, memN_iff] at hb
  cases j with
  | zero =>
   simp only [List.getElem?_cons_zero, Option.some.injEq] at h
   subst h
   exact hb.1
  | succ j =>
   have := pairB_at l (n + 1) hb.2 j x (by simpa using h) (by omega)
   rw [show n + (j + 1) = n + 1 + j by omega]
   exact this
theorem pairsB_at {tab : List (List Nat)} {all : List Oper} : ∀ (l : List Oper) (n : Nat), pairsB T q w ops tab all l n = true → ∀ i o, l[i]? = some o → pairB T q w ops tab (n + i) o all 0 = true
 | [], n, _, i, o, h => by simp at h
 | x :: l, n, hb, 0, o, h => by
  simp only [List.getElem?_cons_zero, Option.some.injEq] at h
  subst h
  simp only [pairsB, Bool.and_eq_true] at hb
  exact hb.1
 | x :: l, n, hb, i + 1, o, h => by
  simp only [pairsB, Bool.and_eq_true] at hb
  have := pairsB_at l (n + 1) hb.2 i o (by simpa using h)
  rw [show n + (i + 1) = n + 1 + i by omega]
  exact this
theorem tab_listed {tab : List (List Nat)} (ht : tabB tab ops.toList 0 = true) {ls : Array Bool} (hc : Closed ops ls) : ∀ (i : Nat) (o : Oper), ops[i]? = some o → (∀ m ∈ edgesOf o, ls.getD m false = true) → ∀ j ∈ tab.getD i [], ls.getD j false = true := by
 intro i
 induction i using Nat.strongRecOn with
 | _ i ih =>
  intro o ho hm j hj
  obtain ⟨t1, t2⟩ := tabB_at _ _ ht i o (by simpa using ho)
  simp only [Nat.zero_add] at t1 t2
  rcases t2 j hj with h1 | ⟨m, h1, h2⟩
  ·
   exact hm j h1
  ·
   have hlt := t1 m h1
   have hi : i < ops.size := by
    rcases Nat.lt_or_ge i ops.size with h | h
    ·
     exact h
    ·
     rw [Array.getElem?_eq_none h] at ho; cases ho
   have hmo : ops[m]? = some ops[m] := Array.getElem?_eq_getElem (by omega)
   refine ih m hlt ops[m] hmo (fun m' hm' => hc.up m _ hmo ?_ m' hm') j h2
   have := hm m h1
   rw [Array.getD_eq_getD_getElem?] at this ⊢
   cases hq : ls[m]? with
   | none => rfl
   | some b => rw [hq] at this; simpa using this
theorem getD_set (ls : Array Bool) (i j : Nat) (d : Bool) (hi : i < ls.size) : (ls.setIfInBounds i true).getD j d = if i = j then true else ls.getD j d := by
 simp only [Array.getD_eq_getD_getElem?, Array.getElem?_setIfInBounds]
 split
 ·
  rename_i h; subst h; simp [hi]
 ·
  rfl
theorem Left_split {ls : Array Bool} {i : Nat} (hsz : ls.size = ops.size) (hi : i < ops.size) (hu : ls.getD i true = false) :
  ∃ pre post, Left ops ls = pre ++ i :: post ∧ Left ops (ls.setIfInBounds i true) = pre ++ post ∧ ∀ j ∈ pre, j < i := by
 have hr : List.range ops.size = List.range i ++ i :: List.range' (i + 1) (ops.size - (i + 1)) := by
  rw [List.range_eq_range', List.range_eq_range', show i :: List.range' (i + 1) (ops.size - (i + 1)) = List.range' i (ops.size - (i + 1) + 1) from (List.range'_succ).symm]
  rw [show List.range' i (ops.size - (i + 1) + 1) = List.range' (0 + 1 * i) (ops.size - (i + 1) + 1) by simp, List.range'_append]
  congr 1
  omega
 refine ⟨(List.range i).filter fun j => !ls.getD j true, (List.range' (i + 1) (ops.size - (i + 1))).filter fun j => !ls.getD j true, ?_, ?_, fun j hj => by simpa using (List.mem_filter.1 hj).1⟩
 ·
  unfold Left
  rw [hr, List.filter_append, List.filter_cons, if_pos (by simp [hu])]
 ·
  unfold Left
  rw [hr, List.filter_append, List.filter_cons, if_neg (by simp [getD_set _ _ _ _ (by omega : i < ls.size)])]
  congr 1
  ·
   refine List.filter_congr fun j hj => ?_
   have : j < i := by simpa using hj
   rw [getD_set _ _ _ _ (by omega), if_neg (by omega)]
  ·
   refine List.filter_congr fun j hj => ?_
   have : i + 1 ≤ j := by simp [List.mem_range'] at hj; omega
   rw [getD_set _ _ _ _ (by omega), if_neg (by omega)]
theorem getD_tf {ls : Array Bool} {j : Nat} (h : j < ls.size) : ls.getD j true = ls.getD j false := by
 simp [Array.getD_eq_getD_getElem?, h]
theorem ready_mem {ls : Array Bool} {i : Nat} : i ∈ Region.ready .any ops ls ↔ i < ops.size ∧ ls.getD i true = false ∧ ∃ o, ops[i]? = some o ∧ ∀ m ∈ edgesOf o, ls.getD m false = true := by
 unfold Region.ready
 simp only [List.mem_filter, List.mem_range, Bool.and_eq_true, Bool.not_eq_true']
 constructor
 ·
  rintro ⟨h1, h2, h3⟩
  have ho : ops[i]? = some ops[i] := Array.getElem?_eq_getElem h1
  refine ⟨h1, h2, ops[i], ho, fun m hm => ?_⟩
  rw [ho] at h3
  simp only [Option.map_some, Option.getD_some, Array.all_eq_true'] at h3
  simp only [edgesOf, List.mem_map, List.mem_filter] at hm
  obtain ⟨e, ⟨he1, he2⟩, rfl⟩ := hm
  have := h3 e (by simpa using he1)
  simpa [he2] using this
 ·
  rintro ⟨h1, h2, o, ho, h3⟩
  refine ⟨h1, h2, ?_⟩
  rw [ho]
  simp only [Option.map_some, Option.getD_some, Array.all_eq_true']
  intro e he
  cases hb : Region.binds .any e
  ·
   rfl
  ·
   have := h3 e.on (by simp only [edgesOf, List.mem_map, List.mem_filter]; exact ⟨e, ⟨by simpa using he, hb⟩, rfl⟩)
   simpa using this
theorem memO_mem : ∀ {l : List (Option Nat)} {n : Option Nat}, n ∈ l → memO l n = true
 | some a :: l, some n, h => by
  simp only [memO, Bool.or_eq_true]
  rcases List.mem_cons.1 h with h | h
  ·
   cases h; exact .inl (Nat.beq_refl _)
  ·
   exact .inr (memO_mem h)
 | none :: l, none, h => by simp [memO]
 | some a :: l, none, h => by
  have : none ∈ l := by
   rcases List.mem_cons.1 h with h | h
   ·
    cases h
   ·
    exact h
  simpa [memO] using memO_mem this
 | none :: l, some n, h => by
  have : some n ∈ l := by
   rcases List.mem_cons.1 h with h | h
   ·
    cases h
   ·
    exact h
  simpa [memO] using memO_mem this
theorem rdBef_mem {tab : List (List Nat)} {i : Nat} : ∀ (l : List Oper) (n j : Nat) (x : Oper), l[j]? = some x → n + j < i → (n + j) ∉ tab.getD i [] → rdOp x = true → x ∈ rdBef tab i l n
 | [], n, j, x, h, _, _, _ => by simp at h
 | y :: l, n, 0, x, h, h1, h2, h3 => by
  simp only [List.getElem?_cons_zero, Option.some.injEq] at h
  subst h
  have hm : memN (tab.getD i []) n = false := by
   cases hb : memN (tab.getD i []) n
   ·
    rfl
   ·
    exact absurd (memN_iff.1 hb) h2
  rw [rdBef, show Nat.blt n i = true from by simpa [Nat.blt_eq] using h1, hm, h3]
  simp
 | y :: l, n, j + 1, x, h, h1, h2, h3 => by
  have := rdBef_mem (tab := tab) (i := i) l (n + 1) j x (by simpa using h) (by omega) (by rwa [show n + 1 + j = n + (j + 1) by omega]) h3
  rw [rdBef]
  cases (Nat.blt n i && !memN (tab.getD i []) n && rdOp y)
  ·
   exact this
  ·
   exact List.mem_cons_of_mem _ this
theorem rdLs_mem {tab : List (List Nat)} {all : List Oper} : ∀ (l : List Oper) (n i : Nat) (o x : Oper), l[i]? = some o → callV o.op = true → x ∈ rdBef tab (n + i) all 0 → x ∈ rdLs tab all l n
 | [], n, i, o, x, h, _, _ => by simp at h
 | y :: l, n, 0, o, x, h, h1, h2 => by
  simp only [List.getElem?_cons_zero, Option.some.injEq] at h
  subst h
  rw [rdLs, h1, cond_true]
  exact List.mem_append_left _ h2
 | y :: l, n, i + 1, o, x, h, h1, h2 => by
  have := rdLs_mem (tab := tab) (all := all) l (n + 1) i o x (by simpa using h) h1 (by rwa [show n + 1 + i = n + (i + 1) by omega])
  rw [rdLs]
  cases callV y.op
  ·
   exact this
  ·
   exact List.mem_append_right _ this
theorem any_R (hT : tysB P T = true) (hR : R.isSome = true) (hRd : q.isDyn = true → ∀ rr, R = some rr → rr.rs = (rdLs (befTab ops.toList []) ops.toList ops.toList 0).map (·.dst)) (hW : w = true ∨ q.isCon = true → ∃ W0, W = some W0 ∧ (w = true → W0.lw = true) ∧ (q.isCon = true → W0.n = some n0)) (hok : drawOk T q w ops = true) {Q : Exit → Act → World → Prop} {ef : Env} (hQ : ∀ a' s', Rel B A w₀ lo sv N ef a' s' → Q .normal a' s'.w) :
  ∀ (fuel : Nat) (ls : Array Bool) (e : Env) (a : Act) (s : St), Closed ops ls → (Left ops ls).length = fuel → RunL P T q R W N ops ((Left ops ls).filterMap fun i => ops[i]?) e ef → n0 ≤ e.nx → Rel B A w₀ lo sv N e a s → wpAny P .any ops Q fuel ls a s.w := by
 simp only [drawOk, Bool.and_eq_true] at hok
 obtain ⟨htab, hpair⟩ := hok
 intro fuel
 induction fuel with
 | zero =>
  intro ls e a s hc hl hr hn0 h
  have hnil : Left ops ls = [] := List.eq_nil_of_length_eq_zero hl
  rw [hnil] at hr
  have hEq : EqE e ef := by
   cases hr with
   | nil he => exact he
  refine ⟨List.eq_nil_iff_forall_not_mem.2 fun i hi => ?_, hQ a s (h.eqE hEq)⟩
  obtain ⟨h1, h2, _⟩ := ready_mem.1 hi
  have : i ∈ Left ops ls := List.mem_filter.2 ⟨by simpa using h1, by simp [h2]⟩
  rw [hnil] at this
  cases this
 | succ fuel ih =>
  intro ls e a s hc hl hr hn0 h
  have hrel0 : Rel B A w₀ n0 [] N e a s := ⟨h.at_, h.tm, fun p hp => (by cases hp), h.df, h.sz, hn0⟩
  constructor
  ·
   intro hnr
   exfalso
   have none : ∀ i, i ∉ Left ops ls := by
    intro i
    induction i using Nat.strongRecOn with
    | _ i ihi =>
     intro hi
     obtain ⟨h1, h2⟩ := List.mem_filter.1 hi
     have h1' : i < ops.size := by simpa using h1
     have h2' : ls.getD i true = false := by simpa using h2
     have ho : ops[i]? = some ops[i] := Array.getElem?_eq_getElem h1'
     have hrdy : i ∈ Region.ready .any ops ls := by
      refine ready_mem.2 ⟨h1', h2', ops[i], ho, fun m hm => ?_⟩
      obtain ⟨t1, _⟩ := tabB_at _ _ htab i ops[i] (by simp [ho])
      have hlt : m < i := by simpa using t1 m hm
      have hnm := ihi m hlt
      cases hb : ls.getD m false
      ·
       exact absurd (List.mem_filter.2 ⟨by simp; omega, by rw [getD_tf (by rw [hc.sz]; omega), hb]; rfl⟩) hnm
      ·
       rfl
     rw [hnr] at hrdy
     cases hrdy
   have : Left ops ls = [] := List.eq_nil_iff_forall_not_mem.2 none
   rw [this] at hl
   cases hl
  ·
   intro i hi
   obtain ⟨h1, h2, o, ho, hedges⟩ := ready_mem.1 hi
   obtain ⟨pre, post, e1, e2, hpre⟩ := Left_split hc.sz h1 h2
   have hunl : ∀ j ∈ pre, ls.getD j true = false := fun j hj => by
    have : j ∈ Left ops ls := by rw [e1]; simp [hj]
    simpa using (List.mem_filter.1 this).2
   rw [e1, List.filterMap_append, List.filterMap_cons, ho] at hr
   simp only at hr
   have hind : ∀ x ∈ pre.filterMap (fun i => ops[i]?), indepB T q w ops x o = true ∧ (q.isDyn = true → rdOp x = true → callV o.op = true → ∀ rr, R = some rr → memO rr.rs x.dst = true) := by
    intro x hx
    obtain ⟨j, hj, hjx⟩ := List.mem_filterMap.1 hx
    have hlt := hpre j hj
    have hp := pairsB_at _ _ hpair i o (by simpa using ho)
    rw [Nat.zero_add] at hp
    have hnt : j ∉ (befTab ops.toList []).getD i [] := fun hq => by
     have := tab_listed htab hc i o ho hedges j hq
     rw [← getD_tf (by rw [hc.sz]; omega), hunl j hj] at this
     cases this
    rcases pairB_at _ _ hp j x (by simpa using hjx) (by omega) with hq | hq
    ·
     exfalso
     rw [Nat.zero_add] at hq
     exact hnt hq
    ·
     refine ⟨hq, fun hd hr hcv rr hrr => ?_⟩
     rw [hRd hd rr hrr]
     refine memO_mem (List.mem_map.2 ⟨x, rdLs_mem _ 0 i o x (by simpa using ho) hcv ?_, rfl⟩)
     rw [Nat.zero_add]
     exact rdBef_mem _ 0 j x (by simpa using hjx) (by omega) (by rwa [Nat.zero_add]) hr
   obtain ⟨em, hs, hr'⟩ := insert hR hW (I := fun e => ∃ a s, Rel B A w₀ n0 [] N e a s) (fun e ⟨a, s, h⟩ => ⟨fun i ob hi => by rw [← h.at_.os] at hi; rw [← h.at_.nx]; exact h.at_.g.nx i ob hi, h.lo⟩) (fun o e e2 hs ⟨a, s, h⟩ => hs.ex hT h) hind ⟨a, s, hrel0⟩ hr
   have hc' : Closed ops (ls.setIfInBounds i true) := by
    refine ⟨by simp [hc.sz], fun k ok hok hk m hm => ?_⟩
    rw [getD_set _ _ _ _ (by rw [hc.sz]; exact h1)] at hk ⊢
    split
    ·
     rfl
    ·
     split at hk
     ·
      rename_i hik
      subst hik
      rw [ho] at hok
      cases hok
      exact hedges m hm
     ·
      exact hc.up k ok hok hk m hm
   refine wpOp_mono ?_ (hs.wp hT ho h)
   rintro a' w' ⟨s', rfl, hrel⟩
   have hn1 : n0 ≤ em.nx := by
    obtain ⟨a2, s2, h2⟩ := hs.ex hT hrel0
    exact h2.lo
   refine ih _ em a' s' hc' ?_ ?_ hn1 hrel
   ·
    rw [e2]
    rw [e1] at hl
    simp at hl ⊢
    omega
   ·
    rw [e2, List.filterMap_append]
    exact hr'
theorem range_get {α : Type} : ∀ (l : List α), (List.range l.length).filterMap (fun i => l[i]?) = l
 | [] => rfl
 | x :: l => by
  rw [List.length_cons, List.range_succ_eq_map, List.filterMap_cons]
  simp only [List.getElem?_cons_zero, List.filterMap_map]
  congr 1
  rw [← range_get l]
  simp [Function.comp_def, range_get l]
theorem draws_D (hT : tysB P T = true) (hM : P.follows .mixedOrders = true) (hR : R.isSome = true) (hRd : q.isDyn = true → ∀ rr, R = some rr → rr.rs = (rdLs (befTab ops.toList []) ops.toList ops.toList 0).map (·.dst)) (hW : w = true ∨ q.isCon = true → ∃ W0, W = some W0 ∧ (w = true → W0.lw = true) ∧ (q.isCon = true → W0.n = some n0)) {id : Nat} {e ef : Env} {ds : List Nat} (hn0 : n0 ≤ e.nx) (hok : drawOk T q w ops = true) (hrun : RunL P T q R W N ops ops.toList (e.resv ds) ef) {a : Act} {s : St} (h : Rel B A w₀ lo sv N e a s) :
  (Code.region id ops true).wp P (fun x a' w' => x = .normal ∧ ∃ s', s'.w = w' ∧ Rel B A w₀ lo sv N ef a' s') a s.w := by
 refine wp_region_any hM ?_
 have hL : Left ops (Array.replicate ops.size false) = List.range ops.size := by
  unfold Left
  rw [List.filter_eq_self]
  intro i hi
  simp at hi
  simp [Array.getD_eq_getD_getElem?, hi]
 have hops : (List.range ops.size).filterMap (fun i => ops[i]?) = ops.toList := by
  have := range_get ops.toList
  simpa using this
 obtain ⟨s0, hw0, h0⟩ := (h.drawn (s.w.drawn + 1)).resv ds
 rw [show ({ s.w with drawn := s.w.drawn + 1 } : World) = s0.w from hw0.symm]
 refine any_R hT hR hRd hW hok (fun a' s' hr => ⟨rfl, s', rfl, hr⟩) ops.size _ (e.resv ds) a s0 ⟨by simp, fun i o ho hl => ?_⟩ (by rw [hL]; simp) (by rw [hL, hops]; exact hrun) (Nat.le_trans hn0 (resv_nx ds e)) h0
 exfalso
 simp [Array.getD_eq_getD_getElem?] at hl
 have : i < ops.size := by
  rcases Nat.lt_or_ge i ops.size with h | h
  ·
   exact h
  ·
   rw [Array.getElem?_eq_none h] at ho; cases ho
 simp [this] at hl
theorem runs_D (hT : tysB P T = true) {ef : Env} {Q : Exit → Act → World → Prop} (hQ : ∀ a' s', Rel B A w₀ lo sv N ef a' s' → Q .normal a' s'.w) :
  ∀ (l : List Oper) (i : Nat) (e : Env) (a : Act) (s : St), (∀ j, l[j]? = ops[i + j]?) → RunL P T q R W N ops l e ef → Rel B A w₀ lo sv N e a s → wpOps P ops Q (List.range' i l.length) a s.w
 | [], i, e, a, s, hl, .nil he, h => hQ a s (h.eqE he)
 | o :: l, i, e, a, s, hl, .cons hs hr, h => by
  have ho : ops[i]? = some o := by have := hl 0; simpa using this.symm
  have hl' : ∀ j, l[j]? = ops[i + 1 + j]? := fun j => by
   have := hl (j + 1)
   simp only [List.getElem?_cons_succ] at this
   rw [this]
   congr 1
   omega
  have hw := hs.wp (Q := Q) hT ho h
  simp only [List.length_cons, List.range'_succ, wpOps, ho]
  unfold wpOp at hw
  rw [ho] at hw
  simp only at hw
  split at hw
  ·
   rename_i hy
   rw [if_pos hy]
   rcases hw with hw | hw
   ·
    refine .inl (Oper.wp_mono ?_ hw)
    rintro a' w' ⟨s', rfl, hrel⟩
    exact runs_D hT hQ l (i + 1) _ a' s' hl' hr hrel
   ·
    exact .inr hw
  ·
   rename_i hy
   rw [if_neg hy]
   obtain ⟨s', hw, hrel⟩ := hw
   rw [← hw]
   exact runs_D hT hQ l (i + 1) _ _ s' hl' hr hrel
end
end Go.VI
namespace Go.VI
open Go Go.RowKit
set_option linter.unusedVariables false
set_option linter.unusedSimpArgs false
section
variable {P : Program} {B : Nat} {A : Nat → Prop} {w₀ : World} {lo : Nat} {sv : Sv'} {N : Nat} {T : Tys}
theorem nilA_nx (x : Atom) (e : Env) : e.nx ≤ (nilA e x).2.nx := by cases x <;> simp [nilA, Env.new]
theorem nilAs_nx : ∀ (l : List Atom) (e : Env), e.nx ≤ (nilAs e l).2.nx
 | [], e => Nat.le_refl _
 | x :: l, e => Nat.le_trans (nilA_nx x e) (nilAs_nx l _)
theorem nilV_nx (x : AV) (e : Env) : e.nx ≤ (nilV e x).2.nx := by
 cases x with
 | c c => cases c with
  | a y => exact nilA_nx y e
  | g l => exact nilAs_nx l e
 | t l => exact Nat.le_refl _
theorem nilSlots_nx : ∀ (l : List Nat) (e : Env), e.nx ≤ (nilSlots e l).nx
 | [], e => Nat.le_refl _
 | x :: l, e => by
  simp only [nilSlots]
  exact Nat.le_trans (nilV_nx (e.tm.get x) e) (nilSlots_nx l { (nilV e (e.tm.get x)).2 with tm := (nilV e (e.tm.get x)).2.tm.set x (nilV e (e.tm.get x)).1 })
theorem nilObs_nx : ∀ (l : List Nat) (e : Env), e.nx ≤ (nilObs l e).nx
 | [], e => Nat.le_refl _
 | x :: l, e => by
  simp only [nilObs]
  split
  ·
   rename_i xs _
   exact Nat.le_trans (nilAs_nx xs e) (nilObs_nx l { (nilAs e xs).2 with os := up (nilAs e xs).2.os x (.box (nilAs e xs).1) })
  ·
   exact nilObs_nx l e
theorem jkObs_nx (J : List Nat) : ∀ (l : List Nat) (e : Env), (jkObs J l e).nx = e.nx
 | [], _ => rfl
 | x :: l, e => by
  simp only [jkObs]
  split
  ·
   exact jkObs_nx J l _
  ·
   exact jkObs_nx J l e
theorem ren_nx (fl : Nat → Bool) (fb : Bool) (e : Env) (lo : Nat) (ls L : List Nat) (h : lo ≤ e.nx) : lo ≤ (e.ren fl fb lo ls L).nx := by
 unfold Env.ren
 generalize (nodupB L && newB lo L && Nat.ble lo e.nx) = q
 cases q
 ·
  exact h
 ·
  simp only [cond_true]
  generalize (epB (lo + L.length + cond fb 1 0) (keepObs fl e.os lo L e.os)) = q
  cases q <;> simp <;> omega
theorem Rel.norm {e : Env} {a : Act} {s : St} (h : Rel B A w₀ lo sv N e a s) (ls : List Nat) : ∃ s', s'.w = s.w ∧ Rel B A w₀ lo sv N (e.norm lo ls) a s' := by
 obtain ⟨s', h1, h2, h3, h4⟩ := h.at_.norm (ls := ls) h.tm h.sv
 refine ⟨s', h1, h2, h3, h4, h.df, h.sz, ?_⟩
 unfold Env.norm
 have h0 := Nat.le_trans h.lo (Nat.le_trans (nilSlots_nx ls e) (nilObs_nx (e.os.map (·.1)) _))
 refine ren_nx _ _ _ _ _ _ ?_
 cases memN ls 2046
 ·
  exact h0
 ·
  show lo ≤ (jkObs _ _ _).nx
  rw [jkObs_nx]
  exact h0
def loopsIn : Code → List Code
 | .seq a b => loopsIn a ++ loopsIn b
 | .cond _ a b => loopsIn a ++ loopsIn b
 | .block _ b => loopsIn b
 | .scope b => loopsIn b
 | .loop b => b :: loopsIn b
 | _ => []
structure EnvLe (e' e : Env) : Prop where
 os : e'.os = e.os
 nx : e'.nx = e.nx
 tm : ∀ t, e'.tm.get t = e.tm.get t ∨ e'.tm.get t = .junk
theorem EnvLe.refl (e : Env) : EnvLe e e := ⟨rfl, rfl, fun _ => .inl rfl⟩
theorem Rel.le {e e' : Env} {a : Act} {s : St} (hle : EnvLe e' e) (h : Rel B A w₀ lo sv N e a s) : Rel B A w₀ lo sv N e' a s :=
 ⟨⟨h.at_.g, h.at_.os.trans hle.os.symm, h.at_.nx.trans hle.nx.symm⟩, fun t => by
  rcases hle.tm t with h1 | h1 <;> rw [h1]
  ·
   exact h.tm t
  ·
   exact AVR.junk _ _, h.sv, h.df, h.sz, by rw [hle.nx]; exact h.lo⟩
def SumsOk {α : Type} (T : Tys) (N lo : Nat) (call : CallC α) (callQ : Bool → CallK α) (fuel : Nat) (an : Ann) (sm : Nat → Option (Env → Cont α → Option α)) (c : Code) : Prop :=
 ∀ b ∈ loopsIn c, ∀ li lx S, lk an (rid b) = some (li, lx) → sm (rid b) = some S → ∀ (e : Env) (k : Cont α) (r : α), S e k = some r → ∃ e', EnvLe e' e ∧ evL (evC T N lo call callQ fuel an sm b) (Env.norm lo li) (Env.norm lo lx) fuel e' k = some r
def Round (P : Program) (c : Code) (Q : Exit → Act → World → Prop) (a : Act) (w : World) : Prop :=
 ∀ b k cs, ∃ e a' w', Q e a' w' ∧ Arrives P (lone (b.at a (.code c :: .inLoop c :: k)) cs w) b k cs e a' w'
theorem Round.loop {c : Code} {Q : Exit → Act → World → Prop} {a : Act} {w : World} (h : Round P c Q a w) : (Code.loop c).wp P Q a w := by
 intro b k cs
 obtain ⟨e, a₁, w₁, hq, harr⟩ := h b k cs
 exact ⟨e, a₁, w₁, hq, .of_steps (.one step_loop) harr⟩
theorem Round.round {c : Code} {Q : Exit → Act → World → Prop} {a : Act} {w : World} (h : c.wp P (Exit.then (Round P c Q) Q) a w) : Round P c Q a w := by
 intro b k cs
 obtain ⟨e, a₁, w₁, hq, harr⟩ := h b (.inLoop c :: k) cs
 cases e with
 | normal =>
  obtain ⟨e₂, a₂, w₂, hq₂, harr₂⟩ := hq b k cs
  exact ⟨e₂, a₂, w₂, hq₂, .of_steps (Steps.trans harr (.one step_inLoop)) harr₂⟩
 | exit id => exact ⟨_, a₁, w₁, hq, .pass (x := .inLoop c) rfl (fun _ _ => .inl (by simp)) harr⟩
 | goto l => exact ⟨_, a₁, w₁, hq, .pass (x := .inLoop c) rfl (fun _ _ => .inl (by simp)) harr⟩
 | ret => exact ⟨_, a₁, w₁, hq, .pass (x := .inLoop c) rfl (fun _ _ => .inl (by simp)) harr⟩
 | panic ch => exact ⟨_, a₁, w₁, hq, .pass (x := .inLoop c) rfl (fun _ _ => .inl (by simp)) harr⟩
 | outgrown => exact ⟨_, a₁, w₁, hq, .pass (x := .inLoop c) rfl (fun _ _ => .inl (by simp)) harr⟩
def LoopD (P : Program) (lo N : Nat) (c : Code) (e : Env) (x : Exit) (e' : Env) : Prop :=
 ∀ (B : Nat) (A : Nat → Prop) (w₀ : World) (sv : Sv') (a : Act) (s : St), Rel B A w₀ lo sv N e a s → Round P c (fun x' a' w' => x' = x ∧ ∃ s', s'.w = w' ∧ Rel B A w₀ lo sv N e' a' s') a s.w
def CodeD (P : Program) (lo N : Nat) (c : Code) (e : Env) (x : Exit) (e' : Env) : Prop :=
 ∀ (B : Nat) (A : Nat → Prop) (w₀ : World) (sv : Sv') (a : Act) (s : St), Rel B A w₀ lo sv N e a s → c.wp P (fun x' a' w' => x' = x ∧ ∃ s', s'.w = w' ∧ Rel B A w₀ lo sv N e' a' s') a s.w
theorem evC_D (hT : tysB P T = true) (hM : P.follows .mixedOrders = true) {α : Type} {call : CallC α} {callQ : Bool → CallK α} (hcall : CallOk P call) (hcallQ : QuietOk P (callQ false)) (hcallC : ConOk P (callQ true)) {fuel : Nat} {an : Ann} {sm : Nat → Option (Env → Cont α → Option α)} :
  ∀ (c : Code), SumsOk T N lo call callQ fuel an sm c → ∀ (e : Env) (k : Cont α) (r : α), evC T N lo call callQ fuel an sm c e k = some r →
   ∃ x e', k x e' = some r ∧ CodeD P lo N c e x e'
 | .skip, _, e, k, r, hev => ⟨_, e, hev, fun B A w₀ sv a s h => wp_skip ⟨rfl, s, rfl, h⟩⟩
 | .label l, _, e, k, r, hev => ⟨_, e, hev, fun B A w₀ sv a s h => wp_label ⟨rfl, s, rfl, h⟩⟩
 | .region id ops draw, _, e, k, r, hev => by
  simp only [evC] at hev
  cases draw
  ·
   simp only [cond_false] at hev
   obtain ⟨ef, hrun, hk⟩ := evOps_run (R := none) (W := none) hcall.w _ _ hev
   refine ⟨.normal, ef, hk, fun B A w₀ sv a s h => wp_region ?_⟩
   have := runs_D (ops := ops) (Q := fun x a' w' => x = .normal ∧ ∃ s', s'.w = w' ∧ Rel B A w₀ lo sv N ef a' s') hT (fun a' s' hr => ⟨rfl, s', rfl, hr⟩) ops.toList 0 e a s (fun j => by simp) hrun h
   rw [List.range_eq_range']
   simpa using this
  ·
   simp only [cond_true] at hev
   have one : ∀ {q : CM} {cl : CallC α}, CallW P T q (some ⟨e.nx, allocDs ops.toList, [], []⟩) cl → q.isCon = false → q.isDyn = false → drawOk T q false ops = true → evOps1 T N cl ops e (k .normal) = some r → ∃ x e', k x e' = some r ∧ CodeD P lo N (.region id ops true) e x e' := by
    intro q cl hcl hq hqd hd hev
    obtain ⟨ef, hrun, hk⟩ := evOps_run hcl _ _ hev
    refine ⟨.normal, ef, hk, fun B A w₀ sv a s h => draws_D (n0 := e.nx) hT hM rfl (fun hh => by rw [hqd] at hh; cases hh) (fun hw => ?_) (Nat.le_refl _) hd hrun h⟩
    rcases hw with hw | hw
    ·
     cases hw
    ·
     rw [hq] at hw; cases hw
   have two : ∀ {q : CM} {w c lw : Bool} {cl : CallC α}, CallW P T q (some ⟨e.nx, allocDs ops.toList, [], []⟩) cl → q.isDyn = false → (q.isCon = true → c = true) → (w = true → lw = true) → drawOk T q w ops = true → evOps2 T N c lw cl ops e (k .normal) = some r → ∃ x e', k x e' = some r ∧ CodeD P lo N (.region id ops true) e x e' := by
    intro q w c lw cl hcl hqd hc hlw hd hev
    obtain ⟨e1, _, hev⟩ := evOps_run hcl _ _ hev
    obtain ⟨ef, hrun, hk⟩ := evOps_run hcl _ _ hev
    exact ⟨.normal, ef, hk, fun B A w₀ sv a s h => draws_D (n0 := e.nx) hT hM rfl (fun hh => by rw [hqd] at hh; cases hh) (fun _ => ⟨_, rfl, hlw, fun hq => by rw [hc hq]; rfl⟩) (Nat.le_refl _) hd hrun h⟩
   cases h1 : drawOk T .any false ops
   ·
    rw [h1] at hev
    simp only [cond_false] at hev
    cases h2 : drawOk T .any true ops
    ·
     rw [h2] at hev
     simp only [cond_false] at hev
     cases hd : drawOk T .dyn false ops
     ·
      rw [hd] at hev
      simp only [cond_false] at hev
      cases h0 : drawOk T .con false ops
      ·
       rw [h0] at hev
       simp only [cond_false] at hev
       cases h3 : drawOk T .con true ops
       ·
        rw [h3] at hev
        simp only [cond_false] at hev
        cases h4 : drawOk T .quiet false ops
        ·
         rw [h4] at hev
         simp only [cond_false] at hev
         cases h5 : drawOk T .quiet true ops
         ·
          rw [h5] at hev; cases hev
         ·
          rw [h5] at hev
          exact two hcallQ.w rfl (fun hq => by cases hq) (fun _ => rfl) h5 hev
        ·
         rw [h4] at hev
         exact one hcallQ.w rfl rfl h4 hev
       ·
        rw [h3] at hev
        exact two hcallC.w rfl (fun _ => rfl) (fun _ => rfl) h3 hev
      ·
       rw [h0] at hev
       exact two hcallC.w rfl (fun _ => rfl) (fun h => by cases h) h0 hev
     ·
      rw [hd] at hev
      simp only [cond_true] at hev
      obtain ⟨e1, _, hev⟩ := evOps_run hcall.d _ _ hev
      obtain ⟨ef, hrun, hk⟩ := evOps_run hcall.d _ _ hev
      refine ⟨.normal, ef, hk, fun B A w₀ sv a s h => draws_D (n0 := e.nx) hT hM rfl (fun _ rr hrr => by cases hrr; rfl) (fun hw => ?_) (Nat.le_refl _) hd hrun h⟩
      rcases hw with hw | hw <;> cases hw
    ·
     rw [h2] at hev
     exact two hcall.w rfl (fun hq => by cases hq) (fun _ => rfl) h2 hev
   ·
    rw [h1] at hev
    exact one hcall.w rfl rfl h1 hev
 | .seq x y, hsm, e, k, r, hev => by
  simp only [evC] at hev
  obtain ⟨ex, e', hk, hD⟩ := evC_D hT hM hcall hcallQ hcallC x (fun b hb => hsm b (List.mem_append_left _ hb)) e _ r hev
  have other : ex ≠ .normal → k ex e' = some r → ∃ x' e', k x' e' = some r ∧ CodeD P lo N (.seq x y) e x' e' := by
   intro hne hk
   refine ⟨ex, e', hk, fun B A w₀ sv a s h => wp_seq (wp_mono (hD B A w₀ sv a s h) ?_)⟩
   rintro x' a' w' ⟨rfl, hr⟩
   cases x' <;> first | exact absurd rfl hne | exact ⟨rfl, hr⟩
  cases ex with
  | normal =>
   obtain ⟨ex2, e2, hk2, hD2⟩ := evC_D hT hM hcall hcallQ hcallC y (fun b hb => hsm b (List.mem_append_right _ hb)) e' k r hk
   refine ⟨ex2, e2, hk2, fun B A w₀ sv a s h => wp_seq (wp_mono (hD B A w₀ sv a s h) ?_)⟩
   rintro x' a' w' ⟨rfl, s', rfl, hr⟩
   exact hD2 B A w₀ sv a' s' hr
  | exit id => exact other (by simp) hk
  | goto l => exact other (by simp) hk
  | ret => exact other (by simp) hk
  | panic c => exact other (by simp) hk
  | outgrown => exact other (by simp) hk
 | .cond c x y, hsm, e, k, r, hev => by
  simp only [evC] at hev
  have hx := fun b hb => hsm b (List.mem_append_left _ hb)
  have hy := fun b hb => hsm b (List.mem_append_right _ hb)
  have hbool : ∀ {B : Nat} {A : Nat → Prop} {w₀ : World} {sv : Sv'} {a : Act} {s : St} {v : Bool}, Rel B A w₀ lo sv N e a s → e.ev c = .c (.a (.d .bool v)) → a.eval c = .bool v := by
   intro B A w₀ sv a s v h hv
   have := h.ev c
   rw [hv] at this
   exact R_bool (this.resolve_left (by simp [isJunk]))
  have plain : ∀ {v : Bool}, e.ev c = .c (.a (.d .bool v)) → cond v (evC T N lo call callQ fuel an sm x e k) (evC T N lo call callQ fuel an sm y e k) = some r → ∃ x' e', k x' e' = some r ∧ CodeD P lo N (.cond c x y) e x' e' := by
   intro v hv hev
   cases v
   ·
    obtain ⟨ex, e', hk, hD⟩ := evC_D hT hM hcall hcallQ hcallC y hy _ k r hev
    exact ⟨ex, e', hk, fun B A w₀ sv a s h => wp_cond_false (hbool h hv) (hD B A w₀ sv a s h)⟩
   ·
    obtain ⟨ex, e', hk, hD⟩ := evC_D hT hM hcall hcallQ hcallC x hx _ k r hev
    exact ⟨ex, e', hk, fun B A w₀ sv a s h => wp_cond_true (hbool h hv) (hD B A w₀ sv a s h)⟩
  cases c with
  | tmp t =>
   simp only at hev
   split at hev
   ·
    rename_i v hv
    cases v
    ·
     obtain ⟨ex, e', hk, hD⟩ := evC_D hT hM hcall hcallQ hcallC y hy _ k r hev
     exact ⟨ex, e', hk, fun B A w₀ sv a s h => wp_cond_false (hbool h (show e.ev (.tmp t) = _ from hv)) (hD B A w₀ sv a s (h.lit hv))⟩
    ·
     obtain ⟨ex, e', hk, hD⟩ := evC_D hT hM hcall hcallQ hcallC x hx _ k r hev
     exact ⟨ex, e', hk, fun B A w₀ sv a s h => wp_cond_true (hbool h (show e.ev (.tmp t) = _ from hv)) (hD B A w₀ sv a s (h.lit hv))⟩
   ·
    cases hev
  | const v0 =>
   simp only at hev
   split at hev
   ·
    rename_i v hv
    exact plain hv hev
   ·
    cases hev
  | global g =>
   simp only at hev
   split at hev
   ·
    rename_i v hv
    exact plain hv hev
   ·
    cases hev
  | func f =>
   simp only at hev
   split at hev
   ·
    rename_i v hv
    exact plain hv hev
   ·
    cases hev
 | .block id c, hsm, e, k, r, hev => by
  simp only [evC] at hev
  obtain ⟨ex, e', hk, hD⟩ := evC_D hT hM hcall hcallQ hcallC c hsm e _ r hev
  cases ex with
  | exit i =>
   simp only at hk
   cases hb : Nat.beq i id
   ·
    rw [hb] at hk
    have hne : ¬ i = id := fun hc => by subst hc; simp at hb
    refine ⟨.exit i, e', hk, fun B A w₀ sv a s h => wp_block (wp_mono (hD B A w₀ sv a s h) ?_)⟩
    rintro x' a' w' ⟨rfl, hr⟩
    simp only [Exit.inBlock]
    rw [if_neg hne]
    first | exact ⟨rfl, hr⟩ | exact ⟨trivial, hr⟩
   ·
    rw [hb] at hk
    refine ⟨.normal, e', hk, fun B A w₀ sv a s h => wp_block (wp_mono (hD B A w₀ sv a s h) ?_)⟩
    rintro x' a' w' ⟨rfl, hr⟩
    simp only [Exit.inBlock]
    rw [if_pos (Nat.eq_of_beq_eq_true hb)]
    first | exact ⟨rfl, hr⟩ | exact ⟨trivial, hr⟩
  | normal => exact ⟨_, e', hk, fun B A w₀ sv a s h => wp_block (wp_mono (hD B A w₀ sv a s h) (by rintro x' a' w' ⟨rfl, hr⟩; exact ⟨rfl, hr⟩))⟩
  | goto l => exact ⟨_, e', hk, fun B A w₀ sv a s h => wp_block (wp_mono (hD B A w₀ sv a s h) (by rintro x' a' w' ⟨rfl, hr⟩; exact ⟨rfl, hr⟩))⟩
  | ret => exact ⟨_, e', hk, fun B A w₀ sv a s h => wp_block (wp_mono (hD B A w₀ sv a s h) (by rintro x' a' w' ⟨rfl, hr⟩; exact ⟨rfl, hr⟩))⟩
  | panic c => exact ⟨_, e', hk, fun B A w₀ sv a s h => wp_block (wp_mono (hD B A w₀ sv a s h) (by rintro x' a' w' ⟨rfl, hr⟩; exact ⟨rfl, hr⟩))⟩
  | outgrown => exact ⟨_, e', hk, fun B A w₀ sv a s h => wp_block (wp_mono (hD B A w₀ sv a s h) (by rintro x' a' w' ⟨rfl, hr⟩; exact ⟨rfl, hr⟩))⟩
 | .loop c, hsm, e, k, r, hev => by
  simp only [evC] at hev
  split at hev
  ·
   rename_i li lx hli
   have hev' : ∃ e1, EnvLe e1 (e.norm lo li) ∧ evL (evC T N lo call callQ fuel an sm c) (Env.norm lo li) (Env.norm lo lx) fuel e1 k = some r := by
    split at hev
    ·
     rename_i S hS
     exact hsm c (by simp [loopsIn]) li lx S hli hS _ _ _ hev
    ·
     exact ⟨_, EnvLe.refl _, hev⟩
   obtain ⟨e1, hle, hev'⟩ := hev'
   have key : ∀ (n : Nat) (e : Env), evL (evC T N lo call callQ fuel an sm c) (Env.norm lo li) (Env.norm lo lx) n e k = some r → ∃ x e', k x e' = some r ∧ LoopD P lo N c e x e' := by
    intro n
    induction n with
    | zero => intro e h; cases h
    | succ n ih =>
     intro e hl
     simp only [evL] at hl
     obtain ⟨ex, e', hk, hD⟩ := evC_D hT hM hcall hcallQ hcallC c (fun b hb => hsm b (by simp [loopsIn, hb])) e _ r hl
     have other : ex ≠ .normal → k ex (e'.norm lo lx) = some r → ∃ x' e', k x' e' = some r ∧ LoopD P lo N c e x' e' := by
      intro hne hk
      refine ⟨ex, _, hk, fun B A w₀ sv a s h => Round.round (wp_mono (hD B A w₀ sv a s h) ?_)⟩
      rintro x' a' w' ⟨rfl, s', rfl, hr⟩
      obtain ⟨s2, hw2, hr2⟩ := hr.norm lx
      cases x' <;> first | exact absurd rfl hne | exact ⟨rfl, s2, hw2, hr2⟩
     cases ex with
     | normal =>
      obtain ⟨ex2, e2, hk2, hD2⟩ := ih _ hk
      refine ⟨ex2, e2, hk2, fun B A w₀ sv a s h => Round.round (wp_mono (hD B A w₀ sv a s h) ?_)⟩
      rintro x' a' w' ⟨rfl, s', rfl, hr⟩
      obtain ⟨s2, hw2, hr2⟩ := hr.norm li
      rw [← hw2]
      exact hD2 B A w₀ sv a' s2 hr2
     | exit id => exact other (by simp) hk
     | goto l => exact other (by simp) hk
     | ret => exact other (by simp) hk
     | panic c => exact other (by simp) hk
     | outgrown => exact other (by simp) hk
   obtain ⟨x, e', hk, hD⟩ := key _ _ hev'
   refine ⟨x, e', hk, fun B A w₀ sv a s h => ?_⟩
   obtain ⟨s0, hw0, hrel0⟩ := h.norm li
   rw [← hw0]
   exact (hD B A w₀ sv a s0 (hrel0.le hle)).loop
  ·
   cases hev
 | .exit id, _, e, k, r, hev => ⟨_, e, hev, fun B A w₀ sv a s h => wp_exit ⟨rfl, s, rfl, h⟩⟩
 | .ret, _, e, k, r, hev => ⟨_, e, hev, fun B A w₀ sv a s h => wp_ret ⟨rfl, s, rfl, h⟩⟩
 | .scope c, hsm, e, k, r, hev => by
  simp only [evC] at hev
  obtain ⟨ex, e', hk, hD⟩ := evC_D hT hM hcall hcallQ hcallC c hsm e _ r hev
  cases ex with
  | goto l => cases hk
  | normal => exact ⟨_, e', hk, fun B A w₀ sv a s h => wp_scope_straight (wp_mono (hD B A w₀ sv a s h) (by rintro x' a' w' ⟨rfl, hr⟩; exact ⟨rfl, hr⟩))⟩
  | exit i => exact ⟨_, e', hk, fun B A w₀ sv a s h => wp_scope_straight (wp_mono (hD B A w₀ sv a s h) (by rintro x' a' w' ⟨rfl, hr⟩; exact ⟨rfl, hr⟩))⟩
  | ret => exact ⟨_, e', hk, fun B A w₀ sv a s h => wp_scope_straight (wp_mono (hD B A w₀ sv a s h) (by rintro x' a' w' ⟨rfl, hr⟩; exact ⟨rfl, hr⟩))⟩
  | panic c => exact ⟨_, e', hk, fun B A w₀ sv a s h => wp_scope_straight (wp_mono (hD B A w₀ sv a s h) (by rintro x' a' w' ⟨rfl, hr⟩; exact ⟨rfl, hr⟩))⟩
  | outgrown => exact ⟨_, e', hk, fun B A w₀ sv a s h => wp_scope_straight (wp_mono (hD B A w₀ sv a s h) (by rintro x' a' w' ⟨rfl, hr⟩; exact ⟨rfl, hr⟩))⟩
 | .goto l, _, e, k, r, hev => by simp [evC] at hev
 | .refuse y, _, e, k, r, hev => by simp [evC] at hev
 | .rangeFunc f ps x y, _, e, k, r, hev => by simp [evC] at hev
end
end Go.VI
namespace Go.VI
open Go Go.RowKit
set_option linter.unusedVariables false
set_option linter.unusedSimpArgs false
structure CtxOk (P : Program) (C : Ctx) : Prop where
 T : tysB P C.T = true
 fns : ∀ f fe, lk C.fns f = some fe → FentOk P f fe
 inl : ∀ f x, lk C.inl f = some x → P.funcs[f]? = some x.fn ∧ fnB P f = true
 sums : ∀ f x, lk C.inl f = some x → ∀ (α : Type) (lo d : Nat) (c : Code), x.fn.body = some c → SumsOk C.T x.fn.ntmps lo (evCall (α := α) C d) (evCallQ C) C.fuel x.an (x.sm α lo d) c
 mixed : P.follows .mixedOrders = true
section
variable {P : Program} {B : Nat} {A : Nat → Prop} {w₀ : World} {C : Ctx}
theorem params_R {s : St} : ∀ {cs : List Cp} {vs : List Value} (i : Nat) (ts : Array Value), F2 (CpR s) cs vs → (∀ j v, vs[j]? = some v → ts.getD (i + j) undef = v) → TmR s (mkTm (params i cs)) ts
 | [], _, i, ts, .nil, _ => fun t => by
  show AVR s (Tr.get .e t) _
  unfold Tr.get
  rw [Tr.getF_e]
  exact AVR.junk _ _
 | c :: cs, _, i, ts, .cons (y := v) hc hcs, hv => by
  simp only [params, mkTm]
  refine TmR.set (params_R (i + 1) ts hcs fun j v hj => ?_) ?_
  ·
   have := hv (j + 1) v (by simpa using hj)
   rw [← this]
   congr 1
   omega
  ·
   have := hv 0 v (by simp)
   rw [Nat.add_zero] at this
   rw [this]
   exact hc
theorem resOf_R (hT : tysB P C.T = true) {lo : Nat} {sv : Sv'} {N : Nat} {e : Env} {a : Act} {s : St} (h : Rel B A w₀ lo sv N e a s) : ∀ {l : List ResultVar} {cs : List Cp}, resOf C.T e l = some cs →
  ∃ vs, (l.mapM fun | .tmp t => pure (a.tmps.getD t undef) | .cell ad t => do loadVar t (← asAddr (a.tmps.getD ad undef)) : Sem (List Value)).run P s.w = .ok vs s.w ∧ F2 (CpR s) cs vs
 | [], cs, hr => by
  simp only [resOf, Option.some.injEq] at hr
  subst hr
  exact ⟨[], by simp, .nil⟩
 | .tmp t :: l, cs, hr => by
  simp only [resOf] at hr
  split at hr
  ·
   rename_i c r hc hl
   cases hr
   obtain ⟨vs, h1, h2⟩ := resOf_R hT h hl
   have hv := h.tm t
   rw [hc] at hv
   refine ⟨a.tmps.getD t undef :: vs, ?_, .cons hv h2⟩
   simp only [List.mapM_cons, Sem.run_bind, Sem.run_pure, Result.andThen_ok, h1]
  ·
   cases hr
 | .cell t ty :: l, cs, hr => by
  simp only [resOf] at hr
  split at hr
  ·
   rename_i te ad hte had
   split at hr
   ·
    rename_i m hm
    split at hr
    ·
     rename_i c r hc hl
     cases hr
     obtain ⟨vs, h1, h2⟩ := resOf_R hT h hl
     obtain ⟨b, o, ws, hp, hf, hcell⟩ := cells_R h.at_ hm (atom_R had (cells_notjunk hm) (h.tm t))
     obtain ⟨val, h3, h4⟩ := load_R hT hte hf hcell hc
     refine ⟨val :: vs, ?_, .cons h4 h2⟩
     have hasA : (asAddr (a.tmps.getD t undef)).run P s.w = .ok ⟨b, o, none⟩ s.w := by rw [hp]; rfl
     simp only [List.mapM_cons, Sem.run_bind, hasA, Sem.run_pure, Result.andThen_ok, h3, h1]
    ·
     cases hr
   ·
    cases hr
  ·
   cases hr
theorem run_results {fn : Func} {ts : Array Value} {w : World} {vs : List Value} (h : (fn.results.toList.mapM fun | .tmp t => pure (ts.getD t undef) | .cell ad t => do loadVar t (← asAddr (ts.getD ad undef)) : Sem (List Value)).run P w = .ok vs w) :
  (results fn ts).run P w = .ok (outV vs) w := by
 unfold results
 rw [Array.mapM_eq_mapM_toList]
 simp only [Sem.run_bind, Sem.run_map]
 have e1 : (fn.results.toList.mapM fun x => match x with | .tmp t => (pure (ts.getD t undef) : Sem Value) | .cell ad t => do loadVar t (← asAddr (ts.getD ad undef))) = (fn.results.toList.mapM fun | .tmp t => pure (ts.getD t undef) | .cell ad t => do loadVar t (← asAddr (ts.getD ad undef)) : Sem (List Value)) := rfl
 erw [h]
 simp only [Result.andThen_ok, Sem.run_pure]
 cases vs with
 | nil => rfl
 | cons v vs =>
  cases vs with
  | nil => simp [outV]
  | cons v' vs => simp [outV]
theorem evCallQ_ok (hC : CtxOk P C) {α : Type} : QuietOk (α := α) P (evCallQ C false) := by
 intro f args e k r h
 unfold evCallQ at h
 split at h
 ·
  rename_i fe hfe
  split at h
  ·
   rename_i ds hds
   simp only [cond_false] at h
   have hok := hC.fns f fe hfe
   obtain ⟨rs, hcalls, hk⟩ := hok.g α ds _ r (dats_ks hds) h
   cases hq : rs.all Rs.quiet
   ·
    rw [hq] at hk; cases hk
   ·
    rw [hq] at hk
    exact ⟨fe.ks, ds, rs, hok.fn, hds, hcalls, hq, hk⟩
  ·
   cases h
 ·
  cases h
theorem evCallC_ok (hC : CtxOk P C) {α : Type} : ConOk (α := α) P (evCallQ C true) := by
 intro f args e k r h
 unfold evCallQ at h
 split at h
 ·
  rename_i fe hfe
  split at h
  ·
   rename_i ds hds
   simp only [cond_true] at h
   have hok := hC.fns f fe hfe
   obtain ⟨rs, hcalls, hk⟩ := hok.g α ds _ r (dats_ks hds) h
   exact ⟨fe.ks, ds, rs, hok.fn, hds, hcalls, hk⟩
  ·
   cases h
 ·
  cases h
def BodyD (P : Program) (f : Nat) (args : List Cp) (e : Env) (rs : List Cp) (e' : Env) : Prop :=
 ∀ (B : Nat) (A : Nat → Prop) (w₀ : World) (sv : Sv') (s : St) (vs : Array Value), At B A w₀ e s → SvR s e.nx sv → F2 (CpR s) args vs.toList →
  Calls P f vs s.w fun en w' => ∃ os s', en = .returned (outV os) ∧ s'.w = w' ∧ At B A w₀ e' s' ∧ SvR s' e.nx sv ∧ F2 (CpR s') rs os ∧ e.nx ≤ e'.nx
theorem runB_D (hC : CtxOk P C) {α : Type} {call : CallC α} (hcall : CallOk P call) {f : Nat} {fn : Func} (hf : P.funcs[f]? = some fn) {an : Ann} {sm : Nat → Option (Env → Cont α → Option α)}
  {args : List Cp} {e : Env} {k : List Cp → Env → Option α} {r : α} (hev : runB C call fn an sm args e k = some r)
  (hsm : ∀ c, fn.body = some c → SumsOk C.T fn.ntmps e.nx call (evCallQ C) C.fuel an sm c) :
  ∃ rs e', k rs e' = some r ∧ BodyD P f args e rs e' := by
 unfold runB at hev
 split at hev
 ·
  cases hev
 ·
  rename_i c hc
  obtain ⟨x, e1, hk, hD⟩ := evC_D hC.T hC.mixed hcall (evCallQ_ok hC) (evCallC_ok hC) c (hsm c hc) _ _ r hev
  have fin : (x = .normal ∨ x = .ret) → (match resOf C.T e1 fn.results.toList with | some rs => k rs e1 | none => none) = some r → ∃ rs e', k rs e' = some r ∧ BodyD P f args e rs e' := by
   intro hx hk
   split at hk
   ·
    rename_i rs hrs
    refine ⟨rs, e1, hk, fun B A w₀ sv s vs h hsv ha => ?_⟩
    have hrel : Rel B A w₀ e.nx sv fn.ntmps ⟨mkTm (params 0 args), e.os, e.nx⟩ { tmps := vs ++ Array.replicate (fn.ntmps - vs.size) undef, defers := [] } s := by
     refine ⟨⟨h.g, h.os, h.nx⟩, params_R 0 _ ha fun j v hj => ?_, hsv, rfl, ?_, Nat.le_refl _⟩
     ·
      have hj' : vs[j]? = some v := by simpa using hj
      have hlt : j < vs.size := (Array.getElem?_eq_some_iff.1 hj').1
      rw [Nat.zero_add, Array.getD_eq_getD_getElem?, Array.getElem?_append_left hlt, hj']
      rfl
     ·
      simp
      omega
    refine calls_of_wp hf hc (wp_mono (hD B A w₀ sv _ s hrel) ?_)
    rintro x' a' w' ⟨rfl, s', rfl, hrel'⟩
    obtain ⟨os, h1, h2⟩ := resOf_R hC.T hrel' hrs
    have : a'.defers = [] ∧ ∃ v, (results fn a'.tmps).run P s'.w = .ok v s'.w ∧
      ∃ os s2, Ending.returned v = .returned (outV os) ∧ s2.w = s'.w ∧ At B A w₀ e1 s2 ∧ SvR s2 e.nx sv ∧ F2 (CpR s2) rs os ∧ e.nx ≤ e1.nx :=
     ⟨hrel'.df, outV os, run_results h1, os, s', rfl, rfl, hrel'.at_, hrel'.sv, h2, hrel'.lo⟩
    rcases hx with rfl | rfl <;> exact this
   ·
    cases hk
  cases x with
  | normal => exact fin (.inl rfl) hk
  | ret => exact fin (.inr rfl) hk
  | exit i => cases hk
  | goto i => cases hk
  | panic i => cases hk
  | outgrown => cases hk
theorem evCall_ok (hC : CtxOk P C) {α : Type} : ∀ (d : Nat), CallOk (α := α) P (evCall C d)
 | 0 => by intro chk f args e k r h; cases h
 | d + 1 => by
  intro chk f args e k r h
  simp only [evCall] at h
  split at h
  ·
   rename_i fe hfe
   have hok := hC.fns f fe hfe
   split at h
   ·
    rename_i ds hds
    obtain ⟨rs, hct, hk⟩ := hok.g α ds _ r (dats_ks hds) h
    refine ⟨(e.impE args rs).1, (e.impE args rs).2, hk, ⟨hok.fn, fun B A w₀ sv s vs hat hsv ha => ?_⟩, .inr ⟨fe.ks, ds, rs, hds, hct, rfl, rfl⟩⟩
    refine (dcall_core (sv := sv) (n := e.nx) hds hct hat hsv ha).mono fun en w' hen => ?_
    obtain ⟨os, e', s', rfl, hw, hat', hev, he', hf⟩ := hen
    subst he'
    exact ⟨outV os, s', rfl, hw, hat', hsv.ev hev, avOf_R hf, impE_nx e args rs⟩
   ·
    cases h
  ·
   split at h
   ·
    rename_i x hin
    obtain ⟨h1, h2⟩ := hC.inl f x hin
    obtain ⟨rs, e', hk, hD⟩ := runB_D hC (evCall_ok hC d) h1 h (hC.sums f x hin α e.nx d)
    cases hck : chk e'
    ·
     rw [hck] at hk; cases hk
    rw [hck] at hk
    refine ⟨rs, e', hk, ⟨h2, fun B A w₀ sv s vs hat hsv ha => (hD B A w₀ sv s vs hat hsv ha).mono fun en w' hen => ?_⟩, .inl hck⟩
    obtain ⟨os, s', rfl, hw, hat', hsv', hf, hnx⟩ := hen
    exact ⟨outV os, s', rfl, hw, hat', hsv', avOf_R hf, hnx⟩
   ·
    cases h
theorem freeOf_lk {used : List Nat} : ∀ {l : List Atom} {e : Env} {o : Nat}, freeOf used l = true → o ∈ used → lk (e.freezeL l).os o = lk e.os o
 | [], e, o, _, _ => rfl
 | a :: l, e, o, h, ho => by
  have h2 : freeOf used l = true ∧ lk (e.freeze a).os o = lk e.os o := by
   cases a with
   | sl i ep v =>
    simp only [freeOf, Bool.and_eq_true, Bool.not_eq_true'] at h
    refine ⟨h.2, ?_⟩
    simp only [Env.freeze]
    split
    ·
     rename_i k ep' xs hl
     refine lk_up_ne fun hc => ?_
     subst hc
     have := memN_iff.2 ho
     rw [h.1] at this
     cases this
    ·
     rfl
   | _ => exact ⟨h, rfl⟩
  show lk ((e.freeze a).freezeL l).os o = _
  rw [freeOf_lk h2.1 ho, h2.2]
theorem outs_R : ∀ {rk : List (K × Bool)} {cs : List Cp} {used : List Nat} {e : Env} {s : St} {rs : List Rs} {vs : List Value}, outs used e rk cs = some rs → At B A w₀ e s → F2 (CpR s) cs vs →
  ∃ s' e' bs, s'.w = s.w ∧ s'.ρ = s.ρ ∧ At B A w₀ e' s' ∧ Ev s s' ∧ (∀ o ∈ used, lk e'.os o = lk e.os o) ∧ Outs s'.w s'.ok rs vs bs ∧ bs.Nodup ∧
   ∀ b ∈ bs, ∃ o k ep xs, o ∉ used ∧ lk e'.os o = some (.row k ep xs) ∧ s'.ρ o = some b
 | [], [], used, e, s, rs, _, h, hat, .nil => by
  simp only [outs, Option.some.injEq] at h
  subst h
  exact ⟨s, e, [], rfl, rfl, hat, Ev.refl s, fun _ _ => rfl, .nil, List.nodup_nil, fun b hb => by cases hb⟩
 | [], c :: cs, used, e, s, rs, _, h, hat, _ => by simp [outs] at h
 | p :: l, [], used, e, s, rs, _, h, hat, _ => by
  obtain ⟨k, b⟩ := p
  cases b <;> simp [outs] at h
 | (k, true) :: l, c :: cs, used, e, s, rs, _, h, hat, .cons (y := v) hc hcs => by
  unfold outs at h
  split at h
  ·
   rename_i heq; cases heq
  ·
   rename_i k0 l0 o ep cs0 heq1 heq2
   cases heq1
   cases heq2
   split at h
   ·
    rename_i k' ep' xs hl
    cases hb : (Nat.beq ep ep' && !memN used o)
    ·
     rw [hb] at h; cases h
    ·
     rw [hb] at h
     simp only [Bool.and_eq_true, Bool.not_eq_true'] at hb
     have := Nat.eq_of_beq_eq_true hb.1
     subst this
     have hou : o ∉ used := fun hc => by
      have := memN_iff.2 hc
      rw [hb.2] at this
      cases this
     simp only [cond_true] at h
     split at h
     ·
      rename_i ys r hy hr
      cases h
      obtain ⟨e1, e2⟩ := K.cast_eq hy
      have := sl_inj e1
      subst this
      have e3 : xs = ys := e2
      subst e3
      obtain ⟨s', e', bs, hw, hρ, hat', E, hused, hout, hnd, hbs⟩ := outs_R hr hat hcs
      have hl' : lk e'.os o = some (.row k' ep xs) := by rw [hused o (by simp)]; exact hl
      have hls : lk s'.os o = some (.row k' ep xs) := by rw [hat'.os]; exact hl'
      have har := (AR.ev E (hc.resolve_left (by simp [isJunk]))).2.2.2 k' xs (.inl hls)
      rcases har with ⟨b, hρb, hcap, hv⟩ | ⟨hn, hx0, hv⟩
      ·
       have hv : v = .slice (some ⟨b, 0, none⟩) xs.length (s'.κ o) := hv
       subst hv
       rcases hat'.g.obs o _ hls with ⟨h5, _⟩ | ⟨b', hb', ar, ty, inner, rest, h6, h7, h8, h9, h10⟩
       ·
        rw [hρb] at h5; cases h5
       ·
        have : b' = b := by rw [hρb] at hb'; exact (Option.some.inj hb').symm
        subst this
        refine ⟨s', e', b' :: bs, hw, hρ, hat', E, fun i hi => hused i (by simp [hi]), .own h6 h7 h8 h9 h10 hout, List.nodup_cons.2 ⟨fun hmem => ?_, hnd⟩, fun x hx => ?_⟩
        ·
         obtain ⟨o2, k2, ep2, xs2, hne, hl2, hρ2⟩ := hbs b' hmem
         have := hat'.g.inj o _ o2 _ b' hls rfl (by rw [hat'.os]; exact hl2) rfl hρb hρ2
         subst this
         exact hne (by simp)
        ·
         rcases List.mem_cons.1 hx with rfl | hx
         ·
          exact ⟨o, k', ep, xs, hou, hl', hρb⟩
         ·
          obtain ⟨o2, k2, ep2, xs2, hne, hl2, hρ2⟩ := hbs x hx
          exact ⟨o2, k2, ep2, xs2, fun hc => hne (by simp [hc]), hl2, hρ2⟩
      ·
       have hxe : xs = [] := List.eq_nil_of_length_eq_zero hx0
       subst hxe
       have hv : v = .slice none 0 0 := hv
       subst hv
       exact ⟨s', e', bs, hw, hρ, hat', E, fun i hi => hused i (by simp [hi]), .ownN hout, hnd, fun x hx => by
        obtain ⟨o2, k2, ep2, xs2, hne, hl2, hρ2⟩ := hbs x hx
        exact ⟨o2, k2, ep2, xs2, fun hc => hne (by simp [hc]), hl2, hρ2⟩⟩
     ·
      cases h
   ·
    cases h
  ·
   rename_i k0 l0 k' cs0 heq1 heq2
   cases heq1
   cases heq2
   split at h
   ·
    rename_i ys r hy hr
    cases h
    obtain ⟨e1, e2⟩ := K.cast_eq hy
    have := sl_inj e1
    subst this
    have e3 : [] = ys := e2
    subst e3
    obtain ⟨s', e', bs, hw, hρ, hat', E, hused, hout, hnd, hbs⟩ := outs_R hr hat hcs
    have hv : v = .slice none 0 0 := hc.resolve_left (by simp [isJunk])
    subst hv
    exact ⟨s', e', bs, hw, hρ, hat', E, hused, .ownN hout, hnd, hbs⟩
   ·
    cases h
  ·
   rename_i heq1 heq2; cases heq1
  ·
   cases h
 | (k, false) :: l, c :: cs, used, e, s, rs, _, h, hat, .cons (y := v) hc hcs => by
  simp only [outs] at h
  cases hb : ((c.isA == k.single) && freeOf used c.atoms)
  ·
   rw [hb] at h; cases h
  ·
   rw [hb] at h
   simp only [Bool.and_eq_true] at hb
   simp only [cond_true] at h
   cases hx : e.dat k c.atoms with
   | none => rw [hx] at h; cases h
   | some x =>
    cases hr : outs used (e.freezeL c.atoms) l cs with
    | none => rw [hx, hr] at h; cases h
    | some r =>
     rw [hx, hr] at h
     cases h
     obtain ⟨s1, hat1, E1, hw1, hκ1, hρ1⟩ := hat.freezeL (l := c.atoms)
     obtain ⟨s', e', bs, hw, hρ, hat', E, hused, hout, hnd, hbs⟩ := outs_R hr hat1 (hcs.imp fun _ _ hx => CpR.ev E1 hx)
     have hd := dat_DR hat1.g hat1.os (freezeL_same c.atoms e) hx (fun a ha => freezeL_quiet _ e a ha) hb.1 (CpR.ev E1 hc)
     refine ⟨s', e', bs, hw.trans hw1, hρ.trans hρ1, hat', E1.trans E, fun o ho => ?_, .dat (hd.mono E.ok) hout, hnd, hbs⟩
     rw [hused o ho, freeOf_lk hb.2 ho]
theorem evF_calls (hC : CtxOk P C) {d f : Nat} {fn : Func} (hf : P.funcs[f]? = some fn) {an : Ann} {sm : Nat → Option (Env → Cont (List Rs) → Option (List Rs))}
  (hsm : ∀ c, fn.body = some c → SumsOk C.T fn.ntmps 0 (evCall C d) (evCallQ C) C.fuel an sm c) {rk : List (K × Bool)} {ds : List Dat} {rs : List Rs} (hev : evF C d fn an sm rk ds = some rs) : CallsTo P f ds rs := by
 intro w A vs hA hds
 let s : St := { ρ := fun _ => none, κ := fun _ => 0, os := [], nx := 0, w := w, ok := A, hw := w, hn := w.heap.size }
 have hat : At w.heap.size A w ⟨.e, [], 0⟩ s := by
  refine ⟨⟨Below.refl _ _, Nat.le_refl _, fun b hb => ⟨.inl hb, hA b hb, fun o ob ho => (by cases ho)⟩, fun o ob b ho => (by cases ho), fun o ob o' ob' b ho => (by cases ho), fun o ob ho => (by cases ho), fun o ob ho => (by cases ho), fun o k ep xs ho => ?_, ⟨rfl, Nat.le_refl _⟩⟩, rfl, rfl⟩
  rcases ho with ho | ho <;> cases ho
 have hargs : F2 (CpR s) (ds.map fun x => Cp.of x.k x.x) vs.toList := hds.map_l fun d v hd => Cp.of_A (s := s) rfl rfl hd
 obtain ⟨cs, e', hk, hD⟩ := runB_D hC (evCall_ok hC d) hf hev hsm
 refine (hD _ _ _ [] s _ hat (fun p hp => by cases hp) hargs).mono fun en w' hen => ?_
 obtain ⟨os, s', rfl, hw, hat', _, hf2, _⟩ := hen
 obtain ⟨s2, e2, bs, hw2, hρ2, hat2, E2, _, hout, hnd, hbs⟩ := outs_R hk hat' hf2
 have hww : s2.w = w' := hw2.trans hw
 have hlive : ∀ b ∈ bs, w.heap.size ≤ b ∧ b < s2.w.heap.size ∧ ¬ s2.ok b := by
  intro b hb
  obtain ⟨o, k, ep, xs, _, hl, hr⟩ := hbs b hb
  have hl' : lk s2.os o = some (.row k ep xs) := by rw [hat2.os]; exact hl
  have := hat2.g.own o _ b hl' rfl hr
  exact ⟨this.1, this.2, fun hok => (hat2.g.okb b hok).2.2 o _ hl' rfl hr⟩
 refine ⟨os, bs, rfl, hww ▸ hat2.g.below, hnd, fun b hb => ⟨(hlive b hb).1, hww ▸ (hlive b hb).2.1⟩, ?_⟩
 rw [← hww]
 exact hout.mono fun b hb => ⟨(hat2.g.okb b hb).1, (hat2.g.okb b hb).2.1, fun hc => (hlive b hc).2.2 hb⟩
end
end Go.VI
namespace Go.VI
open Go Go.RowKit
set_option linter.unusedVariables false
set_option linter.unusedSimpArgs false
def K.wf : (k : K) → k.T → Prop
 | .int k, x => inI k x
 | .bool, _ => True
 | .str, s => s.size ≤ maxLen
 | .sl e, l => List.length l ≤ maxLen ∧ ∀ x ∈ (l : List e.T), e.wf x
 | .pr a b, x => a.wf x.1 ∧ b.wf x.2
 | .st k, x => k.wf x
 | .ref k, x => k.wf x
def opFs (P : Program) (rc : K → TypeId → Bool) : K → List Field → Nat → Bool
 | k, [f], off => f.offset == off && P.cellsOf f.type == k.n && rc k f.type
 | .pr a b, f :: l, off => f.offset == off && P.cellsOf f.type == a.n && rc a f.type && opFs P rc b l (off + a.n)
 | _, _, _ => false
def opAr (n : Nat) (rc : K → Bool) : K → Nat → Bool
 | k, 1 => k.n == n && rc k
 | .pr a b, m + 1 => a.n == n && rc a && opAr n rc b m
 | _, _ => false
def opB (P : Program) : Nat → K → TypeId → Bool
 | 0, _, _ => false
 | n + 1, k, t => match P.underlying t with
  | some (.int k') => k == .int k'
  | some .bool => k == .bool
  | some .string => k == .str
  | some (.slice e) => match k with
   | .sl k => P.cellsOf e == k.n && Nat.blt 0 k.n && opB P n k e
   | _ => false
  | some (.struct fs) => match k with
   | .st k => opFs P (opB P n) k fs.toList 0 && P.cellsOf t == k.n
   | _ => false
  | some (.array m e) => match k with
   | .st k => opAr (P.cellsOf e) (fun k => opB P n k e) k m && P.cellsOf t == k.n
   | _ => false
  | _ => false
theorem choose_below {α : Type} {n : Nat} {R : Nat → α → Prop} (h : ∀ i, i < n → ∃ a, R i a) : ∃ l : List α, l.length = n ∧ ∀ i a, l[i]? = some a → R i a := by
 induction n with
 | zero => exact ⟨[], rfl, fun i a h => by simp at h⟩
 | succ n ih =>
  obtain ⟨l, hl, hr⟩ := ih (fun i hi => h i (by omega))
  obtain ⟨a, ha⟩ := h n (by omega)
  refine ⟨l ++ [a], by simp [hl], fun i b hb => ?_⟩
  by_cases hi : i < l.length
  ·
   rw [List.getElem?_append_left hi] at hb
   exact hr i b hb
  ·
   have hi' : i = l.length := by
    have := (List.getElem?_eq_some_iff.1 hb).1
    simp at this
    omega
   subst hi'
   simp at hb
   subst hb
   rw [hl]
   exact ha
theorem flat_cells {β : Type} {w : World} {n : Nat} {adr : Nat → Addr} : ∀ (l : List (β × List Value)) (i0 : Nat), (∀ i zc, l[i]? = some zc → zc.2.length = n ∧ ∀ j u, zc.2[j]? = some u → w.cell? (adr ((i0 + i) * n + j)) = some u) →
  ∀ j u, (l.flatMap (·.2))[j]? = some u → w.cell? (adr (i0 * n + j)) = some u
 | [], i0, _, j, u, hu => by simp at hu
 | z :: l, i0, h, j, u, hu => by
  obtain ⟨h1, h2⟩ := h 0 z rfl
  simp only [List.flatMap_cons] at hu
  by_cases hj : j < z.2.length
  ·
   rw [List.getElem?_append_left hj] at hu
   exact h2 j u hu
  ·
   rw [List.getElem?_append_right (by omega), h1] at hu
   have := flat_cells l (i0 + 1) (fun i zc hi => by
    have := h (i + 1) zc (by simpa using hi)
    rw [show i0 + (i + 1) = i0 + 1 + i by omega] at this
    exact this) (j - n) u hu
   rw [show i0 * n + j = (i0 + 1) * n + (j - n) by rw [Nat.succ_mul]; omega]
   exact this
theorem reps_flat {α : Type} {R : α → List Value → Prop} : ∀ (l : List (α × List Value)), (∀ z ∈ l, R z.1 z.2) → Reps R (l.map (·.1)) (l.flatMap (·.2))
 | [], _ => .nil
 | z :: l, h => by
  simp only [List.map_cons, List.flatMap_cons]
  exact .cons (h z (by simp)) (reps_flat l fun z hz => h z (by simp [hz]))
section
variable {P : Program} {H : Type} {enc : TypeId × Value → H} {w : World} {base : Nat} {spare : Nat → Bool} {held : Bool}
def okW (w : World) : Nat → Prop := fun b => b < w.heap.size
def Opn (P : Program) (enc : TypeId × Value → H) (w : World) (base : Nat) (spare : Nat → Bool) (held : Bool) (k : K) (t : TypeId) : Prop :=
 ∀ (fuel : Nat) (cs : List Value) (x : DataW H × List MemPlace), DataW.trod enc P w base spare held fuel t cs = some x → ∃ a : k.T, k.R w (okW w) a cs ∧ k.wf a
theorem opFs_R {rc : K → TypeId → Bool} (hrc : ∀ k t, rc k t = true → Opn P enc w base spare held k t) {m : Nat} {cs : List Value} : ∀ (l : List Field) (k : K) (off : Nat), opFs P rc k l off = true → cs.length = off + k.n →
  (∀ f ∈ l, ∃ y, DataW.trod enc P w base spare held m f.type ((cs.drop f.offset).take (P.cellsOf f.type)) = some y) → ∃ a : k.T, k.R w (okW w) a (cs.drop off) ∧ k.wf a
 | [], k, off, h, _, _ => by cases k <;> simp [opFs] at h
 | [f], k, off, h, hl, hf => by
  have h' : (f.offset == off && P.cellsOf f.type == k.n && rc k f.type) = true := by cases k <;> exact h
  simp only [Bool.and_eq_true, beq_iff_eq] at h'
  obtain ⟨⟨rfl, h2⟩, h3⟩ := h'
  obtain ⟨y, hy⟩ := hf f (by simp)
  obtain ⟨a, ha, hw⟩ := hrc k f.type h3 _ _ _ hy
  refine ⟨a, ?_, hw⟩
  rwa [h2, List.take_of_length_le (by rw [List.length_drop]; omega)] at ha
 | f :: g :: l, k, off, h, hl, hf => by
  cases k with
  | pr a b =>
   simp only [opFs, Bool.and_eq_true, beq_iff_eq] at h
   obtain ⟨⟨⟨rfl, h2⟩, h3⟩, h4⟩ := h
   obtain ⟨y, hy⟩ := hf f (by simp)
   obtain ⟨x1, hx1, hw1⟩ := hrc a f.type h3 _ _ _ hy
   rw [h2] at hx1
   obtain ⟨x2, hx2, hw2⟩ := opFs_R hrc (g :: l) b (f.offset + a.n) h4 (by rw [hl]; simp [K.n]; omega) (fun q hq => hf q (by simp at hq ⊢; exact .inr hq))
   refine ⟨(x1, x2), ?_, hw1, hw2⟩
   rw [K.R]
   exact ⟨_, _, by rw [← List.drop_drop, List.take_append_drop], hx1, hx2⟩
  | _ => simp [opFs] at h
theorem opAr_R {n : Nat} {rc : K → Bool} {e : TypeId} (hrc : ∀ k, rc k = true → Opn P enc w base spare held k e) {m : Nat} {cs : List Value} : ∀ (q : Nat) (k : K) (i : Nat), opAr n rc k q = true → cs.length = i * n + k.n →
  (∀ j, j < q → ∃ y, DataW.trod enc P w base spare held m e ((cs.drop ((i + j) * n)).take n) = some y) → ∃ a : k.T, k.R w (okW w) a (cs.drop (i * n)) ∧ k.wf a
 | 0, k, i, h, _, _ => by cases k <;> simp [opAr] at h
 | 1, k, i, h, hl, hf => by
  have h' : (k.n == n && rc k) = true := by cases k <;> exact h
  simp only [Bool.and_eq_true, beq_iff_eq] at h'
  obtain ⟨h2, h3⟩ := h'
  obtain ⟨y, hy⟩ := hf 0 (by omega)
  obtain ⟨a, ha, hw⟩ := hrc k h3 _ _ _ hy
  refine ⟨a, ?_, hw⟩
  rwa [Nat.add_zero, List.take_of_length_le (by rw [List.length_drop]; omega)] at ha
 | q + 2, k, i, h, hl, hf => by
  cases k with
  | pr a b =>
   simp only [opAr, Bool.and_eq_true, beq_iff_eq] at h
   obtain ⟨⟨h2, h3⟩, h4⟩ := h
   obtain ⟨y, hy⟩ := hf 0 (by omega)
   obtain ⟨x1, hx1, hw1⟩ := hrc a h3 _ _ _ hy
   rw [Nat.add_zero] at hx1
   obtain ⟨x2, hx2, hw2⟩ := opAr_R hrc (q + 1) b (i + 1) h4 (by rw [hl, Nat.succ_mul]; simp [K.n]; omega) (fun j hj => by
    have := hf (j + 1) (by omega)
    rwa [show i + (j + 1) = i + 1 + j by omega] at this)
   refine ⟨(x1, x2), ?_, hw1, hw2⟩
   rw [K.R]
   refine ⟨_, _, ?_, hx1, hx2⟩
   rw [Nat.succ_mul, ← List.drop_drop, List.take_append_drop]
  | _ => simp [opAr] at h
theorem opn : ∀ (n : Nat) (k : K) (t : TypeId), opB P n k t = true → Opn P enc w base spare held k t
 | 0, _, _, h => by simp [opB] at h
 | n + 1, k, t, h => by
  intro fuel cs x hx
  simp only [opB] at h
  split at h
  ·
   rename_i k' ht
   simp only [beq_iff_eq] at h
   subst h
   obtain ⟨i, rfl, _, hw⟩ := DataW.trod_int ht hx
   have hw' : inI k' i := by simpa [Lit.wf, inI] using hw
   exact ⟨i, by rw [K.R]; exact ⟨rfl, hw'⟩, hw'⟩
  ·
   rename_i ht
   simp only [beq_iff_eq] at h
   subst h
   obtain ⟨b, rfl, _⟩ := DataW.trod_bool ht hx
   exact ⟨b, by rw [K.R], trivial⟩
  ·
   rename_i ht
   simp only [beq_iff_eq] at h
   subst h
   obtain ⟨s, rfl, _, hs⟩ := DataW.trod_string ht hx
   exact ⟨s, by rw [K.R]; exact ⟨rfl, hs⟩, hs⟩
  ·
   rename_i e ht
   split at h
   ·
    rename_i k
    simp only [Bool.and_eq_true, beq_iff_eq, Nat.blt_eq] at h
    obtain ⟨⟨hs, hpos⟩, hrc⟩ := h
    have hd : Opn P enc w base spare held k e := opn n k e hrc
    rcases DataW.trod_slice ht hx with ⟨rfl, _⟩ | ⟨a, len, cap, elems, rest, m, _, rfl, _, hb, hl, hm, hlen, hel, _, _⟩
    ·
     exact ⟨([] : List k.T), by rw [K.R]; exact ⟨none, 0, rfl, ⟨Nat.le_refl _, Nat.zero_le _⟩, .inl rfl⟩, by simp [K.wf]⟩
    ·
     have each : ∀ i, i < len → ∃ z : k.T × List Value, k.wf z.1 ∧ k.R w (okW w) z.1 z.2 ∧ z.2.length = k.n ∧ ∀ j u, z.2[j]? = some u → w.cell? (a.add (i * k.n + j)) = some u := by
      intro i hi
      have h1 := hel i hi
      have h2 : elems[i]? = some (elems[i]'(by omega)) := List.getElem?_eq_getElem (by omega)
      rw [h2, hs, Option.bind_eq_some_iff] at h1
      obtain ⟨c, hc, hy⟩ := h1
      obtain ⟨_, hcl, hcc⟩ := World.cells?_some hc
      obtain ⟨z, hz, hw⟩ := hd _ _ _ hy
      refine ⟨(z, c), hw, hz, hcl, fun j u hu => ?_⟩
      have hj : j < k.n := by
       have := (List.getElem?_eq_some_iff.1 hu).1
       simp only at this
       omega
      have h3 := hcc j hj
      simp only at hu
      rw [hu] at h3
      have : (a.add (i * k.n)).add j = a.add (i * k.n + j) := by
       unfold Addr.add
       by_cases h1 : i * k.n = 0
       ·
        rw [h1]; simp
       ·
        by_cases h2 : j = 0
        ·
         subst h2; simp
        ·
         simp [h1, h2, Nat.add_assoc]
      rw [← h3, this]
     obtain ⟨l, hll, hr⟩ := choose_below each
     have hmax : l.length ≤ maxLen := by unfold maxLen at *; omega
     have hcells := flat_cells (w := w) (n := k.n) (adr := a.add) l 0 (fun i zc hi => by
      have := hr i zc hi
      rw [Nat.zero_add]
      exact ⟨this.2.2.1, this.2.2.2⟩)
     have hmem : ∀ z ∈ l, k.wf z.1 ∧ k.R w (okW w) z.1 z.2 := fun z hz => by
      obtain ⟨i, hi⟩ := List.getElem?_of_mem hz
      exact ⟨(hr i z hi).1, (hr i z hi).2.1⟩
     refine ⟨(l.map (·.1) : List k.T), ?_, ?_⟩
     ·
      rw [K.R]
      refine ⟨some a, cap, by simp [hll], ⟨by simp [hll]; exact hl, by simpa using hmax⟩, ?_⟩
      cases hq : l with
      | nil => exact .inl rfl
      | cons z l' =>
       right
       have hz0 := hr 0 z (by rw [hq]; rfl)
       have hz1 : 0 < z.2.length := by rw [hz0.2.2.1]; exact hpos
       have hc0 := hcells 0 (z.2[0]'hz1) (by rw [hq, List.flatMap_cons, List.getElem?_append_left hz1]; exact List.getElem?_eq_getElem hz1)
       have ha0 : a.add (0 * k.n + 0) = a := by simp [Addr.add]
       rw [ha0] at hc0
       unfold World.cell? at hc0
       split at hc0
       ·
        rename_i c T fz hblk
        cases hsp : a.spot with
        | some v => rw [hsp] at hc0; simp at hc0
        | none =>
         have hadd : ∀ m, a.add m = ⟨a.block, a.off + m, none⟩ := fun m => by
          unfold Addr.add
          by_cases hm : m = 0
          ·
           subst hm; simp [← hsp]
          ·
           simp [hm]
         refine ⟨a.block, a.off, l.flatMap (·.2), by rw [← hsp], (Array.getElem?_eq_some_iff.1 hblk).1, by rw [← hq]; exact reps_flat l fun z hz => (hmem z hz).2, fun j hj => ?_⟩
         have := hcells j _ (List.getElem?_eq_getElem hj)
         rw [hadd] at this
         simpa using this
       ·
        cases hc0
     ·
      refine ⟨by simpa using hmax, fun x hx => ?_⟩
      obtain ⟨z, hz, rfl⟩ := List.mem_map.1 hx
      exact (hmem z hz).1
   ·
    cases h
  ·
   rename_i fs ht
   split at h
   ·
    rename_i k
    simp only [Bool.and_eq_true, beq_iff_eq] at h
    obtain ⟨ys, m, _, _, hl, hlen, hf⟩ := DataW.trod_struct ht hx
    obtain ⟨a, ha, hw⟩ := opFs_R (cs := cs) (m := m) (fun k t hk => opn n k t hk) fs.toList k 0 h.1 (by rw [hl, h.2]; simp) (fun f hf' => by
     obtain ⟨i, hi⟩ := List.getElem?_of_mem hf'
     have hi' : fs[i]? = some f := by simpa using hi
     have h1 := hf i f hi'
     have hlt : i < ys.length := by rw [hlen]; exact (Array.getElem?_eq_some_iff.1 hi').1
     exact ⟨_, by rw [h1, List.getElem?_eq_getElem hlt]⟩)
    exact ⟨a, by rw [K.R]; simpa using ha, hw⟩
   ·
    cases h
  ·
   rename_i q e ht
   split at h
   ·
    rename_i k
    simp only [Bool.and_eq_true, beq_iff_eq] at h
    obtain ⟨ys, m, _, _, hl, hlen, hf⟩ := DataW.trod_array ht hx
    obtain ⟨a, ha, hw⟩ := opAr_R (cs := cs) (m := m) (fun k hk => opn n k e hk) q k 0 h.1 (by rw [hl, h.2]; simp) (fun j hj => by
     have h1 := hf j hj
     have hlt : j < ys.length := by rw [hlen]; exact hj
     rw [Nat.zero_add]
     exact ⟨_, by rw [h1, List.getElem?_eq_getElem hlt]⟩)
    exact ⟨a, by rw [K.R]; simpa using ha, hw⟩
   ·
    cases h
  ·
   cases h
theorem dr_of {n : Nat} {k : K} {t : TypeId} {v : Value} {r : Reach} {bb : Nat} (ho : opB P n k t = true) (hok : Value.okWide P w r bb t v) {fuel : Nat} {x : DataW H × List MemPlace} (h : DataW.trod enc P w base spare held fuel t v.cells.toList = some x) :
  ∃ a : k.T, DR w (okW w) ⟨k, a⟩ v ∧ k.wf a := by
 obtain ⟨a, ha, hw⟩ := opn n k t ho _ _ _ h
 refine ⟨a, ?_, hw⟩
 cases n with
 | zero => simp [opB] at ho
 | succ n =>
  simp only [opB] at ho
  unfold DR
  split at ho
  ·
   rename_i k' ht
   simp only [beq_iff_eq] at ho
   subst ho
   rw [if_pos (by simp [K.single])]
   obtain ⟨_, rfl⟩ := WideShapes.okWide_int ht hok
   exact ha
  ·
   rename_i ht
   simp only [beq_iff_eq] at ho
   subst ho
   rw [if_pos (by simp [K.single])]
   obtain ⟨_, rfl⟩ := WideShapes.okWide_bool ht hok
   exact ha
  ·
   rename_i ht
   simp only [beq_iff_eq] at ho
   subst ho
   rw [if_pos (by simp [K.single])]
   obtain ⟨_, rfl⟩ := WideShapes.okWide_string ht hok
   exact ha
  ·
   rename_i e ht
   split at ho
   ·
    obtain ⟨_, _, _, rfl⟩ := WideShapes.okWide_slice ht hok
    rw [if_pos (by simp [K.single])]
    exact ha
   ·
    cases ho
  ·
   rename_i fs ht
   split at ho
   ·
    simp only [Value.okWide, ht] at hok
    obtain ⟨cs, rfl, _⟩ := hok
    rw [if_neg (by simp [K.single])]
    exact ⟨cs, rfl, ha⟩
   ·
    cases ho
  ·
   rename_i q e ht
   split at ho
   ·
    simp only [Value.okWide, ht] at hok
    obtain ⟨cs, rfl, _⟩ := hok
    rw [if_neg (by simp [K.single])]
    exact ⟨cs, rfl, ha⟩
   ·
    cases ho
  ·
   cases ho
end
theorem K.R_wf {w : World} {ok : Nat → Prop} : ∀ {k : K} {x : k.T} {cs : List Value}, k.R w ok x cs → k.wf x
 | .int k, x, cs, h => by rw [K.R] at h; exact h.2
 | .bool, _, _, _ => trivial
 | .str, x, cs, h => by rw [K.R] at h; exact h.2
 | .sl e, xs, cs, h => by
  rw [K.R] at h
  obtain ⟨A, c, rfl, ⟨_, hl⟩, h⟩ := h
  refine ⟨hl, fun x hx => ?_⟩
  rcases h with h | ⟨b, o, inner, _, _, hr, _⟩
  ·
   rw [h] at hx; cases hx
  ·
   have : ∀ {ys : List e.T} {cs : List Value}, Reps (K.R w ok e) ys cs → ∀ y ∈ ys, e.wf y := by
    intro ys cs hr
    induction hr with
    | nil => intro y hy; cases hy
    | cons a b ih =>
     intro y hy
     rcases List.mem_cons.1 hy with rfl | hy
     ·
      exact K.R_wf a
     ·
      exact ih y hy
   exact this hr x hx
 | .pr a b, x, cs, h => by
  rw [K.R] at h
  obtain ⟨c1, c2, _, h1, h2⟩ := h
  exact ⟨K.R_wf h1, K.R_wf h2⟩
 | .st k, x, cs, h => by
  rw [K.R] at h
  exact K.R_wf (k := k) h
 | .ref _, x, cs, h => by rw [K.R] at h; exact h.elim
theorem DR_wf {w : World} {ok : Nat → Prop} {k : K} {x : k.T} {v : Value} (h : DR w ok ⟨k, x⟩ v) : k.wf x := by
 unfold DR at h
 split at h
 ·
  exact K.R_wf h
 ·
  obtain ⟨cs, _, h⟩ := h
  exact K.R_wf h
theorem DA_wf {w : World} {ok : Nat → Prop} : ∀ {d : Dat} {v : Value}, DA w ok d v → d.k.wf d.x
 | ⟨.ref k, x⟩, v, h => by
  obtain ⟨b, o, cs, _, _, h, _⟩ := h
  exact K.R_wf (k := k) h
 | ⟨.int _, _⟩, _, h | ⟨.bool, _⟩, _, h | ⟨.str, _⟩, _, h | ⟨.sl _, _⟩, _, h | ⟨.pr _ _, _⟩, _, h | ⟨.st _, _⟩, _, h => DR_wf h
def DsWf : List Dat → Prop
 | [] => True
 | d :: l => d.k.wf d.x ∧ DsWf l
theorem DsWf_of {w : World} {ok : Nat → Prop} : ∀ {ds : List Dat} {vs : List Value}, F2 (DA w ok) ds vs → DsWf ds
 | _, _, .nil => trivial
 | _, _, .cons a b => ⟨DA_wf a, DsWf_of b⟩
theorem calls_wf {P : Program} {f : Nat} {ds : List Dat} {rs : List Rs} (h : DsWf ds → CallsTo P f ds rs) : CallsTo P f ds rs :=
 fun w A vs hA hds => h (DsWf_of hds) w A vs hA hds
theorem calls_bool {P : Program} {f : Nat} {ds : List Dat} {b : Bool} (h : CallsTo P f ds [.dat .bool b]) {w : World} {vs : Array Value} (ha : F2 (DR w (okW w)) ds vs.toList) :
  Calls P f vs w fun en w' => en = .returned (.bool b) ∧ Below w.heap.size w w' := by
 refine (h w (okW w) vs (fun _ h => h) (ha.imp fun _ _ => DA_of)).mono fun en w' hen => ?_
 obtain ⟨os, bs, rfl, hb, _, _, ho⟩ := hen
 cases ho with
 | dat hd ho' =>
  cases ho'
  unfold DR at hd
  rw [if_pos (by simp [K.single])] at hd
  have hd : K.R _ _ .bool b [_] := hd
  rw [K.R] at hd
  obtain rfl := (List.cons.inj hd).1
  exact ⟨rfl, hb⟩
end Go.VI
namespace Go.VI
open Go Go.RowKit
set_option linter.unusedVariables false
set_option linter.unusedSimpArgs false
inductive SA where
 | d (k : K)
 | rf (k : K) (c : Nat)
 | fx (a : Atom)
abbrev SA.T : SA → Type
 | .d k => k.T
 | .rf k _ => k.T
 | .fx _ => Unit
def SA.dec : (x : SA) → Atom → Option x.T
 | .d k, .d k' y => K.cast (k := k') (k' := k) y
 | .d _, _ => none
 | .rf k c, .ref k' y c' => cond (Nat.beq c c') (K.cast (k := k') (k' := k) y) none
 | .rf _ _, _ => none
 | .fx b, a => cond (fxEq b a) (some ()) none
def SA.enc : (x : SA) → x.T → Atom
 | .d k, y => .d k y
 | .rf k c, y => .ref k y c
 | .fx b, _ => b
theorem SA.dec_enc : ∀ {x : SA} {a : Atom} {y : x.T}, x.dec a = some y → x.enc y = a
 | .d k, a, y, h => by
  cases a with
  | d k' z =>
   simp only [SA.dec, K.cast] at h
   split at h
   ·
    rename_i hk
    subst hk
    cases h
    rfl
   ·
    cases h
  | _ => simp [SA.dec] at h
 | .rf k c, a, y, h => by
  cases a with
  | ref k' z c' =>
   simp only [SA.dec] at h
   cases hb : Nat.beq c c'
   ·
    rw [hb] at h; cases h
   ·
    rw [hb] at h
    simp only [cond_true, K.cast] at h
    split at h
    ·
     rename_i hk
     subst hk
     cases h
     rw [← Nat.eq_of_beq_eq_true hb]
     rfl
    ·
     cases h
  | _ => simp [SA.dec] at h
 | .fx b, a, y, h => by
  simp only [SA.dec] at h
  cases hb : fxEq b a
  ·
   rw [hb] at h; cases h
  ·
   exact fxEq_eq hb
abbrev SL.T : List SA → Type
 | [] => Unit
 | x :: l => x.T × SL.T l
def SL.dec : (l : List SA) → List Atom → Option (SL.T l)
 | [], [] => some ()
 | x :: l, a :: as => match x.dec a, SL.dec l as with
  | some y, some r => some (y, r)
  | _, _ => none
 | _, _ => none
def SL.enc : (l : List SA) → SL.T l → List Atom
 | [], _ => []
 | x :: l, d => x.enc d.1 :: SL.enc l d.2
theorem SL.dec_enc : ∀ {l : List SA} {as : List Atom} {d : SL.T l}, SL.dec l as = some d → SL.enc l d = as
 | [], [], d, _ => rfl
 | [], _ :: _, _, h => by simp [SL.dec] at h
 | _ :: _, [], _, h => by simp [SL.dec] at h
 | x :: l, a :: as, d, h => by
  simp only [SL.dec] at h
  split at h
  ·
   rename_i y r h1 h2
   cases h
   simp only [SL.enc]
   rw [SA.dec_enc h1, SL.dec_enc h2]
  ·
   cases h
inductive SV where
 | a (x : SA)
 | g (l : List SA)
 | j
abbrev SV.T : SV → Type
 | .a x => x.T
 | .g l => SL.T l
 | .j => Unit
def SV.dec : (x : SV) → AV → Option x.T
 | .a x, .c (.a u) => x.dec u
 | .g l, .c (.g as) => SL.dec l as
 | .j, _ => some ()
 | _, _ => none
def SV.enc : (x : SV) → x.T → AV
 | .a x, y => .c (.a (x.enc y))
 | .g l, d => .c (.g (SL.enc l d))
 | .j, _ => .junk
theorem SV.dec_enc : ∀ {x : SV} {v : AV} {y : x.T}, x.dec v = some y → x.enc y = v ∨ x.enc y = .junk
 | .a x, .c (.a u), y, h => by left; simp only [SV.enc]; rw [SA.dec_enc h]
 | .g l, .c (.g as), y, h => by left; simp only [SV.enc]; rw [SL.dec_enc h]
 | .j, _, _, _ => .inr rfl
 | .a x, .c (.g _), _, h => by simp [SV.dec] at h
 | .a x, .t _, _, h => by simp [SV.dec] at h
 | .g _, .c (.a _), _, h => by simp [SV.dec] at h
 | .g _, .t _, _, h => by simp [SV.dec] at h
inductive SO where
 | box (l : List SA)
 | row (k : K) (ep : Nat)
 | frz (k : K) (ep : Nat)
 | iter
 | unb
abbrev SO.T : SO → Type
 | .box l => SL.T l
 | .row k _ => List k.T
 | .frz k _ => List k.T
 | .iter => ByteArray × Nat
 | .unb => Unit
def SO.dec : (x : SO) → Ob → Option x.T
 | .box l, .box as => SL.dec l as
 | .row k ep, .row k' ep' xs => cond (Nat.beq ep ep') (K.cast (k := .sl k') (k' := .sl k) xs) none
 | .frz k ep, .frz k' ep' xs => cond (Nat.beq ep ep') (K.cast (k := .sl k') (k' := .sl k) xs) none
 | .iter, .iter s p => some (s, p)
 | .unb, .unb => some ()
 | _, _ => none
def SO.enc : (x : SO) → x.T → Ob
 | .box l, d => .box (SL.enc l d)
 | .row k ep, xs => .row k ep xs
 | .frz k ep, xs => .frz k ep xs
 | .iter, d => .iter d.1 d.2
 | .unb, _ => .unb
theorem SO.dec_enc : ∀ {x : SO} {o : Ob} {y : x.T}, x.dec o = some y → x.enc y = o
 | .box l, o, y, h => by
  cases o with
  | box as => simp only [SO.enc]; rw [SL.dec_enc h]
  | _ => simp [SO.dec] at h
 | .row k ep, o, y, h => by
  cases o with
  | row k' ep' xs =>
   simp only [SO.dec] at h
   cases hb : Nat.beq ep ep'
   ·
    rw [hb] at h; cases h
   ·
    rw [hb] at h
    simp only [cond_true, K.cast] at h
    split at h
    ·
     rename_i hk
     cases hk
     cases h
     rw [Nat.eq_of_beq_eq_true hb]
     rfl
    ·
     cases h
  | _ => simp [SO.dec] at h
 | .frz k ep, o, y, h => by
  cases o with
  | frz k' ep' xs =>
   simp only [SO.dec] at h
   cases hb : Nat.beq ep ep'
   ·
    rw [hb] at h; cases h
   ·
    rw [hb] at h
    simp only [cond_true, K.cast] at h
    split at h
    ·
     rename_i hk
     cases hk
     cases h
     rw [Nat.eq_of_beq_eq_true hb]
     rfl
    ·
     cases h
  | _ => simp [SO.dec] at h
 | .iter, o, y, h => by
  cases o with
  | iter s p => simp only [SO.dec, Option.some.injEq] at h; subst h; rfl
  | _ => simp [SO.dec] at h
 | .unb, o, y, h => by
  cases o with
  | unb => rfl
  | _ => simp [SO.dec] at h
structure Sh where
 sl : List (Nat × SV)
 os : List (Nat × SO)
 nx : Nat
abbrev SlT : List (Nat × SV) → Type
 | [] => Unit
 | x :: l => x.2.T × SlT l
abbrev OsT : List (Nat × SO) → Type
 | [] => Unit
 | x :: l => x.2.T × OsT l
abbrev Sh.T (s : Sh) : Type := SlT s.sl × OsT s.os
def decSl : (l : List (Nat × SV)) → Tr → Option (SlT l)
 | [], _ => some ()
 | x :: l, tm => match x.2.dec (tm.get x.1), decSl l tm with
  | some y, some r => some (y, r)
  | _, _ => none
def encSl : (l : List (Nat × SV)) → SlT l → List (Nat × AV)
 | [], _ => []
 | x :: l, d => (x.1, x.2.enc d.1) :: encSl l d.2
def decOs : (l : List (Nat × SO)) → List (Nat × Ob) → Option (OsT l)
 | [], [] => some ()
 | x :: l, (n, o) :: os => cond (Nat.beq x.1 n) (match x.2.dec o, decOs l os with
  | some y, some r => some (y, r)
  | _, _ => none) none
 | _, _ => none
def encOs : (l : List (Nat × SO)) → OsT l → List (Nat × Ob)
 | [], _ => []
 | x :: l, d => (x.1, x.2.enc d.1) :: encOs l d.2
def Sh.dec (s : Sh) (e : Env) : Option s.T := cond (Nat.beq s.nx e.nx) (match decSl s.sl e.tm, decOs s.os e.os with
 | some a, some b => some (a, b)
 | _, _ => none) none
def Sh.enc (s : Sh) (d : s.T) : Env := ⟨mkTm (encSl s.sl d.1), encOs s.os d.2, s.nx⟩
theorem decOs_enc : ∀ {l : List (Nat × SO)} {os : List (Nat × Ob)} {d : OsT l}, decOs l os = some d → encOs l d = os
 | [], [], d, _ => rfl
 | [], _ :: _, _, h => by simp [decOs] at h
 | _ :: _, [], _, h => by simp [decOs] at h
 | x :: l, (n, o) :: os, d, h => by
  simp only [decOs] at h
  cases hb : Nat.beq x.1 n
  ·
   rw [hb] at h; cases h
  ·
   rw [hb] at h
   simp only [cond_true] at h
   split at h
   ·
    rename_i y r h1 h2
    cases h
    simp only [encOs]
    rw [SO.dec_enc h1, decOs_enc h2, Nat.eq_of_beq_eq_true hb]
   ·
    cases h
theorem decSl_enc {tm : Tr} : ∀ {l : List (Nat × SV)} {d : SlT l}, decSl l tm = some d → ∀ t, (mkTm (encSl l d)).get t = tm.get t ∨ (mkTm (encSl l d)).get t = .junk
 | [], d, _, t => by
  right
  show Tr.get .e t = _
  unfold Tr.get
  rw [Tr.getF_e]
 | x :: l, d, h, t => by
  simp only [decSl] at h
  split at h
  ·
   rename_i y r h1 h2
   cases h
   simp only [encSl, mkTm]
   by_cases e : x.1 = t
   ·
    subst e
    rcases Tr.get_set_any (mkTm (encSl l r)) x.1 (x.2.enc y) with h3 | h3
    ·
     rw [h3]; exact SV.dec_enc h1
    ·
     right; exact h3
   ·
    rw [Tr.get_set_ne _ _ e]
    exact decSl_enc h2 t
  ·
   cases h
theorem Sh.dec_le {s : Sh} {e : Env} {d : s.T} (h : s.dec e = some d) : EnvLe (s.enc d) e := by
 unfold Sh.dec at h
 cases hb : Nat.beq s.nx e.nx
 ·
  rw [hb] at h; cases h
 ·
  rw [hb] at h
  simp only [cond_true] at h
  split at h
  ·
   rename_i a b h1 h2
   cases h
   exact ⟨decOs_enc h2, Nat.eq_of_beq_eq_true hb, decSl_enc h1⟩
  ·
   cases h
def Sh.sum {α : Type} (s : Sh) (F : s.T → Cont α → Option α) : Env → Cont α → Option α := fun e k => match s.dec e with
 | some d => F d k
 | none => none
end Go.VI
