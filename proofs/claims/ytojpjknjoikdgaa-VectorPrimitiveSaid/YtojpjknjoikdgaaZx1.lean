/- The machine's side: plain Lean functions for the Go functions, each with its contract. Written by a program of this session (wip/xprint.py). -/
import Derived.Test.YtojpjknjoikdgaaZx0
namespace Go.Proofs.Ytojpjknjoikdgaa.Z
open Go.RowKit Go.Proofs.YtojpjknjoikdgaaW.PrintWords Go.Proofs.YtojpjknjoikdgaaW.PrintLast Go.Proofs.YtojpjknjoikdgaaW.PrintMore
attribute [local go_sem] max2_int min2_int max_two min_two max_three min_three max_four min_four   -- for this text's walks alone
set_option linter.unusedVariables false
set_option linter.unusedSimpArgs false

/-! ### words of our own -/
/-- The 64-bit range. -/
def in64 (x : Int) : Prop := -9223372036854775808 ≤ x ∧ x ≤ 9223372036854775807
instance (x : Int) : Decidable (in64 x) := by unfold in64; infer_instance
theorem wf64 {x : Int} : (Lit.int .i64 x).wf = true ↔ in64 x := by
  simp [Lit.wf, in64, IntKind.min, IntKind.max, IntKind.signed, IntKind.bits]
theorem wrap64_id {n : Int} (h : in64 n) : wrap64 n = n := by unfold wrap64; unfold in64 at h; omega
theorem wrap_u64 (n : Int) : IntKind.u64.wrap n = n % 18446744073709551616 := by simp [IntKind.wrap, IntKind.bits, IntKind.signed]
theorem wrap_u64_id (n : Int) (h0 : 0 ≤ n) (h1 : n < 18446744073709551616) : IntKind.u64.wrap n = n := by rw [wrap_u64]; omega
theorem wraps_u64 (n : Int) (h₀ : 0 ≤ n) (h₁ : n < 2 ^ 64) : IntKind.u64.wrap n = n := by rw [wrap_u64]; omega
theorem and_low {x : Int} (h0 : 0 ≤ x) (h1 : x < 18446744073709551616) : bits .and .u64 x 4294967295 = x % 4294967296 :=
  bits_mask .u64 64 (by decide) wraps_u64 32 (by decide) x h0 h1
theorem mul_le_low {a b : Int} (ha : 0 ≤ a) (ha' : a ≤ 4294967295) (hb : 0 ≤ b) (hb' : b ≤ 4294967295) : 0 ≤ a * b ∧ a * b ≤ 18446744065119617025 := by
  refine ⟨Int.mul_nonneg ha hb, ?_⟩
  exact Int.le_trans (Int.mul_le_mul ha' hb' hb (by decide)) (by decide)
/-- A product out of halves. -/
theorem halves {x y x1 x0 y1 y0 : Int} (ex : x = 4294967296 * x1 + x0) (ey : y = 4294967296 * y1 + y0) : x * y = 18446744073709551616 * (x1 * y1) + 4294967296 * (x1 * y0) + 4294967296 * (x0 * y1) + x0 * y0 := by
  rw [ex, ey]
  simp only [Int.add_mul, Int.mul_add]
  have a1 : 4294967296 * x1 * (4294967296 * y1) = 18446744073709551616 * (x1 * y1) := by
    rw [show (18446744073709551616 : Int) = 4294967296 * 4294967296 from rfl]; ac_rfl
  have a2 : 4294967296 * x1 * y0 = 4294967296 * (x1 * y0) := by ac_rfl
  have a3 : x0 * (4294967296 * y1) = 4294967296 * (x0 * y1) := by ac_rfl
  omega
/-- The upper half of a product, as the program reckons it. -/
theorem times_hi {x y : Int} (hx : 0 ≤ x) (hx' : x < 18446744073709551616) (hy : 0 ≤ y) (hy' : y < 18446744073709551616) :
    IntKind.u64.wrap (IntKind.u64.wrap (IntKind.u64.wrap (x / 4294967296 * (y / 4294967296)) + IntKind.u64.wrap (IntKind.u64.wrap (x / 4294967296 * (y % 4294967296)) + IntKind.u64.wrap (x % 4294967296 * (y % 4294967296)) / 4294967296) / 4294967296) +
      IntKind.u64.wrap (IntKind.u64.wrap (x % 4294967296 * (y / 4294967296)) + bits .and .u64 (IntKind.u64.wrap (IntKind.u64.wrap (x / 4294967296 * (y % 4294967296)) + IntKind.u64.wrap (x % 4294967296 * (y % 4294967296)) / 4294967296)) 4294967295) / 4294967296) = x * y / 18446744073709551616 := by
  have ex : x = 4294967296 * (x / 4294967296) + x % 4294967296 := by omega
  have ey : y = 4294967296 * (y / 4294967296) + y % 4294967296 := by omega
  have ep := halves ex ey
  have b1 := mul_le_low (a := x / 4294967296) (b := y / 4294967296) (by omega) (by omega) (by omega) (by omega)
  have b2 := mul_le_low (a := x / 4294967296) (b := y % 4294967296) (by omega) (by omega) (by omega) (by omega)
  have b3 := mul_le_low (a := x % 4294967296) (b := y / 4294967296) (by omega) (by omega) (by omega) (by omega)
  have b4 := mul_le_low (a := x % 4294967296) (b := y % 4294967296) (by omega) (by omega) (by omega) (by omega)
  generalize x / 4294967296 * (y / 4294967296) = p11 at *
  generalize x / 4294967296 * (y % 4294967296) = p10 at *
  generalize x % 4294967296 * (y / 4294967296) = p01 at *
  generalize x % 4294967296 * (y % 4294967296) = p00 at *
  rw [wrap_u64_id p11 (by omega) (by omega), wrap_u64_id p10 (by omega) (by omega), wrap_u64_id p01 (by omega) (by omega), wrap_u64_id p00 (by omega) (by omega)]
  rw [wrap_u64_id (p10 + p00 / 4294967296) (by omega) (by omega), and_low (by omega) (by omega), wrap_u64_id (p01 + _) (by omega) (by omega), wrap_u64_id (p11 + _) (by omega) (by omega), wrap_u64_id _ (by omega) (by omega), ep]
  omega
theorem drawn_trans {w w1 w2 : World} (h : Drawn0 w w1) (k : Drawn0 w1 w2) : Drawn0 w w2 := by
  obtain ⟨⟨n, rfl⟩⟩ := k
  exact h.step n
theorem gcd_step {a b : Int} (ha : 0 ≤ a) (hb : 0 ≤ b) : Int.gcd b (a % b) = Int.gcd a b := by
  obtain ⟨m, rfl⟩ := Int.eq_ofNat_of_zero_le ha
  obtain ⟨n, rfl⟩ := Int.eq_ofNat_of_zero_le hb
  rw [← Int.natCast_emod]
  show Nat.gcd n (m % n) = Nat.gcd m n
  rw [Nat.gcd_comm m n, Nat.gcd_rec n m, Nat.gcd_comm]
theorem drop_cons_rd {l : List Int} {i : Nat} (h : i < l.length) : l.drop i = rd l i :: l.drop (i + 1) := by
  rw [List.drop_eq_getElem_cons h]
  simp [rd, List.getD_eq_getElem?_getD, h]
theorem set_zeros {acc : List Int} {m : Nat} (v : Int) : (acc ++ List.replicate (m + 1) 0).set acc.length v = (acc ++ [v]) ++ List.replicate m 0 := by
  rw [List.set_append_right _ _ (Nat.le_refl _)]
  simp [List.replicate_succ]
theorem RI_cell {k : IntKind} {W : World} {e base g cap n : Nat} {ok : Nat → Prop} {xs : List Int} (h : (Kd.int k).R e W base ok (.slice (some ⟨g, 0, none⟩) n cap) xs) (i : Nat) (hi : i < xs.length) : W.cell? ⟨g, i, none⟩ = some (.int k (rd xs i)) ∧ W.frozen? ⟨g, i, none⟩ = false := by
  obtain ⟨rfl, _, _⟩ := Kd.R_reads' h
  exact Kd.R_cell 0 h (i : Int) (by omega) (by omega)
theorem RI_put {k : IntKind} {W : World} {e base g cap n : Nat} {ok : Nat → Prop} {xs : List Int} (h : (Kd.int k).R e W base ok (.slice (some ⟨g, 0, none⟩) n cap) xs) (i : Nat) (x : Int) : (Kd.int k).R e (W.setCell ⟨g, i, none⟩ (.int k x)) base ok (.slice (some ⟨g, 0, none⟩) n cap) (xs.set i x) := by
  obtain ⟨rfl, _, _⟩ := Kd.R_reads' h
  exact (Kd.R_put h (i : Int) x).1
/-- What 'each' tells, for an operation g. -/
def each_go (g : Int → Int → Option (Int × Bool)) : List Int → List Int → List Int → Option (List Int × Int)
  | x :: a, y :: b, acc => (g x y).bind fun r => if r.2 = true then each_go g a b (acc ++ [r.1]) else some ([], 3)
  | _, _, acc => some (acc, 0)
def each_f (g : Int → Int → Option (Int × Bool)) (a b : List Int) : Option (List Int × Int) := if a.length ≤ 35184372088832 then (if a.length = b.length then each_go g a b [] else some ([], 2)) else none
theorem each_step {g : Int → Int → Option (Int × Bool)} {a b acc : List Int} {i : Nat} (ha : i < a.length) (hb : i < b.length) {q : List Int × Int} (h : each_go g (a.drop i) (b.drop i) acc = some q) :
    ∃ r : Int × Bool, g (rd a i) (rd b i) = some r ∧ (r.2 = true → each_go g (a.drop (i + 1)) (b.drop (i + 1)) (acc ++ [r.1]) = some q) ∧ (r.2 = false → q = ([], 3)) := by
  rw [drop_cons_rd ha, drop_cons_rd hb, each_go] at h
  obtain ⟨r, h1, h2⟩ := Option.bind_eq_some_iff.mp h
  refine ⟨r, h1, fun e => ?_, fun e => ?_⟩
  · rw [if_pos e] at h2
    exact h2
  · rw [if_neg (by simp [e])] at h2
    exact (Option.some.inj h2).symm

/-! ### how what comes in is read: from the statement's reading to the kinds -/
/-- Whatever reads at type t is of this kind, and keeps wf. -/
def Opens (P : Program) (t : TypeId) {α : Type} (d : Kd α) (wf : α → Prop) : Prop :=
  ∀ {H : Type} {enc : TypeId × Value → H} {w : World} {base : Nat} {spare : Nat → Bool} {held : Bool} {fuel : Nat} {cs : List Value} {x : DataW H × List MemPlace},
    DataW.trod enc P w base spare held fuel t cs = some x → ∃ a, d.K w a cs ∧ wf a
theorem opens_int {P : Program} {t : TypeId} {k : IntKind} (ht : P.underlying t = some (.int k)) : Opens P t (Kd.int k) (fun n => (Lit.int k n).wf = true) := by
  intro H enc w base spare held fuel cs x h
  obtain ⟨n, rfl, _, hw⟩ := DataW.trod_int ht h
  exact ⟨n, rfl, hw⟩
theorem opens_bool {P : Program} {t : TypeId} (ht : P.underlying t = some .bool) : Opens P t Kd.bool (fun _ => True) := by
  intro H enc w base spare held fuel cs x h
  obtain ⟨b, rfl, _⟩ := DataW.trod_bool ht h
  exact ⟨b, rfl, trivial⟩
theorem opens_string {P : Program} {t : TypeId} (ht : P.underlying t = some .string) : Opens P t Kd.string (fun s => s.size ≤ maxLen) := by
  intro H enc w base spare held fuel cs x h
  obtain ⟨s, rfl, _, hs⟩ := DataW.trod_string ht h
  exact ⟨s, rfl, hs⟩
theorem addr_add_add (a : Addr) (m j : Nat) : (a.add m).add j = a.add (m + j) := by
  unfold Addr.add
  by_cases h1 : m = 0
  · subst h1
    simp
  · by_cases h2 : j = 0
    · subst h2
      simp
    · simp [h1, h2, Nat.add_assoc]
theorem choose_below {α : Type} {n : Nat} {R : Nat → α → Prop} (h : ∀ i, i < n → ∃ a, R i a) : ∃ l : List α, l.length = n ∧ ∀ i a, l[i]? = some a → R i a := by
  induction n with
  | zero => exact ⟨[], rfl, fun i a h => by simp at h⟩
  | succ n ih =>
    obtain ⟨l, hl, hr⟩ := ih (fun i hi => h i (by omega))
    obtain ⟨a, ha⟩ := h n (by omega)
    refine ⟨l ++ [a], by simp [hl], fun i b hb => ?_⟩
    by_cases hi : i < l.length
    · rw [List.getElem?_append_left hi] at hb
      exact hr i b hb
    · have hi' : i = l.length := by
        have := (List.getElem?_eq_some_iff.1 hb).1
        simp at this
        omega
      subst hi'
      simp at hb
      subst hb
      rw [hl]
      exact ha
theorem opens_slice {P : Program} {t e : TypeId} {α : Type} {d : Kd α} {wf : α → Prop} (ht : P.underlying t = some (.slice e)) (hs : P.cellsOf e = d.sz) (hd : Opens P e d wf) : Opens P t (Kd.slice e d) (fun l => l.length ≤ maxLen ∧ ∀ x ∈ l, wf x) := by
  intro H enc w base spare held fuel cs x h
  rcases DataW.trod_slice ht h with ⟨rfl, _⟩ | ⟨a, len, cap, elems, rest, n, _, rfl, _, hb, hl, hm, hlen, hel, _, _⟩
  · exact ⟨[], ⟨none, 0, rfl, Nat.le_refl _, Kd.C_nil _ _⟩, by simp, fun x hx => by simp at hx⟩
  · have each : ∀ i, i < len → ∃ z : α, wf z ∧ ∃ c : List Value, c.length = d.sz ∧ d.K w z c ∧ ∀ j u, c[j]? = some u → w.cell? (a.add (i * d.sz + j)) = some u := by
      intro i hi
      have h1 := hel i hi
      have h2 : elems[i]? = some (elems[i]'(by omega)) := List.getElem?_eq_getElem (by omega)
      rw [h2, hs, Option.bind_eq_some_iff] at h1
      obtain ⟨c, hc, hy⟩ := h1
      obtain ⟨_, hcl, hcc⟩ := World.cells?_some hc
      obtain ⟨z, hz, hw⟩ := hd hy
      refine ⟨z, hw, c, hcl, hz, fun j u hu => ?_⟩
      have hj : j < d.sz := by
        have := (List.getElem?_eq_some_iff.1 hu).1
        omega
      have h3 := hcc j hj
      rw [hu] at h3
      rw [← h3, addr_add_add]
    obtain ⟨l, hll, hr⟩ := choose_below each
    have hmax : l.length ≤ 9223372036854775807 := by unfold maxLen at hm; omega
    refine ⟨l, ⟨some a, cap, by rw [hll], by omega, rfl, hmax, fun _ => ⟨a, rfl, fun j p hp => ?_⟩⟩, by unfold maxLen; omega, fun z hz => ?_⟩
    · obtain ⟨_, c, h1, h2, h3⟩ := hr j p hp
      exact ⟨c, h1, h2, h3⟩
    · obtain ⟨i, hi⟩ := List.getElem?_of_mem hz
      exact (hr i z hi).1
theorem struct_field {P : Program} {t : TypeId} {fs : Array Field} {α : Type} {d : Kd α} {wf : α → Prop} (ht : P.underlying t = some (.struct fs)) (j : Nat) (f : Field) (hj : fs[j]? = some f) (hs : P.cellsOf f.type = d.sz) (hd : Opens P f.type d wf)
    {H : Type} {enc : TypeId × Value → H} {w : World} {base : Nat} {spare : Nat → Bool} {held : Bool} {fuel : Nat} {cs : List Value} {x : DataW H × List MemPlace} (h : DataW.trod enc P w base spare held fuel t cs = some x) :
    ∃ a, d.K w a ((cs.drop f.offset).take d.sz) ∧ wf a := by
  obtain ⟨xs, n, _, _, _, hx, hf⟩ := DataW.trod_struct ht h
  have h1 := hf j f hj
  have hlt : j < xs.length := by rw [hx]; exact (Array.getElem?_eq_some_iff.1 hj).1
  rw [List.getElem?_eq_getElem hlt, hs] at h1
  exact hd h1
theorem array_field {P : Program} {t e : TypeId} {m : Nat} {α : Type} {d : Kd α} {wf : α → Prop} (ht : P.underlying t = some (.array m e)) (j : Nat) (hj : j < m) (hs : P.cellsOf e = d.sz) (hd : Opens P e d wf)
    {H : Type} {enc : TypeId × Value → H} {w : World} {base : Nat} {spare : Nat → Bool} {held : Bool} {fuel : Nat} {cs : List Value} {x : DataW H × List MemPlace} (h : DataW.trod enc P w base spare held fuel t cs = some x) :
    ∃ a, d.K w a ((cs.drop (j * d.sz)).take d.sz) ∧ wf a := by
  obtain ⟨xs, n, _, _, _, hx, hf⟩ := DataW.trod_array ht h
  have h1 := hf j hj
  have hlt : j < xs.length := by rw [hx]; exact hj
  rw [List.getElem?_eq_getElem hlt, hs] at h1
  exact hd h1
theorem struct_len {P : Program} {t : TypeId} {fs : Array Field} (ht : P.underlying t = some (.struct fs)) {H : Type} {enc : TypeId × Value → H} {w : World} {base : Nat} {spare : Nat → Bool} {held : Bool} {fuel : Nat} {cs : List Value} {x : DataW H × List MemPlace} (h : DataW.trod enc P w base spare held fuel t cs = some x) : cs.length = P.cellsOf t := by
  obtain ⟨_, _, _, _, hl, _⟩ := DataW.trod_struct ht h
  exact hl
theorem array_len {P : Program} {t e : TypeId} {m : Nat} (ht : P.underlying t = some (.array m e)) {H : Type} {enc : TypeId × Value → H} {w : World} {base : Nat} {spare : Nat → Bool} {held : Bool} {fuel : Nat} {cs : List Value} {x : DataW H × List MemPlace} (h : DataW.trod enc P w base spare held fuel t cs = some x) : cs.length = P.cellsOf t := by
  obtain ⟨_, _, _, _, hl, _⟩ := DataW.trod_array ht h
  exact hl
theorem pair_at {α β : Type} {a : Kd α} {b : Kd β} {w : World} {x : α} {y : β} {cs : List Value} {o n : Nat} (h1 : a.K w x ((cs.drop o).take n)) (h2 : b.K w y (cs.drop (o + n))) : (Kd.pair a b).K w (x, y) (cs.drop o) :=
  ⟨(cs.drop o).take n, cs.drop (o + n), by rw [← List.drop_drop, List.take_append_drop], h1, h2⟩
theorem last_at {α : Type} {a : Kd α} {w : World} {x : α} {cs : List Value} {o n : Nat} (h1 : a.K w x ((cs.drop o).take n)) (hl : cs.length ≤ o + n) : a.K w x (cs.drop o) := by
  rwa [List.take_of_length_le (by rw [List.length_drop]; omega)] at h1
theorem okWide_array {P : Program} {w : World} {r : Reach} {base : Nat} {t e : TypeId} {m : Nat} {v : Value} (ht : P.underlying t = some (.array m e)) (h : Value.okWide P w r base t v) : ∃ cs, v = .agg cs ∧ cs.size = P.cellsOf t := by
  simp only [Value.okWide, ht] at h
  obtain ⟨cs, h1, h2, _⟩ := h
  exact ⟨cs, h1, h2⟩

def wf30 : S30 → Prop := fun x => (fun n => (Lit.int .i64 n).wf = true) x.f0 ∧ (fun n => (Lit.int .i64 n).wf = true) x.f1
theorem o30 : Opens Try.prog 30 k30 wf30 := by
  intro H enc w base spare held fuel cs x h
  have hl := array_len Try.underlying30 h
  obtain ⟨a0, h0, w0⟩ := array_field Try.underlying30 0 (by decide) (by kernel_rfl) (opens_int Try.underlying2) h
  obtain ⟨a1, h1, w1⟩ := array_field Try.underlying30 1 (by decide) (by kernel_rfl) (opens_int Try.underlying2) h
  refine ⟨⟨a0, a1⟩, ?_, w0, w1⟩
  exact (pair_at (o := 0) (n := 1) h0 (last_at (o := 1) (n := 1) h1 (by rw [hl]; exact of_decide_eq_true (by kernel_rfl))))
/-! ### vector_each: function 34, by hand -/
set_option maxHeartbeats 8000000 in
set_option maxRecDepth 100000 in
theorem vector_each.calls (f : Nat) (caps : Array Value) (g : Int → Int → Option (Int × Bool)) (A0 : Option Addr) (c0 : Nat) (l0 : List Int) (A1 : Option Addr) (c1 : Nat) (l1 : List Int) (r1 : List Int) (r2 : Int) (w : World)
    (hr0 : Kd.C (Kd.int .i64) w A0 l0.length l0) (hc0 : l0.length ≤ c0) (hr1 : Kd.C (Kd.int .i64) w A1 l1.length l1) (hc1 : l1.length ≤ c1)
    {fn : Func} (hfn : Try.prog.funcs[f]? = some fn) (hname : (fn.name == "runtime.NumGoroutine") = false) (hbody : fn.body.isSome = true)
    (hop : ∀ (x y : Int) (r1 : Int) (r2 : Bool) (W : World), Below w.heap.size w W → g x y = some (r1, r2) →
      Calls Try.prog f (#[.int .i64 x, .int .i64 y] ++ caps) W fun e w' => e = .returned (.tuple #[.int .i64 r1, .bool r2]) ∧ Below W.heap.size W w')
    (h : each_f g l0 l1 = some (r1, r2)) :
    Calls Try.prog 34 #[.slice A0 l0.length c0, .slice A1 l1.length c1, .func (.func f) #[] caps] w fun e w' => ∃ v0_ : Value, e = .returned (.tuple #[v0_, .int .i64 r2]) ∧ Kd.R (Kd.int .i64) 2 w' w.heap.size (fun _ => True) v0_ r1 ∧ Below w.heap.size w w' := by
  have hm : l0.length ≤ 35184372088832 := by
    unfold each_f at h
    split at h
    · assumption
    · cases h
  unfold each_f at h
  rw [if_pos hm] at h
  have HR0 := Aside0.mk hr0
  have HR1 := Aside0.mk hr1
  have HC0 := Aside0.mk hc0
  have HC1 := Aside0.mk hc1
  have HM := Aside0.mk hm
  have HOP := Aside0.mk hop
  have HB := Aside0.mk (Below.refl w.heap.size w)
  have HFN := Aside0.mk hfn
  have HNM := Aside0.mk hname
  have HBD := Aside0.mk hbody
  clear hr0 hr1 hc0 hc1 hm hop hfn hname hbody
  have hr1_ : 0 ≤ (l0.length : Int) := by omega
  by_cases hl : l0.length = l1.length
  · have HA : Aside0 (each_go g l0 l1 [] = some (r1, r2)) := by
      rw [if_pos hl] at h; exact ⟨h⟩
    clear h
    have e1 : (l0.length == l1.length) = true := by simpa using hl
    have e2 : ((l0.length : Int) == (l1.length : Int)) = true := beq_iff_eq.mpr (by omega)
    have e3 : ((l0.length : Int) != (l1.length : Int)) = false := bne_eq_false_iff_eq.mpr (by omega)
    have HL := Aside0.mk hl
    clear hl
    go_enter Try.func34, Try.ntmps34
    go_wp2
    go_step3
    go_wp2_with (first | ((with_reducible refine gate_dst (N := 20) rfl ?_); refine Kd.R_make (Kd.int .i64) _ 2 rfl (N := 20) rfl 22 _ _ rfl (l0.length : Int) rfl rfl Try.underlying22 (.int .i64 0) 8 info2 rfl (by decide) (by omega) 0 (ok := fun _ => True) (okp := fun _ => True) rfl (fun _ hk => hk) trivial (by omega) (by have := HM.out; simp; omega) (Below.refl _ _) (Nat.le_refl _) ?_; intro v1 w1 ho1 hb1 _ _))
    go_step3
    go_wp2
    have HO := Aside0.mk ho1
    have HB1 := Aside0.mk hb1
    clear ho1 hb1
    go_loopw [23] (fun s23 W => ∃ (i : Nat) (acc : List Int), i ≤ l0.length ∧ s23 = .int .i64 (i : Int) ∧ Aside0 (acc.length = i) ∧ Aside0 (each_go g (l0.drop i) (l1.drop i) acc = some (r1, r2)) ∧ Aside0 (Kd.R (Kd.int .i64) 2 W w.heap.size (fun _ => True) v1 (acc ++ List.replicate (l0.length - i) 0)) ∧ Aside0 (Below w.heap.size w W)) (fun s23 _ => l0.length - (intOf s23).toNat)
    case atStart => exact ⟨0, [], Nat.zero_le _, rfl, ⟨rfl⟩, ⟨by simpa using HA.out⟩, ⟨by simpa using HO.out⟩, HB1⟩
    case round =>
      obtain ⟨i, acc, hi, rfl, hacc, hgo, hO, hB⟩ := hrel
      clear HA HO HB1
      by_cases hlt : i < l0.length
      · have hlt1 : i < l1.length := by have := HL.out; omega
        have hbnd : (i : Int) + 1 ≤ 9223372036854775807 := by have := HM.out; omega
        obtain ⟨⟨q1, q2⟩, hg1, hg2, hg3⟩ := each_step hlt hlt1 hgo.out
        obtain ⟨a0, ea0, hx0⟩ := Kd.at_int HR0.out (i : Int) (by omega) (by omega)
        obtain ⟨a1, ea1, hx1⟩ := Kd.at_int HR1.out (i : Int) (by omega) (by omega)
        cases ea0
        cases ea1
        have t0 : ((i : Int)).toNat = i := by omega
        rw [t0] at hx0 hx1
        have HG1 := Aside0.mk hg1
        have HG2 := Aside0.mk hg2
        have HG3 := Aside0.mk hg3
        have HX1 := Aside0.mk hx1
        clear hg1 hg2 hg3 t0 
        replace hx0 := (hB.out.cell (World.block_lt_of_cell? w _ hx0)).trans hx0
        replace hx1 := (hB.out.cell (World.block_lt_of_cell? w _ hx1)).trans hx1
        have hlenx : (acc ++ List.replicate (l0.length - i) 0).length = l0.length := by simp; have := hacc.out; omega
        obtain ⟨gg, cap, ev, hbg, hgl, _⟩ := Kd.R_form hO.out (by rw [hlenx]; omega)
        rw [hlenx] at ev
        subst ev
        have HLX := Aside0.mk hlenx
        have HBG := Aside0.mk hbg
        clear hlenx hbg hgl
        cases q2
        · have e9 := Aside0.mk (HG3.out rfl)
          go_wp2
          rw [enters_ HFN.out HNM.out HBD.out, Oper.upon_enter]
          refine (HOP.out _ _ q1 false _ hB.out HG1.out).mono ?_
          rintro e w5 ⟨rfl, hb⟩
          have HO5 := Aside0.mk (Kd.R_below hO.out hb)
          have HB5 := Aside0.mk (below_step hB.out hb)
          clear hO hB hb
          obtain ⟨hy, hz⟩ := RI_cell HO5.out i (by have := HLX.out; omega)
          go_wp2
          try rw [Exit.noGoto_ret]
          go_ret2
          have e9' := e9.out
          cases e9'
          exact ⟨_, rfl, Kd.R_nil _ _ _ _ _, HB5.out⟩
        · have e9 := Aside0.mk (HG2.out rfl)
          go_wp2
          rw [enters_ HFN.out HNM.out HBD.out, Oper.upon_enter]
          refine (HOP.out _ _ q1 true _ hB.out HG1.out).mono ?_
          rintro e w5 ⟨rfl, hb⟩
          have HO5 := Aside0.mk (Kd.R_below hO.out hb)
          have HB5 := Aside0.mk (below_step hB.out hb)
          clear hO hB hb
          obtain ⟨hy, hz⟩ := RI_cell HO5.out i (by have := HLX.out; omega)
          go_wp2
          go_roundw
          case measure => simp [intOf]; omega
          case rel =>
            have hacc' := hacc.out
            refine ⟨i + 1, acc ++ [q1], by omega, by go_num, ⟨by simp [hacc']⟩, e9, ⟨?_⟩, ⟨below_set HB5.out HBG.out⟩⟩
            have hl' : l0.length - i = (l0.length - (i + 1)) + 1 := by omega
            have hs := set_zeros (acc := acc) (m := l0.length - (i + 1)) q1
            rw [hacc'] at hs
            have ho := HO5.out
            have hp := RI_put ho i q1
            rw [hl', hs] at hp
            exact hp
      · obtain rfl : i = l0.length := by omega
        go_wp2
        try rw [Exit.noGoto_ret]
        go_ret2
        have hg := hgo.out
        have hlr := HL.out
        rw [List.drop_of_length_le (Nat.le_refl _)] at hg
        simp only [each_go] at hg
        cases hg
        exact ⟨_, rfl, by simpa using hO.out, hB.out⟩
  · have HA : r1 = [] ∧ r2 = 2 := by
      rw [if_neg hl] at h; cases h; exact ⟨rfl, rfl⟩
    obtain ⟨rfl, rfl⟩ := HA
    have e1 : (l0.length == l1.length) = false := by simpa using hl
    have e2 : ((l0.length : Int) == (l1.length : Int)) = false := beq_eq_false_iff_ne.mpr (by omega)
    have e3 : ((l0.length : Int) != (l1.length : Int)) = true := bne_iff_ne.mpr (by omega)
    clear h hl
    go_enter Try.func34, Try.ntmps34
    go_wp2
    go_step3
    go_wp2
    try rw [Exit.noGoto_ret]
    go_ret2
    exact ⟨_, rfl, Kd.R_nil _ _ _ _ _, Below.refl _ _⟩

end Go.Proofs.Ytojpjknjoikdgaa.Z
