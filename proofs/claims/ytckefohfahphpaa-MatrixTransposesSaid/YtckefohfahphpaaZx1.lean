/- The machine's side: plain Lean functions for the Go functions, each with its contract. Written by a program of this session (wip/xprint.py). -/
import Derived.Test.YtckefohfahphpaaZx0
namespace Go.Proofs.Ytckefohfahphpaa.Z
open Go.RowKit Go.Proofs.YtckefohfahphpaaW.PrintWords Go.Proofs.YtckefohfahphpaaW.PrintLast Go.Proofs.YtckefohfahphpaaW.PrintMore
attribute [local go_sem] max2_int min2_int max_two min_two max_three min_three max_four min_four   -- for this text's walks alone
set_option linter.unusedVariables false
set_option linter.unusedSimpArgs false

/-! ### words of our own -/
/-- The 64-bit range. -/
def in64 (x : Int) : Prop := -9223372036854775808 ≤ x ∧ x ≤ 9223372036854775807
instance (x : Int) : Decidable (in64 x) := by unfold in64; infer_instance
theorem wf64 {x : Int} : (Lit.int .i64 x).wf = true ↔ in64 x := by
  simp [Lit.wf, in64, IntKind.min, IntKind.max, IntKind.signed, IntKind.bits]
theorem wrap64_id {n : Int} (h : in64 n) : wrap64 n = n := by unfold wrap64; unfold in64 at h; omega
theorem wrap_u64 (n : Int) : IntKind.u64.wrap n = n % 18446744073709551616 := by simp [IntKind.wrap, IntKind.bits, IntKind.signed]
theorem wrap_u64_id (n : Int) (h0 : 0 ≤ n) (h1 : n < 18446744073709551616) : IntKind.u64.wrap n = n := by rw [wrap_u64]; omega
theorem wraps_u64 (n : Int) (h₀ : 0 ≤ n) (h₁ : n < 2 ^ 64) : IntKind.u64.wrap n = n := by rw [wrap_u64]; omega
theorem and_low {x : Int} (h0 : 0 ≤ x) (h1 : x < 18446744073709551616) : bits .and .u64 x 4294967295 = x % 4294967296 :=
  bits_mask .u64 64 (by decide) wraps_u64 32 (by decide) x h0 h1
theorem mul_le_low {a b : Int} (ha : 0 ≤ a) (ha' : a ≤ 4294967295) (hb : 0 ≤ b) (hb' : b ≤ 4294967295) : 0 ≤ a * b ∧ a * b ≤ 18446744065119617025 := by
  refine ⟨Int.mul_nonneg ha hb, ?_⟩
  exact Int.le_trans (Int.mul_le_mul ha' hb' hb (by decide)) (by decide)
/-- A product out of halves. -/
theorem halves {x y x1 x0 y1 y0 : Int} (ex : x = 4294967296 * x1 + x0) (ey : y = 4294967296 * y1 + y0) : x * y = 18446744073709551616 * (x1 * y1) + 4294967296 * (x1 * y0) + 4294967296 * (x0 * y1) + x0 * y0 := by
  rw [ex, ey]
  simp only [Int.add_mul, Int.mul_add]
  have a1 : 4294967296 * x1 * (4294967296 * y1) = 18446744073709551616 * (x1 * y1) := by
    rw [show (18446744073709551616 : Int) = 4294967296 * 4294967296 from rfl]; ac_rfl
  have a2 : 4294967296 * x1 * y0 = 4294967296 * (x1 * y0) := by ac_rfl
  have a3 : x0 * (4294967296 * y1) = 4294967296 * (x0 * y1) := by ac_rfl
  omega
/-- The upper half of a product, as the program reckons it. -/
theorem times_hi {x y : Int} (hx : 0 ≤ x) (hx' : x < 18446744073709551616) (hy : 0 ≤ y) (hy' : y < 18446744073709551616) :
    IntKind.u64.wrap (IntKind.u64.wrap (IntKind.u64.wrap (x / 4294967296 * (y / 4294967296)) + IntKind.u64.wrap (IntKind.u64.wrap (x / 4294967296 * (y % 4294967296)) + IntKind.u64.wrap (x % 4294967296 * (y % 4294967296)) / 4294967296) / 4294967296) +
      IntKind.u64.wrap (IntKind.u64.wrap (x % 4294967296 * (y / 4294967296)) + bits .and .u64 (IntKind.u64.wrap (IntKind.u64.wrap (x / 4294967296 * (y % 4294967296)) + IntKind.u64.wrap (x % 4294967296 * (y % 4294967296)) / 4294967296)) 4294967295) / 4294967296) = x * y / 18446744073709551616 := by
  have ex : x = 4294967296 * (x / 4294967296) + x % 4294967296 := by omega
  have ey : y = 4294967296 * (y / 4294967296) + y % 4294967296 := by omega
  have ep := halves ex ey
  have b1 := mul_le_low (a := x / 4294967296) (b := y / 4294967296) (by omega) (by omega) (by omega) (by omega)
  have b2 := mul_le_low (a := x / 4294967296) (b := y % 4294967296) (by omega) (by omega) (by omega) (by omega)
  have b3 := mul_le_low (a := x % 4294967296) (b := y / 4294967296) (by omega) (by omega) (by omega) (by omega)
  have b4 := mul_le_low (a := x % 4294967296) (b := y % 4294967296) (by omega) (by omega) (by omega) (by omega)
  generalize x / 4294967296 * (y / 4294967296) = p11 at *
  generalize x / 4294967296 * (y % 4294967296) = p10 at *
  generalize x % 4294967296 * (y / 4294967296) = p01 at *
  generalize x % 4294967296 * (y % 4294967296) = p00 at *
  rw [wrap_u64_id p11 (by omega) (by omega), wrap_u64_id p10 (by omega) (by omega), wrap_u64_id p01 (by omega) (by omega), wrap_u64_id p00 (by omega) (by omega)]
  rw [wrap_u64_id (p10 + p00 / 4294967296) (by omega) (by omega), and_low (by omega) (by omega), wrap_u64_id (p01 + _) (by omega) (by omega), wrap_u64_id (p11 + _) (by omega) (by omega), wrap_u64_id _ (by omega) (by omega), ep]
  omega
theorem drawn_trans {w w1 w2 : World} (h : Drawn0 w w1) (k : Drawn0 w1 w2) : Drawn0 w w2 := by
  obtain ⟨⟨n, rfl⟩⟩ := k
  exact h.step n
theorem gcd_step {a b : Int} (ha : 0 ≤ a) (hb : 0 ≤ b) : Int.gcd b (a % b) = Int.gcd a b := by
  obtain ⟨m, rfl⟩ := Int.eq_ofNat_of_zero_le ha
  obtain ⟨n, rfl⟩ := Int.eq_ofNat_of_zero_le hb
  rw [← Int.natCast_emod]
  show Nat.gcd n (m % n) = Nat.gcd m n
  rw [Nat.gcd_comm m n, Nat.gcd_rec n m, Nat.gcd_comm]
theorem drop_cons_rd {l : List Int} {i : Nat} (h : i < l.length) : l.drop i = rd l i :: l.drop (i + 1) := by
  rw [List.drop_eq_getElem_cons h]
  simp [rd, List.getD_eq_getElem?_getD, h]
theorem set_zeros {acc : List Int} {m : Nat} (v : Int) : (acc ++ List.replicate (m + 1) 0).set acc.length v = (acc ++ [v]) ++ List.replicate m 0 := by
  rw [List.set_append_right _ _ (Nat.le_refl _)]
  simp [List.replicate_succ]
theorem RI_cell {k : IntKind} {W : World} {e base g cap n : Nat} {ok : Nat → Prop} {xs : List Int} (h : (Kd.int k).R e W base ok (.slice (some ⟨g, 0, none⟩) n cap) xs) (i : Nat) (hi : i < xs.length) : W.cell? ⟨g, i, none⟩ = some (.int k (rd xs i)) ∧ W.frozen? ⟨g, i, none⟩ = false := by
  obtain ⟨rfl, _, _⟩ := Kd.R_reads' h
  exact Kd.R_cell 0 h (i : Int) (by omega) (by omega)
theorem RI_put {k : IntKind} {W : World} {e base g cap n : Nat} {ok : Nat → Prop} {xs : List Int} (h : (Kd.int k).R e W base ok (.slice (some ⟨g, 0, none⟩) n cap) xs) (i : Nat) (x : Int) : (Kd.int k).R e (W.setCell ⟨g, i, none⟩ (.int k x)) base ok (.slice (some ⟨g, 0, none⟩) n cap) (xs.set i x) := by
  obtain ⟨rfl, _, _⟩ := Kd.R_reads' h
  exact (Kd.R_put h (i : Int) x).1
/-- What 'each' tells, for an operation g. -/
def each_go (g : Int → Int → Option (Int × Bool)) : List Int → List Int → List Int → Option (List Int × Int)
  | x :: a, y :: b, acc => (g x y).bind fun r => if r.2 = true then each_go g a b (acc ++ [r.1]) else some ([], 3)
  | _, _, acc => some (acc, 0)
def each_f (g : Int → Int → Option (Int × Bool)) (a b : List Int) : Option (List Int × Int) := if a.length ≤ 35184372088832 then (if a.length = b.length then each_go g a b [] else some ([], 2)) else none
theorem each_step {g : Int → Int → Option (Int × Bool)} {a b acc : List Int} {i : Nat} (ha : i < a.length) (hb : i < b.length) {q : List Int × Int} (h : each_go g (a.drop i) (b.drop i) acc = some q) :
    ∃ r : Int × Bool, g (rd a i) (rd b i) = some r ∧ (r.2 = true → each_go g (a.drop (i + 1)) (b.drop (i + 1)) (acc ++ [r.1]) = some q) ∧ (r.2 = false → q = ([], 3)) := by
  rw [drop_cons_rd ha, drop_cons_rd hb, each_go] at h
  obtain ⟨r, h1, h2⟩ := Option.bind_eq_some_iff.mp h
  refine ⟨r, h1, fun e => ?_, fun e => ?_⟩
  · rw [if_pos e] at h2
    exact h2
  · rw [if_neg (by simp [e])] at h2
    exact (Option.some.inj h2).symm

/-! ### how what comes in is read: from the statement's reading to the kinds -/
/-- Whatever reads at type t is of this kind, and keeps wf. -/
def Opens (P : Program) (t : TypeId) {α : Type} (d : Kd α) (wf : α → Prop) : Prop :=
  ∀ {H : Type} {enc : TypeId × Value → H} {w : World} {base : Nat} {spare : Nat → Bool} {held : Bool} {fuel : Nat} {cs : List Value} {x : DataW H × List MemPlace},
    DataW.trod enc P w base spare held fuel t cs = some x → ∃ a, d.K w a cs ∧ wf a
theorem opens_int {P : Program} {t : TypeId} {k : IntKind} (ht : P.underlying t = some (.int k)) : Opens P t (Kd.int k) (fun n => (Lit.int k n).wf = true) := by
  intro H enc w base spare held fuel cs x h
  obtain ⟨n, rfl, _, hw⟩ := DataW.trod_int ht h
  exact ⟨n, rfl, hw⟩
theorem opens_bool {P : Program} {t : TypeId} (ht : P.underlying t = some .bool) : Opens P t Kd.bool (fun _ => True) := by
  intro H enc w base spare held fuel cs x h
  obtain ⟨b, rfl, _⟩ := DataW.trod_bool ht h
  exact ⟨b, rfl, trivial⟩
theorem opens_string {P : Program} {t : TypeId} (ht : P.underlying t = some .string) : Opens P t Kd.string (fun s => s.size ≤ maxLen) := by
  intro H enc w base spare held fuel cs x h
  obtain ⟨s, rfl, _, hs⟩ := DataW.trod_string ht h
  exact ⟨s, rfl, hs⟩
theorem addr_add_add (a : Addr) (m j : Nat) : (a.add m).add j = a.add (m + j) := by
  unfold Addr.add
  by_cases h1 : m = 0
  · subst h1
    simp
  · by_cases h2 : j = 0
    · subst h2
      simp
    · simp [h1, h2, Nat.add_assoc]
theorem choose_below {α : Type} {n : Nat} {R : Nat → α → Prop} (h : ∀ i, i < n → ∃ a, R i a) : ∃ l : List α, l.length = n ∧ ∀ i a, l[i]? = some a → R i a := by
  induction n with
  | zero => exact ⟨[], rfl, fun i a h => by simp at h⟩
  | succ n ih =>
    obtain ⟨l, hl, hr⟩ := ih (fun i hi => h i (by omega))
    obtain ⟨a, ha⟩ := h n (by omega)
    refine ⟨l ++ [a], by simp [hl], fun i b hb => ?_⟩
    by_cases hi : i < l.length
    · rw [List.getElem?_append_left hi] at hb
      exact hr i b hb
    · have hi' : i = l.length := by
        have := (List.getElem?_eq_some_iff.1 hb).1
        simp at this
        omega
      subst hi'
      simp at hb
      subst hb
      rw [hl]
      exact ha
theorem opens_slice {P : Program} {t e : TypeId} {α : Type} {d : Kd α} {wf : α → Prop} (ht : P.underlying t = some (.slice e)) (hs : P.cellsOf e = d.sz) (hd : Opens P e d wf) : Opens P t (Kd.slice e d) (fun l => l.length ≤ maxLen ∧ ∀ x ∈ l, wf x) := by
  intro H enc w base spare held fuel cs x h
  rcases DataW.trod_slice ht h with ⟨rfl, _⟩ | ⟨a, len, cap, elems, rest, n, _, rfl, _, hb, hl, hm, hlen, hel, _, _⟩
  · exact ⟨[], ⟨none, 0, rfl, Nat.le_refl _, Kd.C_nil _ _⟩, by simp, fun x hx => by simp at hx⟩
  · have each : ∀ i, i < len → ∃ z : α, wf z ∧ ∃ c : List Value, c.length = d.sz ∧ d.K w z c ∧ ∀ j u, c[j]? = some u → w.cell? (a.add (i * d.sz + j)) = some u := by
      intro i hi
      have h1 := hel i hi
      have h2 : elems[i]? = some (elems[i]'(by omega)) := List.getElem?_eq_getElem (by omega)
      rw [h2, hs, Option.bind_eq_some_iff] at h1
      obtain ⟨c, hc, hy⟩ := h1
      obtain ⟨_, hcl, hcc⟩ := World.cells?_some hc
      obtain ⟨z, hz, hw⟩ := hd hy
      refine ⟨z, hw, c, hcl, hz, fun j u hu => ?_⟩
      have hj : j < d.sz := by
        have := (List.getElem?_eq_some_iff.1 hu).1
        omega
      have h3 := hcc j hj
      rw [hu] at h3
      rw [← h3, addr_add_add]
    obtain ⟨l, hll, hr⟩ := choose_below each
    have hmax : l.length ≤ 9223372036854775807 := by unfold maxLen at hm; omega
    refine ⟨l, ⟨some a, cap, by rw [hll], by omega, rfl, hmax, fun _ => ⟨a, rfl, fun j p hp => ?_⟩⟩, by unfold maxLen; omega, fun z hz => ?_⟩
    · obtain ⟨_, c, h1, h2, h3⟩ := hr j p hp
      exact ⟨c, h1, h2, h3⟩
    · obtain ⟨i, hi⟩ := List.getElem?_of_mem hz
      exact (hr i z hi).1
theorem struct_field {P : Program} {t : TypeId} {fs : Array Field} {α : Type} {d : Kd α} {wf : α → Prop} (ht : P.underlying t = some (.struct fs)) (j : Nat) (f : Field) (hj : fs[j]? = some f) (hs : P.cellsOf f.type = d.sz) (hd : Opens P f.type d wf)
    {H : Type} {enc : TypeId × Value → H} {w : World} {base : Nat} {spare : Nat → Bool} {held : Bool} {fuel : Nat} {cs : List Value} {x : DataW H × List MemPlace} (h : DataW.trod enc P w base spare held fuel t cs = some x) :
    ∃ a, d.K w a ((cs.drop f.offset).take d.sz) ∧ wf a := by
  obtain ⟨xs, n, _, _, _, hx, hf⟩ := DataW.trod_struct ht h
  have h1 := hf j f hj
  have hlt : j < xs.length := by rw [hx]; exact (Array.getElem?_eq_some_iff.1 hj).1
  rw [List.getElem?_eq_getElem hlt, hs] at h1
  exact hd h1
theorem array_field {P : Program} {t e : TypeId} {m : Nat} {α : Type} {d : Kd α} {wf : α → Prop} (ht : P.underlying t = some (.array m e)) (j : Nat) (hj : j < m) (hs : P.cellsOf e = d.sz) (hd : Opens P e d wf)
    {H : Type} {enc : TypeId × Value → H} {w : World} {base : Nat} {spare : Nat → Bool} {held : Bool} {fuel : Nat} {cs : List Value} {x : DataW H × List MemPlace} (h : DataW.trod enc P w base spare held fuel t cs = some x) :
    ∃ a, d.K w a ((cs.drop (j * d.sz)).take d.sz) ∧ wf a := by
  obtain ⟨xs, n, _, _, _, hx, hf⟩ := DataW.trod_array ht h
  have h1 := hf j hj
  have hlt : j < xs.length := by rw [hx]; exact hj
  rw [List.getElem?_eq_getElem hlt, hs] at h1
  exact hd h1
theorem struct_len {P : Program} {t : TypeId} {fs : Array Field} (ht : P.underlying t = some (.struct fs)) {H : Type} {enc : TypeId × Value → H} {w : World} {base : Nat} {spare : Nat → Bool} {held : Bool} {fuel : Nat} {cs : List Value} {x : DataW H × List MemPlace} (h : DataW.trod enc P w base spare held fuel t cs = some x) : cs.length = P.cellsOf t := by
  obtain ⟨_, _, _, _, hl, _⟩ := DataW.trod_struct ht h
  exact hl
theorem array_len {P : Program} {t e : TypeId} {m : Nat} (ht : P.underlying t = some (.array m e)) {H : Type} {enc : TypeId × Value → H} {w : World} {base : Nat} {spare : Nat → Bool} {held : Bool} {fuel : Nat} {cs : List Value} {x : DataW H × List MemPlace} (h : DataW.trod enc P w base spare held fuel t cs = some x) : cs.length = P.cellsOf t := by
  obtain ⟨_, _, _, _, hl, _⟩ := DataW.trod_array ht h
  exact hl
theorem pair_at {α β : Type} {a : Kd α} {b : Kd β} {w : World} {x : α} {y : β} {cs : List Value} {o n : Nat} (h1 : a.K w x ((cs.drop o).take n)) (h2 : b.K w y (cs.drop (o + n))) : (Kd.pair a b).K w (x, y) (cs.drop o) :=
  ⟨(cs.drop o).take n, cs.drop (o + n), by rw [← List.drop_drop, List.take_append_drop], h1, h2⟩
theorem last_at {α : Type} {a : Kd α} {w : World} {x : α} {cs : List Value} {o n : Nat} (h1 : a.K w x ((cs.drop o).take n)) (hl : cs.length ≤ o + n) : a.K w x (cs.drop o) := by
  rwa [List.take_of_length_le (by rw [List.length_drop]; omega)] at h1
theorem okWide_array {P : Program} {w : World} {r : Reach} {base : Nat} {t e : TypeId} {m : Nat} {v : Value} (ht : P.underlying t = some (.array m e)) (h : Value.okWide P w r base t v) : ∃ cs, v = .agg cs ∧ cs.size = P.cellsOf t := by
  simp only [Value.okWide, ht] at h
  obtain ⟨cs, h1, h2, _⟩ := h
  exact ⟨cs, h1, h2⟩

end Go.Proofs.Ytckefohfahphpaa.Z
