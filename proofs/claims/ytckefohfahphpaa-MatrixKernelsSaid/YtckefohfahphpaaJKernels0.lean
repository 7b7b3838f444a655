/- Walks of the program's functions and plain laws, for the statement Kernels, for all inputs that each lemma names. -/
import Derived.Test.YtckefohfahphpaaProg
import Derived.Below
import Derived.Deep.Draws
import Derived.Deep.AppendLies
import Derived.Maps.AppendAt
import Derived.OwnWalk
import Derived.Laws.BytesArg
import Derived.Laws.MakeOwn
import Derived.Laws.OwnMore
import Derived.Deep.OwnRows
import Derived.Tactics
import Derived.Lib.ConvBytes
import Derived.Laws.Slices
import Derived.WalkKit
import Derived.KernelRfl
import Derived.RowKit3
import Derived.Deep.LoopGhost
import Derived.Deep.QuietTactic
import Derived.BigQuiet
import Derived.WideLaws
import Derived.Deep.DeepCutAuto
import Derived.Deep.CutBlock
import Derived.Deep.RegionHeld3
import Derived.Laws.Rows
import Derived.Lib.AppendStr
import Derived.ArgAppend
import Derived.Laws.IdiomCopy
import Derived.OrdersHeld
import Derived.Laws.BitsLemmas
import Derived.RowKit
import Derived.BigRegion
import Derived.WalkMore
import Derived.Outline
import Derived.ChangeArms
import Derived.OpenShut
import Derived.WideShapes
import Derived.DataReads
import Derived.ChangeSlices
import Derived.Test.YtckefohfahphpaaWWords
import Derived.Test.YtckefohfahphpaaWLast
import Derived.Test.YtckefohfahphpaaWTab
import Derived.Test.YtckefohfahphpaaWQPut
import Derived.Test.YtckefohfahphpaaWApart
import Derived.Test.YtckefohfahphpaaWArr
import Derived.Test.YtckefohfahphpaaWZeros
import Derived.Test.YtckefohfahphpaaWFoot
import Derived.Test.YtckefohfahphpaaWKept
import Derived.Test.YtckefohfahphpaaWShare
import Derived.Test.YtckefohfahphpaaWN
import Derived.Test.YtckefohfahphpaaWGuard
import Derived.Test.YtckefohfahphpaaWNEv
import Derived.Test.YtckefohfahphpaaWMore
section
namespace Go.Proofs.Ytckefohfahphpaa.Z
open Go.RowKit Go.Proofs.YtckefohfahphpaaW.PrintWords Go.Proofs.YtckefohfahphpaaW.PrintLast Go.Proofs.YtckefohfahphpaaW.PrintMore
attribute [local go_sem] max2_int min2_int max_two min_two max_three min_three max_four min_four   -- for this text's walks alone
set_option linter.unusedVariables false
set_option linter.unusedSimpArgs false



def errW : Option Int → Value
 | none => .nilIface
 | some c => .iface 0 (.int .i64 c)
theorem errW_none : errW none = .nilIface := rfl
theorem errW_some (c : Int) : errW (some c) = .iface 0 (.int .i64 c) := rfl

theorem info2 : (Try.prog.info? 2).map (fun i => (i.zero, i.size, i.bytes)) = some (some (.int .i64 0), 1, 8) := by kernel_rfl
theorem info33 : (Try.prog.info? 33).map (fun i => (i.zero, i.size, i.bytes)) = some (some (.slice none 0 0), 1, 24) := by kernel_rfl
-- the values' own types
def rd_L1 (xs : List (List Int)) (i : Int) : (List Int) := xs.getD i.toNat ([] : List Int)
theorem at_L1 {w : World} {A : Option Addr} {n : Nat} {xs : List (List Int)} (h : Kd.C (Kd.slice 2 (Kd.int .i64)) w A n xs) (i : Int) (h0 : 0 ≤ i) (h1 : i < n) : ∃ ad A0 c0, A = some ad ∧ w.cell? (ad.add i.toNat) = some (.slice A0 (rd_L1 xs i).length c0) ∧ (rd_L1 xs i).length ≤ c0 ∧ (Kd.int .i64).C w A0 (rd_L1 xs i).length (rd_L1 xs i) := by
 obtain ⟨ad, c, e, _, hK, hc0⟩ := Kd.C_get h ([] : List Int) i h0 h1
 have hc : ∀ j u, c[j]? = some u → w.cell? (ad.add (i.toNat * 1 + j)) = some u := hc0
 obtain ⟨A0, c0, rfl, l0, g0⟩ := hK
 exact ⟨ad, A0, c0, e, by have hq := hc 0 _ rfl; rwa [Nat.mul_one, Nat.add_zero] at hq, l0, g0⟩

def rd_L2 (xs : List (List (List Int))) (i : Int) : (List (List Int)) := xs.getD i.toNat ([] : List (List Int))
theorem at_L2 {w : World} {A : Option Addr} {n : Nat} {xs : List (List (List Int))} (h : Kd.C (Kd.slice 33 (Kd.slice 2 (Kd.int .i64))) w A n xs) (i : Int) (h0 : 0 ≤ i) (h1 : i < n) : ∃ ad A0 c0, A = some ad ∧ w.cell? (ad.add i.toNat) = some (.slice A0 (rd_L2 xs i).length c0) ∧ (rd_L2 xs i).length ≤ c0 ∧ (Kd.slice 2 (Kd.int .i64)).C w A0 (rd_L2 xs i).length (rd_L2 xs i) := by
 obtain ⟨ad, c, e, _, hK, hc0⟩ := Kd.C_get h ([] : List (List Int)) i h0 h1
 have hc : ∀ j u, c[j]? = some u → w.cell? (ad.add (i.toNat * 1 + j)) = some u := hc0
 obtain ⟨A0, c0, rfl, l0, g0⟩ := hK
 exact ⟨ad, A0, c0, e, by have hq := hc 0 _ rfl; rwa [Nat.mul_one, Nat.add_zero] at hq, l0, g0⟩

end Go.Proofs.Ytckefohfahphpaa.Z
end
section
namespace Go.Proofs.Ytckefohfahphpaa.Z
open Go.RowKit Go.Proofs.YtckefohfahphpaaW.PrintWords Go.Proofs.YtckefohfahphpaaW.PrintLast Go.Proofs.YtckefohfahphpaaW.PrintMore
attribute [local go_sem] max2_int min2_int max_two min_two max_three min_three max_four min_four   -- for this text's walks alone
set_option linter.unusedVariables false
set_option linter.unusedSimpArgs false

/-! ### words of our own -/
/-- The 64-bit range. -/
def in64 (x : Int) : Prop := -9223372036854775808 ≤ x ∧ x ≤ 9223372036854775807
instance (x : Int) : Decidable (in64 x) := by unfold in64; infer_instance
theorem wf64 {x : Int} : (Lit.int .i64 x).wf = true ↔ in64 x := by
 simp [Lit.wf, in64, IntKind.min, IntKind.max, IntKind.signed, IntKind.bits]
theorem wrap64_id {n : Int} (h : in64 n) : wrap64 n = n := by unfold wrap64; unfold in64 at h; omega
theorem wrap_u64 (n : Int) : IntKind.u64.wrap n = n % 18446744073709551616 := by simp [IntKind.wrap, IntKind.bits, IntKind.signed]
theorem wrap_u64_id (n : Int) (h0 : 0 ≤ n) (h1 : n < 18446744073709551616) : IntKind.u64.wrap n = n := by rw [wrap_u64]; omega
theorem wraps_u64 (n : Int) (h₀ : 0 ≤ n) (h₁ : n < 2 ^ 64) : IntKind.u64.wrap n = n := by rw [wrap_u64]; omega
theorem and_low {x : Int} (h0 : 0 ≤ x) (h1 : x < 18446744073709551616) : bits .and .u64 x 4294967295 = x % 4294967296 :=
 bits_mask .u64 64 (by decide) wraps_u64 32 (by decide) x h0 h1
theorem mul_le_low {a b : Int} (ha : 0 ≤ a) (ha' : a ≤ 4294967295) (hb : 0 ≤ b) (hb' : b ≤ 4294967295) : 0 ≤ a * b ∧ a * b ≤ 18446744065119617025 := by
 refine ⟨Int.mul_nonneg ha hb, ?_⟩
 exact Int.le_trans (Int.mul_le_mul ha' hb' hb (by decide)) (by decide)
/-- A product out of halves. -/
theorem halves {x y x1 x0 y1 y0 : Int} (ex : x = 4294967296 * x1 + x0) (ey : y = 4294967296 * y1 + y0) : x * y = 18446744073709551616 * (x1 * y1) + 4294967296 * (x1 * y0) + 4294967296 * (x0 * y1) + x0 * y0 := by
 rw [ex, ey]
 simp only [Int.add_mul, Int.mul_add]
 have a1 : 4294967296 * x1 * (4294967296 * y1) = 18446744073709551616 * (x1 * y1) := by
  rw [show (18446744073709551616 : Int) = 4294967296 * 4294967296 from rfl]; ac_rfl
 have a2 : 4294967296 * x1 * y0 = 4294967296 * (x1 * y0) := by ac_rfl
 have a3 : x0 * (4294967296 * y1) = 4294967296 * (x0 * y1) := by ac_rfl
 omega
/-- The upper half of a product, as the program reckons it. -/
theorem times_hi {x y : Int} (hx : 0 ≤ x) (hx' : x < 18446744073709551616) (hy : 0 ≤ y) (hy' : y < 18446744073709551616) :
  IntKind.u64.wrap (IntKind.u64.wrap (IntKind.u64.wrap (x / 4294967296 * (y / 4294967296)) + IntKind.u64.wrap (IntKind.u64.wrap (x / 4294967296 * (y % 4294967296)) + IntKind.u64.wrap (x % 4294967296 * (y % 4294967296)) / 4294967296) / 4294967296) +
   IntKind.u64.wrap (IntKind.u64.wrap (x % 4294967296 * (y / 4294967296)) + bits .and .u64 (IntKind.u64.wrap (IntKind.u64.wrap (x / 4294967296 * (y % 4294967296)) + IntKind.u64.wrap (x % 4294967296 * (y % 4294967296)) / 4294967296)) 4294967295) / 4294967296) = x * y / 18446744073709551616 := by
 have ex : x = 4294967296 * (x / 4294967296) + x % 4294967296 := by omega
 have ey : y = 4294967296 * (y / 4294967296) + y % 4294967296 := by omega
 have ep := halves ex ey
 have b1 := mul_le_low (a := x / 4294967296) (b := y / 4294967296) (by omega) (by omega) (by omega) (by omega)
 have b2 := mul_le_low (a := x / 4294967296) (b := y % 4294967296) (by omega) (by omega) (by omega) (by omega)
 have b3 := mul_le_low (a := x % 4294967296) (b := y / 4294967296) (by omega) (by omega) (by omega) (by omega)
 have b4 := mul_le_low (a := x % 4294967296) (b := y % 4294967296) (by omega) (by omega) (by omega) (by omega)
 generalize x / 4294967296 * (y / 4294967296) = p11 at *
 generalize x / 4294967296 * (y % 4294967296) = p10 at *
 generalize x % 4294967296 * (y / 4294967296) = p01 at *
 generalize x % 4294967296 * (y % 4294967296) = p00 at *
 rw [wrap_u64_id p11 (by omega) (by omega), wrap_u64_id p10 (by omega) (by omega), wrap_u64_id p01 (by omega) (by omega), wrap_u64_id p00 (by omega) (by omega)]
 rw [wrap_u64_id (p10 + p00 / 4294967296) (by omega) (by omega), and_low (by omega) (by omega), wrap_u64_id (p01 + _) (by omega) (by omega), wrap_u64_id (p11 + _) (by omega) (by omega), wrap_u64_id _ (by omega) (by omega), ep]
 omega
theorem drawn_trans {w w1 w2 : World} (h : Drawn0 w w1) (k : Drawn0 w1 w2) : Drawn0 w w2 := by
 obtain ⟨⟨n, rfl⟩⟩ := k
 exact h.step n
theorem gcd_step {a b : Int} (ha : 0 ≤ a) (hb : 0 ≤ b) : Int.gcd b (a % b) = Int.gcd a b := by
 obtain ⟨m, rfl⟩ := Int.eq_ofNat_of_zero_le ha
 obtain ⟨n, rfl⟩ := Int.eq_ofNat_of_zero_le hb
 rw [← Int.natCast_emod]
 show Nat.gcd n (m % n) = Nat.gcd m n
 rw [Nat.gcd_comm m n, Nat.gcd_rec n m, Nat.gcd_comm]
theorem drop_cons_rd {l : List Int} {i : Nat} (h : i < l.length) : l.drop i = rd l i :: l.drop (i + 1) := by
 rw [List.drop_eq_getElem_cons h]
 simp [rd, List.getD_eq_getElem?_getD, h]
theorem set_zeros {acc : List Int} {m : Nat} (v : Int) : (acc ++ List.replicate (m + 1) 0).set acc.length v = (acc ++ [v]) ++ List.replicate m 0 := by
 rw [List.set_append_right _ _ (Nat.le_refl _)]
 simp [List.replicate_succ]
theorem RI_cell {k : IntKind} {W : World} {e base g cap n : Nat} {ok : Nat → Prop} {xs : List Int} (h : (Kd.int k).R e W base ok (.slice (some ⟨g, 0, none⟩) n cap) xs) (i : Nat) (hi : i < xs.length) : W.cell? ⟨g, i, none⟩ = some (.int k (rd xs i)) ∧ W.frozen? ⟨g, i, none⟩ = false := by
 obtain ⟨rfl, _, _⟩ := Kd.R_reads' h
 exact Kd.R_cell 0 h (i : Int) (by omega) (by omega)
theorem RI_put {k : IntKind} {W : World} {e base g cap n : Nat} {ok : Nat → Prop} {xs : List Int} (h : (Kd.int k).R e W base ok (.slice (some ⟨g, 0, none⟩) n cap) xs) (i : Nat) (x : Int) : (Kd.int k).R e (W.setCell ⟨g, i, none⟩ (.int k x)) base ok (.slice (some ⟨g, 0, none⟩) n cap) (xs.set i x) := by
 obtain ⟨rfl, _, _⟩ := Kd.R_reads' h
 exact (Kd.R_put h (i : Int) x).1
/-- What 'each' tells, for an operation g. -/
def each_go (g : Int → Int → Option (Int × Bool)) : List Int → List Int → List Int → Option (List Int × Int)
 | x :: a, y :: b, acc => (g x y).bind fun r => if r.2 = true then each_go g a b (acc ++ [r.1]) else some ([], 3)
 | _, _, acc => some (acc, 0)
def each_f (g : Int → Int → Option (Int × Bool)) (a b : List Int) : Option (List Int × Int) := if a.length ≤ 35184372088832 then (if a.length = b.length then each_go g a b [] else some ([], 2)) else none
theorem each_step {g : Int → Int → Option (Int × Bool)} {a b acc : List Int} {i : Nat} (ha : i < a.length) (hb : i < b.length) {q : List Int × Int} (h : each_go g (a.drop i) (b.drop i) acc = some q) :
  ∃ r : Int × Bool, g (rd a i) (rd b i) = some r ∧ (r.2 = true → each_go g (a.drop (i + 1)) (b.drop (i + 1)) (acc ++ [r.1]) = some q) ∧ (r.2 = false → q = ([], 3)) := by
 rw [drop_cons_rd ha, drop_cons_rd hb, each_go] at h
 obtain ⟨r, h1, h2⟩ := Option.bind_eq_some_iff.mp h
 refine ⟨r, h1, fun e => ?_, fun e => ?_⟩
 ·
  rw [if_pos e] at h2; exact h2
 ·
  (rw [if_neg (by simp [e])] at h2); exact (Option.some.inj h2).symm

/-! ### how what comes in is read: from the statement's reading to the kinds -/
/-- Whatever reads at type t is of this kind, and keeps wf. -/
def Opens (P : Program) (t : TypeId) {α : Type} (d : Kd α) (wf : α → Prop) : Prop :=
 ∀ {H : Type} {enc : TypeId × Value → H} {w : World} {base : Nat} {spare : Nat → Bool} {held : Bool} {fuel : Nat} {cs : List Value} {x : DataW H × List MemPlace},
  DataW.trod enc P w base spare held fuel t cs = some x → ∃ a, d.K w a cs ∧ wf a
theorem opens_int {P : Program} {t : TypeId} {k : IntKind} (ht : P.underlying t = some (.int k)) : Opens P t (Kd.int k) (fun n => (Lit.int k n).wf = true) := by
 intro H enc w base spare held fuel cs x h
 obtain ⟨n, rfl, _, hw⟩ := DataW.trod_int ht h
 exact ⟨n, rfl, hw⟩
theorem opens_bool {P : Program} {t : TypeId} (ht : P.underlying t = some .bool) : Opens P t Kd.bool (fun _ => True) := by
 intro H enc w base spare held fuel cs x h
 obtain ⟨b, rfl, _⟩ := DataW.trod_bool ht h
 exact ⟨b, rfl, trivial⟩
theorem opens_string {P : Program} {t : TypeId} (ht : P.underlying t = some .string) : Opens P t Kd.string (fun s => s.size ≤ maxLen) := by
 intro H enc w base spare held fuel cs x h
 obtain ⟨s, rfl, _, hs⟩ := DataW.trod_string ht h
 exact ⟨s, rfl, hs⟩
theorem addr_add_add (a : Addr) (m j : Nat) : (a.add m).add j = a.add (m + j) := by
 unfold Addr.add
 by_cases h1 : m = 0
 ·
  subst h1; simp
 ·
  by_cases h2 : j = 0
  ·
   subst h2; simp
  ·
   simp [h1, h2, Nat.add_assoc]
theorem choose_below {α : Type} {n : Nat} {R : Nat → α → Prop} (h : ∀ i, i < n → ∃ a, R i a) : ∃ l : List α, l.length = n ∧ ∀ i a, l[i]? = some a → R i a := by
 induction n with
 | zero => exact ⟨[], rfl, fun i a h => by simp at h⟩
 | succ n ih =>
  (obtain ⟨l, hl, hr⟩ := ih (fun i hi => h i (by omega))); (obtain ⟨a, ha⟩ := h n (by omega)); (refine ⟨l ++ [a], by simp [hl], fun i b hb => ?_⟩); by_cases hi : i < l.length
  ·
   rw [List.getElem?_append_left hi] at hb; exact hr i b hb
  ·
   have hi' : i = l.length := by
    have := (List.getElem?_eq_some_iff.1 hb).1; simp at this
    omega
   subst hi'; simp at hb; subst hb; rw [hl]; exact ha
theorem opens_slice {P : Program} {t e : TypeId} {α : Type} {d : Kd α} {wf : α → Prop} (ht : P.underlying t = some (.slice e)) (hs : P.cellsOf e = d.sz) (hd : Opens P e d wf) : Opens P t (Kd.slice e d) (fun l => l.length ≤ maxLen ∧ ∀ x ∈ l, wf x) := by
 intro H enc w base spare held fuel cs x h
 rcases DataW.trod_slice ht h with ⟨rfl, _⟩ | ⟨a, len, cap, elems, rest, n, _, rfl, _, hb, hl, hm, hlen, hel, _, _⟩
 ·
  exact ⟨[], ⟨none, 0, rfl, Nat.le_refl _, Kd.C_nil _ _⟩, by simp, fun x hx => by simp at hx⟩
 ·
  have each : ∀ i, i < len → ∃ z : α, wf z ∧ ∃ c : List Value, c.length = d.sz ∧ d.K w z c ∧ ∀ j u, c[j]? = some u → w.cell? (a.add (i * d.sz + j)) = some u := by
   intro i hi; have h1 := hel i hi; (have h2 : elems[i]? = some (elems[i]'(by omega)) := List.getElem?_eq_getElem (by omega)); rw [h2, hs, Option.bind_eq_some_iff] at h1; obtain ⟨c, hc, hy⟩ := h1; obtain ⟨_, hcl, hcc⟩ := World.cells?_some hc; obtain ⟨z, hz, hw⟩ := hd hy; (refine ⟨z, hw, c, hcl, hz, fun j u hu => ?_⟩)
   have hj : j < d.sz := by
    have := (List.getElem?_eq_some_iff.1 hu).1
    omega
   have h3 := hcc j hj; rw [hu] at h3; rw [← h3, addr_add_add]
  obtain ⟨l, hll, hr⟩ := choose_below each; (have hmax : l.length ≤ 9223372036854775807 := by unfold maxLen at hm; omega); (refine ⟨l, ⟨some a, cap, by rw [hll], by omega, rfl, hmax, fun _ => ⟨a, rfl, fun j p hp => ?_⟩⟩, by unfold maxLen; omega, fun z hz => ?_⟩)
  ·
   obtain ⟨_, c, h1, h2, h3⟩ := hr j p hp; exact ⟨c, h1, h2, h3⟩
  ·
   obtain ⟨i, hi⟩ := List.getElem?_of_mem hz; exact (hr i z hi).1
theorem struct_field {P : Program} {t : TypeId} {fs : Array Field} {α : Type} {d : Kd α} {wf : α → Prop} (ht : P.underlying t = some (.struct fs)) (j : Nat) (f : Field) (hj : fs[j]? = some f) (hs : P.cellsOf f.type = d.sz) (hd : Opens P f.type d wf)
  {H : Type} {enc : TypeId × Value → H} {w : World} {base : Nat} {spare : Nat → Bool} {held : Bool} {fuel : Nat} {cs : List Value} {x : DataW H × List MemPlace} (h : DataW.trod enc P w base spare held fuel t cs = some x) :
  ∃ a, d.K w a ((cs.drop f.offset).take d.sz) ∧ wf a := by
 obtain ⟨xs, n, _, _, _, hx, hf⟩ := DataW.trod_struct ht h
 have h1 := hf j f hj
 have hlt : j < xs.length := by rw [hx]; exact (Array.getElem?_eq_some_iff.1 hj).1
 rw [List.getElem?_eq_getElem hlt, hs] at h1
 exact hd h1
theorem array_field {P : Program} {t e : TypeId} {m : Nat} {α : Type} {d : Kd α} {wf : α → Prop} (ht : P.underlying t = some (.array m e)) (j : Nat) (hj : j < m) (hs : P.cellsOf e = d.sz) (hd : Opens P e d wf)
  {H : Type} {enc : TypeId × Value → H} {w : World} {base : Nat} {spare : Nat → Bool} {held : Bool} {fuel : Nat} {cs : List Value} {x : DataW H × List MemPlace} (h : DataW.trod enc P w base spare held fuel t cs = some x) :
  ∃ a, d.K w a ((cs.drop (j * d.sz)).take d.sz) ∧ wf a := by
 obtain ⟨xs, n, _, _, _, hx, hf⟩ := DataW.trod_array ht h
 have h1 := hf j hj
 have hlt : j < xs.length := by rw [hx]; exact hj
 rw [List.getElem?_eq_getElem hlt, hs] at h1
 exact hd h1
theorem struct_len {P : Program} {t : TypeId} {fs : Array Field} (ht : P.underlying t = some (.struct fs)) {H : Type} {enc : TypeId × Value → H} {w : World} {base : Nat} {spare : Nat → Bool} {held : Bool} {fuel : Nat} {cs : List Value} {x : DataW H × List MemPlace} (h : DataW.trod enc P w base spare held fuel t cs = some x) : cs.length = P.cellsOf t := by
 obtain ⟨_, _, _, _, hl, _⟩ := DataW.trod_struct ht h
 exact hl
theorem array_len {P : Program} {t e : TypeId} {m : Nat} (ht : P.underlying t = some (.array m e)) {H : Type} {enc : TypeId × Value → H} {w : World} {base : Nat} {spare : Nat → Bool} {held : Bool} {fuel : Nat} {cs : List Value} {x : DataW H × List MemPlace} (h : DataW.trod enc P w base spare held fuel t cs = some x) : cs.length = P.cellsOf t := by
 obtain ⟨_, _, _, _, hl, _⟩ := DataW.trod_array ht h
 exact hl
theorem pair_at {α β : Type} {a : Kd α} {b : Kd β} {w : World} {x : α} {y : β} {cs : List Value} {o n : Nat} (h1 : a.K w x ((cs.drop o).take n)) (h2 : b.K w y (cs.drop (o + n))) : (Kd.pair a b).K w (x, y) (cs.drop o) :=
 ⟨(cs.drop o).take n, cs.drop (o + n), by rw [← List.drop_drop, List.take_append_drop], h1, h2⟩
theorem last_at {α : Type} {a : Kd α} {w : World} {x : α} {cs : List Value} {o n : Nat} (h1 : a.K w x ((cs.drop o).take n)) (hl : cs.length ≤ o + n) : a.K w x (cs.drop o) := by
 rwa [List.take_of_length_le (by rw [List.length_drop]; omega)] at h1
theorem okWide_array {P : Program} {w : World} {r : Reach} {base : Nat} {t e : TypeId} {m : Nat} {v : Value} (ht : P.underlying t = some (.array m e)) (h : Value.okWide P w r base t v) : ∃ cs, v = .agg cs ∧ cs.size = P.cellsOf t := by
 simp only [Value.okWide, ht] at h
 obtain ⟨cs, h1, h2, _⟩ := h
 exact ⟨cs, h1, h2⟩

end Go.Proofs.Ytckefohfahphpaa.Z
end
section
namespace Go.Proofs.Ytckefohfahphpaa.Z
open Go.RowKit Go.Proofs.YtckefohfahphpaaW.PrintWords Go.Proofs.YtckefohfahphpaaW.PrintLast Go.Proofs.YtckefohfahphpaaW.PrintMore
attribute [local go_sem] max2_int min2_int max_two min_two max_three min_three max_four min_four   -- for this text's walks alone
set_option linter.unusedVariables false
set_option linter.unusedSimpArgs false

/-! ### petrinetref08_Valid: function 10 -/
mutual
def petrinetref08_Valid.j0 : Nat → List (List Int) → Bool → Option (Bool)
 | 0, _, _ => none
 | k + 1, x0, x11 => if x11 = true then (some false) else (petrinetref08_Valid.l0 k x0 0)
def petrinetref08_Valid.l0 : Nat → List (List Int) → Int → Option (Bool)
 | 0, _, _ => none
 | k + 1, x0, x3 => if x3 < (x0.length : Int) then (if 0 ≤ x3 then (if ((rd_L1 x0 x3).length : Int) < 1 then (some false) else (if ((rd_L1 x0 x3).length : Int) > 64 then (some false) else (if 0 < (x0.length : Int) then (if ((rd_L1 x0 x3).length : Int) = ((rd_L1 x0 0).length : Int) then (petrinetref08_Valid.l0 k x0 (wrap64 (x3 + 1))) else (some false)) else (none)))) else (none)) else (some true)
end
def petrinetref08_Valid.f (k : Nat) (l0 : List (List Int)) : Option (Bool) := if (l0.length : Int) < 1 then (petrinetref08_Valid.j0 k l0 true) else (petrinetref08_Valid.j0 k l0 (decide ((l0.length : Int) > 64)))
theorem petrinetref08_Valid.mono_l : ∀ k, (∀ y0 y1, LeO (petrinetref08_Valid.j0 k y0 y1) (petrinetref08_Valid.j0 (k + 1) y0 y1)) ∧ (∀ y0 y1, LeO (petrinetref08_Valid.l0 k y0 y1) (petrinetref08_Valid.l0 (k + 1) y0 y1))
 | 0 => ⟨fun _ _ r h => by simp [petrinetref08_Valid.j0] at h, fun _ _ r h => by simp [petrinetref08_Valid.l0] at h⟩
 | k + 1 => by
  obtain ⟨ih0, ih1⟩ := petrinetref08_Valid.mono_l k
  refine ⟨?_, ?_⟩
  ·
   intro y0 y1
   unfold petrinetref08_Valid.j0
   repeat' first
   | (with_reducible exact ih0 _ _)
   | (with_reducible exact ih1 _ _)
   | (with_reducible exact LeO.refl _)
   | (with_reducible exact LeO.none _)
   | (with_reducible refine LeO.ite ?_ ?_)
   | (with_reducible refine LeO.bind ?_ (fun _ => ?_))
   | exact ih0 _ _
   | exact ih1 _ _
   | exact LeO.none _
   | refine LeO.ite ?_ ?_
   | refine LeO.bind ?_ (fun _ => ?_)
  ·
   intro y0 y1
   unfold petrinetref08_Valid.l0
   repeat' first
   | (with_reducible exact ih0 _ _)
   | (with_reducible exact ih1 _ _)
   | (with_reducible exact LeO.refl _)
   | (with_reducible exact LeO.none _)
   | (with_reducible refine LeO.ite ?_ ?_)
   | (with_reducible refine LeO.bind ?_ (fun _ => ?_))
   | exact ih0 _ _
   | exact ih1 _ _
   | exact LeO.none _
   | refine LeO.ite ?_ ?_
   | refine LeO.bind ?_ (fun _ => ?_)
theorem petrinetref08_Valid.mono : ∀ a0 k, LeO (petrinetref08_Valid.f k a0) (petrinetref08_Valid.f (k + 1) a0) := by
 intro a0 k
 obtain ⟨ih0, ih1⟩ := petrinetref08_Valid.mono_l k
 unfold petrinetref08_Valid.f
 repeat' first
   | (with_reducible exact ih0 _ _)
   | (with_reducible exact ih1 _ _)
   | (with_reducible exact LeO.refl _)
   | (with_reducible exact LeO.none _)
   | (with_reducible refine LeO.ite ?_ ?_)
   | (with_reducible refine LeO.bind ?_ (fun _ => ?_))
   | exact ih0 _ _
   | exact ih1 _ _
   | exact LeO.none _
   | refine LeO.ite ?_ ?_
   | refine LeO.bind ?_ (fun _ => ?_)
set_option maxHeartbeats 8000000 in
set_option maxRecDepth 100000 in
theorem petrinetref08_Valid.calls (k : Nat) (A0 : Option Addr) (c0 : Nat) (l0 : List (List Int)) (r : Bool) (w : World) (hr0 : Kd.C (Kd.slice 2 (Kd.int .i64)) w A0 l0.length l0) (hc0 : l0.length ≤ c0) (h : petrinetref08_Valid.f k l0 = some r) :
  Calls Try.prog 10 #[.slice A0 l0.length c0] w fun e w' => e = .returned (.bool r) ∧ Drawn0 w w' := by
 have HR0 := Aside0.mk hr0
 have HC0 := Aside0.mk hc0
 clear hr0 hc0
 have H : (if (l0.length : Int) < 1 then (petrinetref08_Valid.j0 k l0 true) else (petrinetref08_Valid.j0 k l0 (decide ((l0.length : Int) > 64)))) = some r := h
 clear h
 have HC2 := Aside0.mk H
 clear H
 go_enter Try.func10, Try.ntmps10
 go_upto_region 1 with (fail)
 repeat (go_quiet (fail); go_upto_region 1 with (fail))
 go_cut [11] (fun v11 wc => ∃ (kq : Nat) (x11_1 : Bool), v11 = .bool x11_1 ∧ Aside0 (petrinetref08_Valid.j0 kq l0 x11_1 = some r) ∧ Aside0 (kq ≤ k) ∧ Drawn0 w wc)
 case first =>
  have H := HC2.out; clear HC2; by_cases c3 : (l0.length : Int) < 1
  ·
   rw [if_pos c3] at H; have c3b0 : decide ((l0.length : Int) < 1) = true := decide_eq_true c3; (have c3b1 : decide (l0.length < 1) = true := decide_eq_true (by omega)); clear c3; (first | rw [c3b0] | (simp only [i64_w, i32_w]; rw [c3b0]) | skip); have H' := Aside0.mk H; clear H; go_wp2
   repeat (go_quiet (fail); try go_wp2)
   go_meet
   case rel => exact ⟨_, (true), (by first | rfl | (simp; done) | (simp [*]; done)), H', ⟨by first | omega | exact Nat.le_refl _⟩, by repeat (first | exact Drawn0.refl _ | apply Drawn0.step)⟩
  ·
   rw [if_neg c3] at H; have c3b0 : decide ((l0.length : Int) < 1) = false := decide_eq_false c3; (have c3b1 : decide (l0.length < 1) = false := decide_eq_false (by omega)); clear c3; (first | rw [c3b0] | (simp only [i64_w, i32_w]; rw [c3b0]) | skip); have H' := Aside0.mk H; clear H; go_wp2
   repeat (go_quiet (fail); try go_wp2)
   go_meet
   case rel => exact ⟨_, (decide ((l0.length : Int) > 64)), (by first | rfl | (simp; done) | (simp [*]; done)), H', ⟨by first | omega | exact Nat.le_refl _⟩, by repeat (first | exact Drawn0.refl _ | apply Drawn0.step)⟩
 case rest =>
  clear HC2; (try clear c1); (try clear p2); (try clear c3); (try clear c3b0); (try clear c3b1); obtain ⟨kq, x11_1, rfl, HA, HJ1, ⟨mc1, rfl⟩⟩ := hcut
  cases kq with
  | zero => exact absurd HA.out (by simp [petrinetref08_Valid.j0])
  | succ kj1 =>
   have H := HA.out; clear HA; simp only [petrinetref08_Valid.j0] at H; by_cases c4 : x11_1 = true
   ·
    subst c4; (have H1 : (some false) = some r := by rw [if_pos rfl] at H; exact H); clear H; have H := H1; clear H1; obtain rfl := Option.some.inj H; go_wp2
    repeat (go_quiet (fail); try go_wp2)
    go_ret; (exact ⟨by first | rfl | (simp; done) | (simp [*]; done), by repeat (first | exact Drawn0.refl _ | apply Drawn0.step)⟩)
   ·
    replace c4 := Bool.eq_false_iff.mpr c4; subst c4; (have H1 : (petrinetref08_Valid.l0 kj1 l0 0) = some r := by rw [if_neg (show ¬ (false = true) by decide)] at H; exact H); clear H; have H := H1; clear H1; have H' := Aside0.mk H; clear H; go_wp2
    repeat (go_quiet (fail); try go_wp2)
    go_loopg [3] kj1 (fun kq v3 w' => ∃ (x3_2 : Int), v3 = .int .i64 x3_2 ∧ Aside0 (petrinetref08_Valid.l0 kq l0 x3_2 = some r) ∧ Aside0 (kq ≤ kj1) ∧ Drawn0 w w')
    case atStart => exact ⟨(0), (by first | rfl | (simp; done) | (simp [*]; done)), H', ⟨Nat.le_refl _⟩, by repeat (first | exact Drawn0.refl _ | apply Drawn0.step)⟩
    case round =>
     clear H'; (try clear c1); (try clear p2); (try clear c3); (try clear c3b0); (try clear c3b1); (try clear c4); (try clear p2); obtain ⟨x3_2, rfl, HA, HK2, ⟨m2, rfl⟩⟩ := hrel
     cases gk with
     | zero => exact absurd HA.out (by simp [petrinetref08_Valid.l0])
     | succ k2 =>
      have H := HA.out; clear HA; simp only [petrinetref08_Valid.l0] at H; by_cases c5 : x3_2 < (l0.length : Int)
      ·
       rw [if_pos c5] at H; have c5b0 : decide (x3_2 < (l0.length : Int)) = true := decide_eq_true c5; clear c5; by_cases c6 : 0 ≤ x3_2
       ·
        rw [if_pos c6] at H; have c6b0 : decide (0 ≤ x3_2) = true := decide_eq_true c6; clear c6; by_cases c7 : ((rd_L1 l0 x3_2).length : Int) < 1
        ·
         rw [if_pos c7] at H; have c7b0 : decide (((rd_L1 l0 x3_2).length : Int) < 1) = true := decide_eq_true c7; (have c7b1 : decide ((rd_L1 l0 x3_2).length < 1) = true := decide_eq_true (by omega)); clear c7; obtain rfl := Option.some.inj H; (have p101 : 0 ≤ (x3_2 : Int) := of_decide_eq_true (by first | (with_reducible assumption) | assumption)); (have q101 : x3_2 < (l0.length : Int) := of_decide_eq_true (by first | (with_reducible assumption) | assumption)); obtain ⟨ad101, A101_0, c101_0, e101, hx101_0, hl101_0, hi101_0⟩ := at_L1 HR0.out x3_2 p101 q101
         cases e101
         have HR101_0 := Aside0.mk hi101_0; have HC101_0 := Aside0.mk hl101_0; clear hi101_0 hl101_0; replace p101 := eq_true p101; replace q101 := eq_true q101; go_wp2
         repeat (go_quiet (fail); try go_wp2)
         go_ret; (exact ⟨by first | rfl | (simp; done) | (simp [*]; done), by repeat (first | exact Drawn0.refl _ | apply Drawn0.step)⟩)
        ·
         rw [if_neg c7] at H; have c7b0 : decide (((rd_L1 l0 x3_2).length : Int) < 1) = false := decide_eq_false c7; (have c7b1 : decide ((rd_L1 l0 x3_2).length < 1) = false := decide_eq_false (by omega)); clear c7; by_cases c8 : ((rd_L1 l0 x3_2).length : Int) > 64
         ·
          rw [if_pos c8] at H; have c8b0 : decide (64 < ((rd_L1 l0 x3_2).length : Int)) = true := decide_eq_true c8; (have c8b1 : decide (64 < (rd_L1 l0 x3_2).length) = true := decide_eq_true (by omega)); clear c8; obtain rfl := Option.some.inj H; (have p101 : 0 ≤ (x3_2 : Int) := of_decide_eq_true (by first | (with_reducible assumption) | assumption)); (have q101 : x3_2 < (l0.length : Int) := of_decide_eq_true (by first | (with_reducible assumption) | assumption)); obtain ⟨ad101, A101_0, c101_0, e101, hx101_0, hl101_0, hi101_0⟩ := at_L1 HR0.out x3_2 p101 q101
          cases e101
          have HR101_0 := Aside0.mk hi101_0; have HC101_0 := Aside0.mk hl101_0; clear hi101_0 hl101_0; replace p101 := eq_true p101; replace q101 := eq_true q101; (have p102 : 0 ≤ (x3_2 : Int) := of_decide_eq_true (by first | (with_reducible assumption) | assumption)); (have q102 : x3_2 < (l0.length : Int) := of_decide_eq_true (by first | (with_reducible assumption) | assumption)); obtain ⟨ad102, A102_0, c102_0, e102, hx102_0, hl102_0, hi102_0⟩ := at_L1 HR0.out x3_2 p102 q102; (obtain rfl : ad101 = ad102 := (by injection e102)); have HR102_0 := Aside0.mk hi102_0; have HC102_0 := Aside0.mk hl102_0; clear hi102_0 hl102_0; replace p102 := eq_true p102; replace q102 := eq_true q102; have ea_ := Option.some.inj (hx101_0.symm.trans hx102_0); injection ea_ with ea_ en_ ec_; subst ea_; subst ec_; clear en_; go_wp2
          repeat (go_quiet (fail); try go_wp2)
          go_ret; (exact ⟨by first | rfl | (simp; done) | (simp [*]; done), by repeat (first | exact Drawn0.refl _ | apply Drawn0.step)⟩)
         ·
          rw [if_neg c8] at H; have c8b0 : decide (64 < ((rd_L1 l0 x3_2).length : Int)) = false := decide_eq_false c8; (have c8b1 : decide (64 < (rd_L1 l0 x3_2).length) = false := decide_eq_false (by omega)); clear c8; by_cases c9 : 0 < (l0.length : Int)
          ·
           rw [if_pos c9] at H; have c9b0 : decide (0 < (l0.length : Int)) = true := decide_eq_true c9; (have c9b1 : decide (0 < l0.length) = true := decide_eq_true (by omega)); clear c9; by_cases c10 : ((rd_L1 l0 x3_2).length : Int) = ((rd_L1 l0 0).length : Int)
           ·
            rw [if_pos c10] at H; have c10b0 : (((rd_L1 l0 x3_2).length : Int) == ((rd_L1 l0 0).length : Int)) = true := beq_iff_eq.mpr c10; have c10b1 : (((rd_L1 l0 x3_2).length : Int) != ((rd_L1 l0 0).length : Int)) = false := bne_eq_false_iff_eq.mpr c10; (have c10b2 : ((rd_L1 l0 x3_2).length == (rd_L1 l0 0).length) = true := by first | simpa using c10 | (simp at c10 ⊢; omega)); clear c10; have H' := Aside0.mk H; clear H; (have p101 : 0 ≤ (x3_2 : Int) := of_decide_eq_true (by first | (with_reducible assumption) | assumption)); (have q101 : x3_2 < (l0.length : Int) := of_decide_eq_true (by first | (with_reducible assumption) | assumption)); obtain ⟨ad101, A101_0, c101_0, e101, hx101_0, hl101_0, hi101_0⟩ := at_L1 HR0.out x3_2 p101 q101
            cases e101
            have HR101_0 := Aside0.mk hi101_0; have HC101_0 := Aside0.mk hl101_0; clear hi101_0 hl101_0; replace p101 := eq_true p101; replace q101 := eq_true q101; (have p102 : 0 ≤ (x3_2 : Int) := of_decide_eq_true (by first | (with_reducible assumption) | assumption)); (have q102 : x3_2 < (l0.length : Int) := of_decide_eq_true (by first | (with_reducible assumption) | assumption)); obtain ⟨ad102, A102_0, c102_0, e102, hx102_0, hl102_0, hi102_0⟩ := at_L1 HR0.out x3_2 p102 q102; (obtain rfl : ad101 = ad102 := (by injection e102)); have HR102_0 := Aside0.mk hi102_0; have HC102_0 := Aside0.mk hl102_0; clear hi102_0 hl102_0; replace p102 := eq_true p102; replace q102 := eq_true q102; have ea_ := Option.some.inj (hx101_0.symm.trans hx102_0); injection ea_ with ea_ en_ ec_; subst ea_; subst ec_; clear en_; (have p103 : 0 ≤ (x3_2 : Int) := of_decide_eq_true (by first | (with_reducible assumption) | assumption)); (have q103 : x3_2 < (l0.length : Int) := of_decide_eq_true (by first | (with_reducible assumption) | assumption)); obtain ⟨ad103, A103_0, c103_0, e103, hx103_0, hl103_0, hi103_0⟩ := at_L1 HR0.out x3_2 p103 q103; (obtain rfl : ad101 = ad103 := (by injection e103)); have HR103_0 := Aside0.mk hi103_0; have HC103_0 := Aside0.mk hl103_0; clear hi103_0 hl103_0; replace p103 := eq_true p103; replace q103 := eq_true q103; have ea_ := Option.some.inj (hx101_0.symm.trans hx103_0); injection ea_ with ea_ en_ ec_; subst ea_; subst ec_; clear en_; (have p104 : 0 ≤ (0 : Int) := (by omega)); (have q104 : 0 < (l0.length : Int) := of_decide_eq_true (by first | (with_reducible assumption) | assumption)); obtain ⟨ad104, A104_0, c104_0, e104, hx104_0, hl104_0, hi104_0⟩ := at_L1 HR0.out 0 p104 q104; (obtain rfl : ad101 = ad104 := (by injection e104)); (have qi104 : (0 < l0.length) = True := eq_true (by omega)); (try rw [show ((0 : Int)).toNat = 0 from rfl] at hx104_0); (try rw [Addr.add_zero'] at hx104_0); have HR104_0 := Aside0.mk hi104_0; have HC104_0 := Aside0.mk hl104_0; clear hi104_0 hl104_0; replace p104 := eq_true p104; replace q104 := eq_true q104; go_wp2
            repeat (go_quiet (fail); try go_wp2)
            go_roundg k2
            case measure => have := HJ1.out; have := HK2.out; omega
            case rel => exact ⟨(wrap64 (x3_2 + 1)), (by first | rfl | (simp; done) | (simp [*]; done)), H', ⟨by have := HJ1.out; have := HK2.out; omega⟩, by repeat (first | exact Drawn0.refl _ | apply Drawn0.step)⟩
           ·
            rw [if_neg c10] at H; have c10b0 : (((rd_L1 l0 x3_2).length : Int) == ((rd_L1 l0 0).length : Int)) = false := beq_eq_false_iff_ne.mpr c10; have c10b1 : (((rd_L1 l0 x3_2).length : Int) != ((rd_L1 l0 0).length : Int)) = true := bne_iff_ne.mpr c10; (have c10b2 : ((rd_L1 l0 x3_2).length == (rd_L1 l0 0).length) = false := by first | simpa using c10 | (simp at c10 ⊢; omega)); obtain rfl := Option.some.inj H; (have p101 : 0 ≤ (x3_2 : Int) := of_decide_eq_true (by first | (with_reducible assumption) | assumption)); (have q101 : x3_2 < (l0.length : Int) := of_decide_eq_true (by first | (with_reducible assumption) | assumption)); obtain ⟨ad101, A101_0, c101_0, e101, hx101_0, hl101_0, hi101_0⟩ := at_L1 HR0.out x3_2 p101 q101
            cases e101
            have HR101_0 := Aside0.mk hi101_0; have HC101_0 := Aside0.mk hl101_0; clear hi101_0 hl101_0; replace p101 := eq_true p101; replace q101 := eq_true q101; (have p102 : 0 ≤ (x3_2 : Int) := of_decide_eq_true (by first | (with_reducible assumption) | assumption)); (have q102 : x3_2 < (l0.length : Int) := of_decide_eq_true (by first | (with_reducible assumption) | assumption)); obtain ⟨ad102, A102_0, c102_0, e102, hx102_0, hl102_0, hi102_0⟩ := at_L1 HR0.out x3_2 p102 q102; (obtain rfl : ad101 = ad102 := (by injection e102)); have HR102_0 := Aside0.mk hi102_0; have HC102_0 := Aside0.mk hl102_0; clear hi102_0 hl102_0; replace p102 := eq_true p102; replace q102 := eq_true q102; have ea_ := Option.some.inj (hx101_0.symm.trans hx102_0); injection ea_ with ea_ en_ ec_; subst ea_; subst ec_; clear en_; (have p103 : 0 ≤ (x3_2 : Int) := of_decide_eq_true (by first | (with_reducible assumption) | assumption)); (have q103 : x3_2 < (l0.length : Int) := of_decide_eq_true (by first | (with_reducible assumption) | assumption)); obtain ⟨ad103, A103_0, c103_0, e103, hx103_0, hl103_0, hi103_0⟩ := at_L1 HR0.out x3_2 p103 q103; (obtain rfl : ad101 = ad103 := (by injection e103)); have HR103_0 := Aside0.mk hi103_0; have HC103_0 := Aside0.mk hl103_0; clear hi103_0 hl103_0; replace p103 := eq_true p103; replace q103 := eq_true q103; have ea_ := Option.some.inj (hx101_0.symm.trans hx103_0); injection ea_ with ea_ en_ ec_; subst ea_; subst ec_; clear en_; (have p104 : 0 ≤ (0 : Int) := (by omega)); (have q104 : 0 < (l0.length : Int) := of_decide_eq_true (by first | (with_reducible assumption) | assumption)); obtain ⟨ad104, A104_0, c104_0, e104, hx104_0, hl104_0, hi104_0⟩ := at_L1 HR0.out 0 p104 q104; (obtain rfl : ad101 = ad104 := (by injection e104)); (have qi104 : (0 < l0.length) = True := eq_true (by omega)); (try rw [show ((0 : Int)).toNat = 0 from rfl] at hx104_0); (try rw [Addr.add_zero'] at hx104_0); have HR104_0 := Aside0.mk hi104_0; have HC104_0 := Aside0.mk hl104_0; clear hi104_0 hl104_0; replace p104 := eq_true p104; replace q104 := eq_true q104; go_wp2
            repeat (go_quiet (fail); try go_wp2)
            go_ret; (exact ⟨by first | rfl | (simp; done) | (simp [*]; done), by repeat (first | exact Drawn0.refl _ | apply Drawn0.step)⟩)
          ·
           rw [if_neg c9] at H; (exact absurd H (by simp))
       ·
        rw [if_neg c6] at H; (exact absurd H (by simp))
      ·
       rw [if_neg c5] at H; have c5b0 : decide (x3_2 < (l0.length : Int)) = false := decide_eq_false c5; clear c5; obtain rfl := Option.some.inj H; go_wp2
       repeat (go_quiet (fail); try go_wp2)
       go_ret; (exact ⟨by first | rfl | (simp; done) | (simp [*]; done), by repeat (first | exact Drawn0.refl _ | apply Drawn0.step)⟩)

end Go.Proofs.Ytckefohfahphpaa.Z
end
section
namespace Go.Proofs.Ytckefohfahphpaa.Z
open Go.RowKit Go.Proofs.YtckefohfahphpaaW.PrintWords Go.Proofs.YtckefohfahphpaaW.PrintLast Go.Proofs.YtckefohfahphpaaW.PrintMore
attribute [local go_sem] max2_int min2_int max_two min_two max_three min_three max_four min_four   -- for this text's walks alone
set_option linter.unusedVariables false
set_option linter.unusedSimpArgs false

/-! ### petrinetref08_Vectors: function 25 -/
def petrinetref08_Vectors.l0 : Nat → List Int → List Int → Int → Option (Bool)
 | 0, _, _, _ => none
 | k + 1, x0, x1, x5 => if x5 < (x0.length : Int) then (if 0 ≤ x5 then (if x5 < (x1.length : Int) then (if (rd x0 x5) = (rd x1 x5) then (petrinetref08_Vectors.l0 k x0 x1 (wrap64 (x5 + 1))) else (some false)) else (none)) else (none)) else (some true)
def petrinetref08_Vectors.f (k : Nat) (l0 : List Int) (l1 : List Int) : Option (Bool) := if (l0.length : Int) = (l1.length : Int) then (petrinetref08_Vectors.l0 k l0 l1 0) else (some false)
theorem petrinetref08_Vectors.mono_l : ∀ k, (∀ y0 y1 y2, LeO (petrinetref08_Vectors.l0 k y0 y1 y2) (petrinetref08_Vectors.l0 (k + 1) y0 y1 y2))
 | 0 => fun _ _ _ r h => by simp [petrinetref08_Vectors.l0] at h
 | k + 1 => by
  have ih0 := petrinetref08_Vectors.mono_l k
  ·
   intro y0 y1 y2
   unfold petrinetref08_Vectors.l0
   repeat' first
   | (with_reducible exact ih0 _ _ _)
   | (with_reducible exact LeO.refl _)
   | (with_reducible exact LeO.none _)
   | (with_reducible refine LeO.ite ?_ ?_)
   | (with_reducible refine LeO.bind ?_ (fun _ => ?_))
   | exact ih0 _ _ _
   | exact LeO.none _
   | refine LeO.ite ?_ ?_
   | refine LeO.bind ?_ (fun _ => ?_)
theorem petrinetref08_Vectors.mono : ∀ a0 a1 k, LeO (petrinetref08_Vectors.f k a0 a1) (petrinetref08_Vectors.f (k + 1) a0 a1) := by
 intro a0 a1 k
 have ih0 := petrinetref08_Vectors.mono_l k
 unfold petrinetref08_Vectors.f
 repeat' first
   | (with_reducible exact ih0 _ _ _)
   | (with_reducible exact LeO.refl _)
   | (with_reducible exact LeO.none _)
   | (with_reducible refine LeO.ite ?_ ?_)
   | (with_reducible refine LeO.bind ?_ (fun _ => ?_))
   | exact ih0 _ _ _
   | exact LeO.none _
   | refine LeO.ite ?_ ?_
   | refine LeO.bind ?_ (fun _ => ?_)
set_option maxHeartbeats 8000000 in
set_option maxRecDepth 100000 in
theorem petrinetref08_Vectors.calls (k : Nat) (A0 : Option Addr) (c0 : Nat) (l0 : List Int) (A1 : Option Addr) (c1 : Nat) (l1 : List Int) (r : Bool) (w : World) (hr0 : Kd.C (Kd.int .i64) w A0 l0.length l0) (hc0 : l0.length ≤ c0) (hr1 : Kd.C (Kd.int .i64) w A1 l1.length l1) (hc1 : l1.length ≤ c1) (h : petrinetref08_Vectors.f k l0 l1 = some r) :
  Calls Try.prog 25 #[.slice A0 l0.length c0, .slice A1 l1.length c1] w fun e w' => e = .returned (.bool r) ∧ Drawn0 w w' := by
 have HR0 := Aside0.mk hr0
 have HC0 := Aside0.mk hc0
 clear hr0 hc0
 have HR1 := Aside0.mk hr1
 have HC1 := Aside0.mk hc1
 clear hr1 hc1
 have H : (if (l0.length : Int) = (l1.length : Int) then (petrinetref08_Vectors.l0 k l0 l1 0) else (some false)) = some r := h
 clear h
 by_cases c3 : (l0.length : Int) = (l1.length : Int)
 ·
  rw [if_pos c3] at H; have c3b0 : ((l0.length : Int) == (l1.length : Int)) = true := beq_iff_eq.mpr c3; have c3b1 : ((l0.length : Int) != (l1.length : Int)) = false := bne_eq_false_iff_eq.mpr c3; (have c3b2 : (l0.length == l1.length) = true := by first | simpa using c3 | (simp at c3 ⊢; omega)); clear c3; have H' := Aside0.mk H; clear H
  go_enter Try.func25, Try.ntmps25
  go_wp2
  repeat (go_quiet (fail); try go_wp2)
  go_loopg [5] k (fun kq v5 w' => ∃ (x5_1 : Int), v5 = .int .i64 x5_1 ∧ Aside0 (petrinetref08_Vectors.l0 kq l0 l1 x5_1 = some r) ∧ Aside0 (kq ≤ k) ∧ Drawn0 w w')
  case atStart => exact ⟨(0), (by first | rfl | (simp; done) | (simp [*]; done)), H', ⟨Nat.le_refl _⟩, by repeat (first | exact Drawn0.refl _ | apply Drawn0.step)⟩
  case round =>
   clear H'; (try clear c1); (try clear c2); (try clear p2); (try clear c3); (try clear c3b0); (try clear c3b1); (try clear c3b2); obtain ⟨x5_1, rfl, HA, HK1, ⟨m1, rfl⟩⟩ := hrel
   cases gk with
   | zero => exact absurd HA.out (by simp [petrinetref08_Vectors.l0])
   | succ k1 =>
    have H := HA.out; clear HA; simp only [petrinetref08_Vectors.l0] at H; by_cases c4 : x5_1 < (l0.length : Int)
    ·
     rw [if_pos c4] at H; have c4b0 : decide (x5_1 < (l0.length : Int)) = true := decide_eq_true c4; clear c4; by_cases c5 : 0 ≤ x5_1
     ·
      rw [if_pos c5] at H; have c5b0 : decide (0 ≤ x5_1) = true := decide_eq_true c5; clear c5; by_cases c6 : x5_1 < (l1.length : Int)
      ·
       rw [if_pos c6] at H; have c6b0 : decide (x5_1 < (l1.length : Int)) = true := decide_eq_true c6; clear c6; by_cases c7 : (rd l0 x5_1) = (rd l1 x5_1)
       ·
        rw [if_pos c7] at H; have c7b0 : ((rd l0 x5_1) == (rd l1 x5_1)) = true := beq_iff_eq.mpr c7; have c7b1 : ((rd l0 x5_1) != (rd l1 x5_1)) = false := bne_eq_false_iff_eq.mpr c7; clear c7; have H' := Aside0.mk H; clear H; (have p141 : 0 ≤ (x5_1 : Int) := of_decide_eq_true (by first | (with_reducible assumption) | assumption)); (have q141 : x5_1 < (l0.length : Int) := of_decide_eq_true (by first | (with_reducible assumption) | assumption)); obtain ⟨ad141, e141, hx141_0⟩ := Kd.at_int HR0.out x5_1 p141 q141
        cases e141
        replace p141 := eq_true p141; replace q141 := eq_true q141; (have p142 : 0 ≤ (x5_1 : Int) := of_decide_eq_true (by first | (with_reducible assumption) | assumption)); (have q142 : x5_1 < (l1.length : Int) := of_decide_eq_true (by first | (with_reducible assumption) | assumption)); obtain ⟨ad142, e142, hx142_0⟩ := Kd.at_int HR1.out x5_1 p142 q142
        cases e142
        replace p142 := eq_true p142; replace q142 := eq_true q142; go_wp2
        repeat (go_quiet (fail); try go_wp2)
        go_roundg k1
        case measure => have := HK1.out; omega
        case rel => exact ⟨(wrap64 (x5_1 + 1)), (by first | rfl | (simp; done) | (simp [*]; done)), H', ⟨by have := HK1.out; omega⟩, by repeat (first | exact Drawn0.refl _ | apply Drawn0.step)⟩
       ·
        rw [if_neg c7] at H; have c7b0 : ((rd l0 x5_1) == (rd l1 x5_1)) = false := beq_eq_false_iff_ne.mpr c7; have c7b1 : ((rd l0 x5_1) != (rd l1 x5_1)) = true := bne_iff_ne.mpr c7; obtain rfl := Option.some.inj H; (have p141 : 0 ≤ (x5_1 : Int) := of_decide_eq_true (by first | (with_reducible assumption) | assumption)); (have q141 : x5_1 < (l0.length : Int) := of_decide_eq_true (by first | (with_reducible assumption) | assumption)); obtain ⟨ad141, e141, hx141_0⟩ := Kd.at_int HR0.out x5_1 p141 q141
        cases e141
        replace p141 := eq_true p141; replace q141 := eq_true q141; (have p142 : 0 ≤ (x5_1 : Int) := of_decide_eq_true (by first | (with_reducible assumption) | assumption)); (have q142 : x5_1 < (l1.length : Int) := of_decide_eq_true (by first | (with_reducible assumption) | assumption)); obtain ⟨ad142, e142, hx142_0⟩ := Kd.at_int HR1.out x5_1 p142 q142
        cases e142
        replace p142 := eq_true p142; replace q142 := eq_true q142; go_wp2
        repeat (go_quiet (fail); try go_wp2)
        go_ret; (exact ⟨by first | rfl | (simp; done) | (simp [*]; done), by repeat (first | exact Drawn0.refl _ | apply Drawn0.step)⟩)
      ·
       rw [if_neg c6] at H; (exact absurd H (by simp))
     ·
      rw [if_neg c5] at H; (exact absurd H (by simp))
    ·
     rw [if_neg c4] at H; have c4b0 : decide (x5_1 < (l0.length : Int)) = false := decide_eq_false c4; clear c4; obtain rfl := Option.some.inj H; go_wp2
     repeat (go_quiet (fail); try go_wp2)
     go_ret; (exact ⟨by first | rfl | (simp; done) | (simp [*]; done), by repeat (first | exact Drawn0.refl _ | apply Drawn0.step)⟩)
 ·
  rw [if_neg c3] at H; have c3b0 : ((l0.length : Int) == (l1.length : Int)) = false := beq_eq_false_iff_ne.mpr c3; have c3b1 : ((l0.length : Int) != (l1.length : Int)) = true := bne_iff_ne.mpr c3; (have c3b2 : (l0.length == l1.length) = false := by first | simpa using c3 | (simp at c3 ⊢; omega)); obtain rfl := Option.some.inj H
  go_enter Try.func25, Try.ntmps25
  go_wp2
  repeat (go_quiet (fail); try go_wp2)
  go_ret; (exact ⟨by first | rfl | (simp; done) | (simp [*]; done), by repeat (first | exact Drawn0.refl _ | apply Drawn0.step)⟩)

end Go.Proofs.Ytckefohfahphpaa.Z
end
section
namespace Go.Proofs.Ytckefohfahphpaa.Z
open Go.RowKit Go.Proofs.YtckefohfahphpaaW.PrintWords Go.Proofs.YtckefohfahphpaaW.PrintLast Go.Proofs.YtckefohfahphpaaW.PrintMore
attribute [local go_sem] max2_int min2_int max_two min_two max_three min_three max_four min_four   -- for this text's walks alone
set_option linter.unusedVariables false
set_option linter.unusedSimpArgs false

/-! ### petrinetref08_Same: function 14 -/
def petrinetref08_Same.l0 : Nat → List (List Int) → List (List Int) → Int → Option (Bool)
 | 0, _, _, _ => none
 | k + 1, x0, x1, x5 => if x5 < (x0.length : Int) then (if 0 ≤ x5 then (if x5 < (x1.length : Int) then ((petrinetref08_Vectors.f k (rd_L1 x0 x5) (rd_L1 x1 x5)).bind fun t145 => (if t145 = true then (petrinetref08_Same.l0 k x0 x1 (wrap64 (x5 + 1))) else (some false))) else (none)) else (none)) else (some true)
def petrinetref08_Same.f (k : Nat) (l0 : List (List Int)) (l1 : List (List Int)) : Option (Bool) := if (l0.length : Int) = (l1.length : Int) then (petrinetref08_Same.l0 k l0 l1 0) else (some false)
theorem petrinetref08_Same.mono_l : ∀ k, (∀ y0 y1 y2, LeO (petrinetref08_Same.l0 k y0 y1 y2) (petrinetref08_Same.l0 (k + 1) y0 y1 y2))
 | 0 => fun _ _ _ r h => by simp [petrinetref08_Same.l0] at h
 | k + 1 => by
  have ih0 := petrinetref08_Same.mono_l k
  ·
   intro y0 y1 y2
   unfold petrinetref08_Same.l0
   repeat' first
   | (with_reducible exact ih0 _ _ _)
   | (with_reducible exact petrinetref08_Vectors.mono _ _ _)
   | (with_reducible exact LeO.refl _)
   | (with_reducible exact LeO.none _)
   | (with_reducible refine LeO.ite ?_ ?_)
   | (with_reducible refine LeO.bind ?_ (fun _ => ?_))
   | exact ih0 _ _ _
   | exact petrinetref08_Vectors.mono _ _ _
   | exact LeO.none _
   | refine LeO.ite ?_ ?_
   | refine LeO.bind ?_ (fun _ => ?_)
theorem petrinetref08_Same.mono : ∀ a0 a1 k, LeO (petrinetref08_Same.f k a0 a1) (petrinetref08_Same.f (k + 1) a0 a1) := by
 intro a0 a1 k
 have ih0 := petrinetref08_Same.mono_l k
 unfold petrinetref08_Same.f
 repeat' first
   | (with_reducible exact ih0 _ _ _)
   | (with_reducible exact petrinetref08_Vectors.mono _ _ _)
   | (with_reducible exact LeO.refl _)
   | (with_reducible exact LeO.none _)
   | (with_reducible refine LeO.ite ?_ ?_)
   | (with_reducible refine LeO.bind ?_ (fun _ => ?_))
   | exact ih0 _ _ _
   | exact petrinetref08_Vectors.mono _ _ _
   | exact LeO.none _
   | refine LeO.ite ?_ ?_
   | refine LeO.bind ?_ (fun _ => ?_)
set_option maxHeartbeats 8000000 in
set_option maxRecDepth 100000 in
theorem petrinetref08_Same.calls (k : Nat) (A0 : Option Addr) (c0 : Nat) (l0 : List (List Int)) (A1 : Option Addr) (c1 : Nat) (l1 : List (List Int)) (r : Bool) (w : World) (hr0 : Kd.C (Kd.slice 2 (Kd.int .i64)) w A0 l0.length l0) (hc0 : l0.length ≤ c0) (hr1 : Kd.C (Kd.slice 2 (Kd.int .i64)) w A1 l1.length l1) (hc1 : l1.length ≤ c1) (h : petrinetref08_Same.f k l0 l1 = some r) :
  Calls Try.prog 14 #[.slice A0 l0.length c0, .slice A1 l1.length c1] w fun e w' => e = .returned (.bool r) ∧ Drawn0 w w' := by
 have HR0 := Aside0.mk hr0
 have HC0 := Aside0.mk hc0
 clear hr0 hc0
 have HR1 := Aside0.mk hr1
 have HC1 := Aside0.mk hc1
 clear hr1 hc1
 have H : (if (l0.length : Int) = (l1.length : Int) then (petrinetref08_Same.l0 k l0 l1 0) else (some false)) = some r := h
 clear h
 by_cases c3 : (l0.length : Int) = (l1.length : Int)
 ·
  rw [if_pos c3] at H; have c3b0 : ((l0.length : Int) == (l1.length : Int)) = true := beq_iff_eq.mpr c3; have c3b1 : ((l0.length : Int) != (l1.length : Int)) = false := bne_eq_false_iff_eq.mpr c3; (have c3b2 : (l0.length == l1.length) = true := by first | simpa using c3 | (simp at c3 ⊢; omega)); clear c3; have H' := Aside0.mk H; clear H
  go_enter Try.func14, Try.ntmps14
  go_wp2
  repeat (go_quiet (fail); try go_wp2)
  go_loopg [5] k (fun kq v5 w' => ∃ (x5_1 : Int), v5 = .int .i64 x5_1 ∧ Aside0 (petrinetref08_Same.l0 kq l0 l1 x5_1 = some r) ∧ Aside0 (kq ≤ k) ∧ Drawn0 w w')
  case atStart => exact ⟨(0), (by first | rfl | (simp; done) | (simp [*]; done)), H', ⟨Nat.le_refl _⟩, by repeat (first | exact Drawn0.refl _ | apply Drawn0.step)⟩
  case round =>
   clear H'; (try clear c1); (try clear p2); (try clear c3); (try clear c3b0); (try clear c3b1); (try clear c3b2); obtain ⟨x5_1, rfl, HA, HK1, ⟨m1, rfl⟩⟩ := hrel
   cases gk with
   | zero => exact absurd HA.out (by simp [petrinetref08_Same.l0])
   | succ k1 =>
    have H := HA.out; clear HA; simp only [petrinetref08_Same.l0] at H; by_cases c4 : x5_1 < (l0.length : Int)
    ·
     rw [if_pos c4] at H; have c4b0 : decide (x5_1 < (l0.length : Int)) = true := decide_eq_true c4; clear c4; by_cases c5 : 0 ≤ x5_1
     ·
      rw [if_pos c5] at H; have c5b0 : decide (0 ≤ x5_1) = true := decide_eq_true c5; clear c5; by_cases c6 : x5_1 < (l1.length : Int)
      ·
       rw [if_pos c6] at H; have c6b0 : decide (x5_1 < (l1.length : Int)) = true := decide_eq_true c6; clear c6; replace H := Option.bind_eq_some_iff.mp H; obtain ⟨t145, A70, H⟩ := H; replace H : (if t145 = true then (petrinetref08_Same.l0 k1 l0 l1 (wrap64 (x5_1 + 1))) else (some false)) = some r := H; have A7 := Aside0.mk A70; clear A70; by_cases c8 : t145 = true
       ·
        subst c8; (have H1 : (petrinetref08_Same.l0 k1 l0 l1 (wrap64 (x5_1 + 1))) = some r := by rw [if_pos rfl] at H; exact H); clear H; have H := H1; clear H1; have H' := Aside0.mk H; clear H; (have p143 : 0 ≤ (x5_1 : Int) := of_decide_eq_true (by first | (with_reducible assumption) | assumption)); (have q143 : x5_1 < (l0.length : Int) := of_decide_eq_true (by first | (with_reducible assumption) | assumption)); obtain ⟨ad143, A143_0, c143_0, e143, hx143_0, hl143_0, hi143_0⟩ := at_L1 HR0.out x5_1 p143 q143
        cases e143
        have HR143_0 := Aside0.mk hi143_0; have HC143_0 := Aside0.mk hl143_0; clear hi143_0 hl143_0; replace p143 := eq_true p143; replace q143 := eq_true q143; (have p144 : 0 ≤ (x5_1 : Int) := of_decide_eq_true (by first | (with_reducible assumption) | assumption)); (have q144 : x5_1 < (l1.length : Int) := of_decide_eq_true (by first | (with_reducible assumption) | assumption)); obtain ⟨ad144, A144_0, c144_0, e144, hx144_0, hl144_0, hi144_0⟩ := at_L1 HR1.out x5_1 p144 q144
        cases e144
        have HR144_0 := Aside0.mk hi144_0; have HC144_0 := Aside0.mk hl144_0; clear hi144_0 hl144_0; replace p144 := eq_true p144; replace q144 := eq_true q144; (go_wp2_with (first | (go_at_call 25; (with_reducible refine (petrinetref08_Vectors.calls k1 _ _ (rd_L1 l0 x5_1) _ _ (rd_L1 l1 x5_1) true _ ?side1 ?side2 ?side3 ?side4 A7.out).mono ?_); (case side1 => repeat (first | exact HR143_0.out | (with_reducible refine Kd.C_alloc ?_ _) | (with_reducible refine Kd.C_drewN ?_ _) | (with_reducible refine Kd.C_drew ?_))); (case side2 => exact HC143_0.out); (case side3 => repeat (first | exact HR144_0.out | (with_reducible refine Kd.C_alloc ?_ _) | (with_reducible refine Kd.C_drewN ?_ _) | (with_reducible refine Kd.C_drew ?_))); (case side4 => exact HC144_0.out); rintro e w' ⟨rfl, ⟨nd, rfl⟩⟩; (try first | exact ⟨rfl, _, World.drewN_drewN _ _ _⟩ | exact ⟨rfl, _, Eq.trans (World.drewN_drewN _ _ _) (congrArg (World.drewN _) (Nat.add_assoc _ _ _))⟩))))
        repeat (go_quiet (first | (go_at_call 25; (with_reducible refine (petrinetref08_Vectors.calls k1 _ _ (rd_L1 l0 x5_1) _ _ (rd_L1 l1 x5_1) true _ ?side1 ?side2 ?side3 ?side4 A7.out).mono ?_); (case side1 => repeat (first | exact HR143_0.out | (with_reducible refine Kd.C_alloc ?_ _) | (with_reducible refine Kd.C_drewN ?_ _) | (with_reducible refine Kd.C_drew ?_))); (case side2 => exact HC143_0.out); (case side3 => repeat (first | exact HR144_0.out | (with_reducible refine Kd.C_alloc ?_ _) | (with_reducible refine Kd.C_drewN ?_ _) | (with_reducible refine Kd.C_drew ?_))); (case side4 => exact HC144_0.out); rintro e w' ⟨rfl, ⟨nd, rfl⟩⟩; (try first | exact ⟨rfl, _, World.drewN_drewN _ _ _⟩ | exact ⟨rfl, _, Eq.trans (World.drewN_drewN _ _ _) (congrArg (World.drewN _) (Nat.add_assoc _ _ _))⟩))); try go_wp2_with (first | (go_at_call 25; (with_reducible refine (petrinetref08_Vectors.calls k1 _ _ (rd_L1 l0 x5_1) _ _ (rd_L1 l1 x5_1) true _ ?side1 ?side2 ?side3 ?side4 A7.out).mono ?_); (case side1 => repeat (first | exact HR143_0.out | (with_reducible refine Kd.C_alloc ?_ _) | (with_reducible refine Kd.C_drewN ?_ _) | (with_reducible refine Kd.C_drew ?_))); (case side2 => exact HC143_0.out); (case side3 => repeat (first | exact HR144_0.out | (with_reducible refine Kd.C_alloc ?_ _) | (with_reducible refine Kd.C_drewN ?_ _) | (with_reducible refine Kd.C_drew ?_))); (case side4 => exact HC144_0.out); rintro e w' ⟨rfl, ⟨nd, rfl⟩⟩; (try first | exact ⟨rfl, _, World.drewN_drewN _ _ _⟩ | exact ⟨rfl, _, Eq.trans (World.drewN_drewN _ _ _) (congrArg (World.drewN _) (Nat.add_assoc _ _ _))⟩))))
        go_roundg k1
        case measure => have := HK1.out; omega
        case rel => exact ⟨(wrap64 (x5_1 + 1)), (by first | rfl | (simp; done) | (simp [*]; done)), H', ⟨by have := HK1.out; omega⟩, by repeat (first | exact Drawn0.refl _ | apply Drawn0.step)⟩
       ·
        replace c8 := Bool.eq_false_iff.mpr c8; subst c8; (have H1 : (some false) = some r := by rw [if_neg (show ¬ (false = true) by decide)] at H; exact H); clear H; have H := H1; clear H1; obtain rfl := Option.some.inj H; (have p143 : 0 ≤ (x5_1 : Int) := of_decide_eq_true (by first | (with_reducible assumption) | assumption)); (have q143 : x5_1 < (l0.length : Int) := of_decide_eq_true (by first | (with_reducible assumption) | assumption)); obtain ⟨ad143, A143_0, c143_0, e143, hx143_0, hl143_0, hi143_0⟩ := at_L1 HR0.out x5_1 p143 q143
        cases e143
        have HR143_0 := Aside0.mk hi143_0; have HC143_0 := Aside0.mk hl143_0; clear hi143_0 hl143_0; replace p143 := eq_true p143; replace q143 := eq_true q143; (have p144 : 0 ≤ (x5_1 : Int) := of_decide_eq_true (by first | (with_reducible assumption) | assumption)); (have q144 : x5_1 < (l1.length : Int) := of_decide_eq_true (by first | (with_reducible assumption) | assumption)); obtain ⟨ad144, A144_0, c144_0, e144, hx144_0, hl144_0, hi144_0⟩ := at_L1 HR1.out x5_1 p144 q144
        cases e144
        have HR144_0 := Aside0.mk hi144_0; have HC144_0 := Aside0.mk hl144_0; clear hi144_0 hl144_0; replace p144 := eq_true p144; replace q144 := eq_true q144; (go_wp2_with (first | (go_at_call 25; (with_reducible refine (petrinetref08_Vectors.calls k1 _ _ (rd_L1 l0 x5_1) _ _ (rd_L1 l1 x5_1) false _ ?side1 ?side2 ?side3 ?side4 A7.out).mono ?_); (case side1 => repeat (first | exact HR143_0.out | (with_reducible refine Kd.C_alloc ?_ _) | (with_reducible refine Kd.C_drewN ?_ _) | (with_reducible refine Kd.C_drew ?_))); (case side2 => exact HC143_0.out); (case side3 => repeat (first | exact HR144_0.out | (with_reducible refine Kd.C_alloc ?_ _) | (with_reducible refine Kd.C_drewN ?_ _) | (with_reducible refine Kd.C_drew ?_))); (case side4 => exact HC144_0.out); rintro e w' ⟨rfl, ⟨nd, rfl⟩⟩; (try first | exact ⟨rfl, _, World.drewN_drewN _ _ _⟩ | exact ⟨rfl, _, Eq.trans (World.drewN_drewN _ _ _) (congrArg (World.drewN _) (Nat.add_assoc _ _ _))⟩))))
        repeat (go_quiet (first | (go_at_call 25; (with_reducible refine (petrinetref08_Vectors.calls k1 _ _ (rd_L1 l0 x5_1) _ _ (rd_L1 l1 x5_1) false _ ?side1 ?side2 ?side3 ?side4 A7.out).mono ?_); (case side1 => repeat (first | exact HR143_0.out | (with_reducible refine Kd.C_alloc ?_ _) | (with_reducible refine Kd.C_drewN ?_ _) | (with_reducible refine Kd.C_drew ?_))); (case side2 => exact HC143_0.out); (case side3 => repeat (first | exact HR144_0.out | (with_reducible refine Kd.C_alloc ?_ _) | (with_reducible refine Kd.C_drewN ?_ _) | (with_reducible refine Kd.C_drew ?_))); (case side4 => exact HC144_0.out); rintro e w' ⟨rfl, ⟨nd, rfl⟩⟩; (try first | exact ⟨rfl, _, World.drewN_drewN _ _ _⟩ | exact ⟨rfl, _, Eq.trans (World.drewN_drewN _ _ _) (congrArg (World.drewN _) (Nat.add_assoc _ _ _))⟩))); try go_wp2_with (first | (go_at_call 25; (with_reducible refine (petrinetref08_Vectors.calls k1 _ _ (rd_L1 l0 x5_1) _ _ (rd_L1 l1 x5_1) false _ ?side1 ?side2 ?side3 ?side4 A7.out).mono ?_); (case side1 => repeat (first | exact HR143_0.out | (with_reducible refine Kd.C_alloc ?_ _) | (with_reducible refine Kd.C_drewN ?_ _) | (with_reducible refine Kd.C_drew ?_))); (case side2 => exact HC143_0.out); (case side3 => repeat (first | exact HR144_0.out | (with_reducible refine Kd.C_alloc ?_ _) | (with_reducible refine Kd.C_drewN ?_ _) | (with_reducible refine Kd.C_drew ?_))); (case side4 => exact HC144_0.out); rintro e w' ⟨rfl, ⟨nd, rfl⟩⟩; (try first | exact ⟨rfl, _, World.drewN_drewN _ _ _⟩ | exact ⟨rfl, _, Eq.trans (World.drewN_drewN _ _ _) (congrArg (World.drewN _) (Nat.add_assoc _ _ _))⟩))))
        go_ret; (exact ⟨by first | rfl | (simp; done) | (simp [*]; done), by repeat (first | exact Drawn0.refl _ | apply Drawn0.step)⟩)
      ·
       rw [if_neg c6] at H; (exact absurd H (by simp))
     ·
      rw [if_neg c5] at H; (exact absurd H (by simp))
    ·
     rw [if_neg c4] at H; have c4b0 : decide (x5_1 < (l0.length : Int)) = false := decide_eq_false c4; clear c4; obtain rfl := Option.some.inj H; go_wp2
     repeat (go_quiet (fail); try go_wp2)
     go_ret; (exact ⟨by first | rfl | (simp; done) | (simp [*]; done), by repeat (first | exact Drawn0.refl _ | apply Drawn0.step)⟩)
 ·
  rw [if_neg c3] at H; have c3b0 : ((l0.length : Int) == (l1.length : Int)) = false := beq_eq_false_iff_ne.mpr c3; have c3b1 : ((l0.length : Int) != (l1.length : Int)) = true := bne_iff_ne.mpr c3; (have c3b2 : (l0.length == l1.length) = false := by first | simpa using c3 | (simp at c3 ⊢; omega)); obtain rfl := Option.some.inj H
  go_enter Try.func14, Try.ntmps14
  go_wp2
  repeat (go_quiet (fail); try go_wp2)
  go_ret; (exact ⟨by first | rfl | (simp; done) | (simp [*]; done), by repeat (first | exact Drawn0.refl _ | apply Drawn0.step)⟩)

end Go.Proofs.Ytckefohfahphpaa.Z
end
section
namespace Go.Proofs.Ytckefohfahphpaa.Z
open Go.RowKit Go.Proofs.YtckefohfahphpaaW.PrintWords Go.Proofs.YtckefohfahphpaaW.PrintLast Go.Proofs.YtckefohfahphpaaW.PrintMore
attribute [local go_sem] max2_int min2_int max_two min_two max_three min_three max_four min_four   -- for this text's walks alone
set_option linter.unusedVariables false
set_option linter.unusedSimpArgs false

/-! ### matrix_Valid: function 18 -/
mutual
def matrix_Valid.j0 : Nat → List (List Int) → Bool → Option (Bool)
 | 0, _, _ => none
 | k + 1, x0, x13 => if x13 = true then (some false) else (if 0 < (x0.length : Int) then (matrix_Valid.l0 k ((rd_L1 x0 0).length : Int) x0 (x0.length : Int) 0) else (none))
def matrix_Valid.l0 : Nat → Int → List (List Int) → Int → Int → Option (Bool)
 | 0, _, _, _, _ => none
 | k + 1, x3, x18, x19, x20 => if x20 < x19 then (if 0 ≤ x20 then (if x20 < (x18.length : Int) then (if ((rd_L1 x18 x20).length : Int) = x3 then (matrix_Valid.l0 k x3 x18 x19 (wrap64 (x20 + 1))) else (some false)) else (none)) else (none)) else (if x3 ≥ 1 then (some (decide (x3 ≤ 64))) else (some false))
end
def matrix_Valid.f (k : Nat) (l0 : List (List Int)) : Option (Bool) := if (l0.length : Int) < 1 then (matrix_Valid.j0 k l0 true) else (matrix_Valid.j0 k l0 (decide ((l0.length : Int) > 64)))
theorem matrix_Valid.mono_l : ∀ k, (∀ y0 y1, LeO (matrix_Valid.j0 k y0 y1) (matrix_Valid.j0 (k + 1) y0 y1)) ∧ (∀ y0 y1 y2 y3, LeO (matrix_Valid.l0 k y0 y1 y2 y3) (matrix_Valid.l0 (k + 1) y0 y1 y2 y3))
 | 0 => ⟨fun _ _ r h => by simp [matrix_Valid.j0] at h, fun _ _ _ _ r h => by simp [matrix_Valid.l0] at h⟩
 | k + 1 => by
  obtain ⟨ih0, ih1⟩ := matrix_Valid.mono_l k
  refine ⟨?_, ?_⟩
  ·
   intro y0 y1
   unfold matrix_Valid.j0
   repeat' first
   | (with_reducible exact ih0 _ _)
   | (with_reducible exact ih1 _ _ _ _)
   | (with_reducible exact LeO.refl _)
   | (with_reducible exact LeO.none _)
   | (with_reducible refine LeO.ite ?_ ?_)
   | (with_reducible refine LeO.bind ?_ (fun _ => ?_))
   | exact ih0 _ _
   | exact ih1 _ _ _ _
   | exact LeO.none _
   | refine LeO.ite ?_ ?_
   | refine LeO.bind ?_ (fun _ => ?_)
  ·
   intro y0 y1 y2 y3
   unfold matrix_Valid.l0
   repeat' first
   | (with_reducible exact ih0 _ _)
   | (with_reducible exact ih1 _ _ _ _)
   | (with_reducible exact LeO.refl _)
   | (with_reducible exact LeO.none _)
   | (with_reducible refine LeO.ite ?_ ?_)
   | (with_reducible refine LeO.bind ?_ (fun _ => ?_))
   | exact ih0 _ _
   | exact ih1 _ _ _ _
   | exact LeO.none _
   | refine LeO.ite ?_ ?_
   | refine LeO.bind ?_ (fun _ => ?_)
theorem matrix_Valid.mono : ∀ a0 k, LeO (matrix_Valid.f k a0) (matrix_Valid.f (k + 1) a0) := by
 intro a0 k
 obtain ⟨ih0, ih1⟩ := matrix_Valid.mono_l k
 unfold matrix_Valid.f
 repeat' first
   | (with_reducible exact ih0 _ _)
   | (with_reducible exact ih1 _ _ _ _)
   | (with_reducible exact LeO.refl _)
   | (with_reducible exact LeO.none _)
   | (with_reducible refine LeO.ite ?_ ?_)
   | (with_reducible refine LeO.bind ?_ (fun _ => ?_))
   | exact ih0 _ _
   | exact ih1 _ _ _ _
   | exact LeO.none _
   | refine LeO.ite ?_ ?_
   | refine LeO.bind ?_ (fun _ => ?_)
set_option maxHeartbeats 8000000 in
set_option maxRecDepth 100000 in
theorem matrix_Valid.calls (k : Nat) (A0 : Option Addr) (c0 : Nat) (l0 : List (List Int)) (r : Bool) (w : World) (hr0 : Kd.C (Kd.slice 2 (Kd.int .i64)) w A0 l0.length l0) (hc0 : l0.length ≤ c0) (h : matrix_Valid.f k l0 = some r) :
  Calls Try.prog 18 #[.slice A0 l0.length c0] w fun e w' => e = .returned (.bool r) ∧ Drawn0 w w' := by
 have HR0 := Aside0.mk hr0
 have HC0 := Aside0.mk hc0
 clear hr0 hc0
 have H : (if (l0.length : Int) < 1 then (matrix_Valid.j0 k l0 true) else (matrix_Valid.j0 k l0 (decide ((l0.length : Int) > 64)))) = some r := h
 clear h
 have HC2 := Aside0.mk H
 clear H
 go_enter Try.func18, Try.ntmps18
 go_upto_region 1 with (fail)
 go_cut [13] (fun v13 wc => ∃ (kq : Nat) (x13_1 : Bool), v13 = .bool x13_1 ∧ Aside0 (matrix_Valid.j0 kq l0 x13_1 = some r) ∧ Aside0 (kq ≤ k) ∧ Drawn0 w wc)
 case first =>
  have H := HC2.out; clear HC2; by_cases c3 : (l0.length : Int) < 1
  ·
   rw [if_pos c3] at H; have c3b0 : decide ((l0.length : Int) < 1) = true := decide_eq_true c3; (have c3b1 : decide (l0.length < 1) = true := decide_eq_true (by omega)); clear c3; (first | rw [c3b0] | (simp only [i64_w, i32_w]; rw [c3b0]) | skip); have H' := Aside0.mk H; clear H; go_wp2; go_meet
   case rel => exact ⟨_, (true), (by first | rfl | (simp; done) | (simp [*]; done)), H', ⟨by first | omega | exact Nat.le_refl _⟩, by repeat (first | exact Drawn0.refl _ | apply Drawn0.step)⟩
  ·
   rw [if_neg c3] at H; have c3b0 : decide ((l0.length : Int) < 1) = false := decide_eq_false c3; (have c3b1 : decide (l0.length < 1) = false := decide_eq_false (by omega)); clear c3; (first | rw [c3b0] | (simp only [i64_w, i32_w]; rw [c3b0]) | skip); have H' := Aside0.mk H; clear H; go_wp2; go_meet
   case rel => exact ⟨_, (decide ((l0.length : Int) > 64)), (by first | rfl | (simp; done) | (simp [*]; done)), H', ⟨by first | omega | exact Nat.le_refl _⟩, by repeat (first | exact Drawn0.refl _ | apply Drawn0.step)⟩
 case rest =>
  clear HC2; (try clear c1); (try clear p2); (try clear c3); (try clear c3b0); (try clear c3b1); obtain ⟨kq, x13_1, rfl, HA, HJ1, ⟨mc1, rfl⟩⟩ := hcut
  cases kq with
  | zero => exact absurd HA.out (by simp [matrix_Valid.j0])
  | succ kj1 =>
   have H := HA.out; clear HA; simp only [matrix_Valid.j0] at H; by_cases c4 : x13_1 = true
   ·
    subst c4; (have H1 : (some false) = some r := by rw [if_pos rfl] at H; exact H); clear H; have H := H1; clear H1; obtain rfl := Option.some.inj H; go_wp2; go_ret; (exact ⟨by first | rfl | (simp; done) | (simp [*]; done), by repeat (first | exact Drawn0.refl _ | apply Drawn0.step)⟩)
   ·
    replace c4 := Bool.eq_false_iff.mpr c4; subst c4; (have H1 : (if 0 < (l0.length : Int) then (matrix_Valid.l0 kj1 ((rd_L1 l0 0).length : Int) l0 (l0.length : Int) 0) else (none)) = some r := by rw [if_neg (show ¬ (false = true) by decide)] at H; exact H); clear H; have H := H1; clear H1; by_cases c5 : 0 < (l0.length : Int)
    ·
     rw [if_pos c5] at H; have c5b0 : decide (0 < (l0.length : Int)) = true := decide_eq_true c5; (have c5b1 : decide (0 < l0.length) = true := decide_eq_true (by omega)); clear c5; have H' := Aside0.mk H; clear H; (have p105 : 0 ≤ (0 : Int) := (by omega)); (have q105 : 0 < (l0.length : Int) := of_decide_eq_true (by first | (with_reducible assumption) | assumption)); obtain ⟨ad105, A105_0, c105_0, e105, hx105_0, hl105_0, hi105_0⟩ := at_L1 HR0.out 0 p105 q105
     cases e105
     (have qi105 : (0 < l0.length) = True := eq_true (by omega)); (try rw [show ((0 : Int)).toNat = 0 from rfl] at hx105_0); (try rw [Addr.add_zero'] at hx105_0); have HR105_0 := Aside0.mk hi105_0; have HC105_0 := Aside0.mk hl105_0; clear hi105_0 hl105_0; replace p105 := eq_true p105; replace q105 := eq_true q105; go_wp2
     go_loopg [20] kj1 (fun kq v20 w' => ∃ (x20_2 : Int), v20 = .int .i64 x20_2 ∧ Aside0 (matrix_Valid.l0 kq ((rd_L1 l0 0).length : Int) l0 (l0.length : Int) x20_2 = some r) ∧ Aside0 (kq ≤ kj1) ∧ Drawn0 w w')
     case atStart => exact ⟨(0), (by first | rfl | (simp; done) | (simp [*]; done)), H', ⟨Nat.le_refl _⟩, by repeat (first | exact Drawn0.refl _ | apply Drawn0.step)⟩
     case round =>
      clear H'; (try clear c1); (try clear p1); (try clear q1); (try clear hx1); (try clear qi1); (try clear p2); (try clear c3); (try clear c3b0); (try clear c3b1); (try clear c4); (try clear c5); (try clear c5b0); (try clear c5b1); (try clear hx105_0); (try clear p105); (try clear p2); (try clear q105); obtain ⟨x20_2, rfl, HA, HK2, ⟨m2, rfl⟩⟩ := hrel
      cases gk with
      | zero => exact absurd HA.out (by simp [matrix_Valid.l0])
      | succ k2 =>
       have H := HA.out; clear HA; simp only [matrix_Valid.l0] at H; by_cases c6 : x20_2 < (l0.length : Int)
       ·
        rw [if_pos c6] at H; have c6b0 : decide (x20_2 < (l0.length : Int)) = true := decide_eq_true c6; clear c6; by_cases c7 : 0 ≤ x20_2
        ·
         rw [if_pos c7] at H; have c7b0 : decide (0 ≤ x20_2) = true := decide_eq_true c7; clear c7; by_cases c8 : x20_2 < (l0.length : Int)
         ·
          rw [if_pos c8] at H; have c8b0 : decide (x20_2 < (l0.length : Int)) = true := decide_eq_true c8; clear c8; by_cases c9 : ((rd_L1 l0 x20_2).length : Int) = ((rd_L1 l0 0).length : Int)
          ·
           rw [if_pos c9] at H; have c9b0 : (((rd_L1 l0 x20_2).length : Int) == ((rd_L1 l0 0).length : Int)) = true := beq_iff_eq.mpr c9; have c9b1 : (((rd_L1 l0 x20_2).length : Int) != ((rd_L1 l0 0).length : Int)) = false := bne_eq_false_iff_eq.mpr c9; (have c9b2 : ((rd_L1 l0 x20_2).length == (rd_L1 l0 0).length) = true := by first | simpa using c9 | (simp at c9 ⊢; omega)); clear c9; have H' := Aside0.mk H; clear H; (have p106 : 0 ≤ (x20_2 : Int) := of_decide_eq_true (by first | (with_reducible assumption) | assumption)); (have q106 : x20_2 < (l0.length : Int) := of_decide_eq_true (by first | (with_reducible assumption) | assumption)); obtain ⟨ad106, A106_0, c106_0, e106, hx106_0, hl106_0, hi106_0⟩ := at_L1 HR0.out x20_2 p106 q106; (obtain rfl : ad105 = ad106 := (by injection e106)); have HR106_0 := Aside0.mk hi106_0; have HC106_0 := Aside0.mk hl106_0; clear hi106_0 hl106_0; replace p106 := eq_true p106; replace q106 := eq_true q106; go_wp2; go_roundg k2
           case measure => have := HJ1.out; have := HK2.out; omega
           case rel => exact ⟨(wrap64 (x20_2 + 1)), (by first | rfl | (simp; done) | (simp [*]; done)), H', ⟨by have := HJ1.out; have := HK2.out; omega⟩, by repeat (first | exact Drawn0.refl _ | apply Drawn0.step)⟩
          ·
           rw [if_neg c9] at H; have c9b0 : (((rd_L1 l0 x20_2).length : Int) == ((rd_L1 l0 0).length : Int)) = false := beq_eq_false_iff_ne.mpr c9; have c9b1 : (((rd_L1 l0 x20_2).length : Int) != ((rd_L1 l0 0).length : Int)) = true := bne_iff_ne.mpr c9; (have c9b2 : ((rd_L1 l0 x20_2).length == (rd_L1 l0 0).length) = false := by first | simpa using c9 | (simp at c9 ⊢; omega)); obtain rfl := Option.some.inj H; (have p106 : 0 ≤ (x20_2 : Int) := of_decide_eq_true (by first | (with_reducible assumption) | assumption)); (have q106 : x20_2 < (l0.length : Int) := of_decide_eq_true (by first | (with_reducible assumption) | assumption)); obtain ⟨ad106, A106_0, c106_0, e106, hx106_0, hl106_0, hi106_0⟩ := at_L1 HR0.out x20_2 p106 q106; (obtain rfl : ad105 = ad106 := (by injection e106)); have HR106_0 := Aside0.mk hi106_0; have HC106_0 := Aside0.mk hl106_0; clear hi106_0 hl106_0; replace p106 := eq_true p106; replace q106 := eq_true q106; go_wp2; go_ret; (exact ⟨by first | rfl | (simp; done) | (simp [*]; done), by repeat (first | exact Drawn0.refl _ | apply Drawn0.step)⟩)
         ·
          rw [if_neg c8] at H; (exact absurd H (by simp))
        ·
         rw [if_neg c7] at H; (exact absurd H (by simp))
       ·
        rw [if_neg c6] at H; have c6b0 : decide (x20_2 < (l0.length : Int)) = false := decide_eq_false c6; clear c6; by_cases c10 : ((rd_L1 l0 0).length : Int) ≥ 1
        ·
         rw [if_pos c10] at H; have c10b0 : decide (1 ≤ ((rd_L1 l0 0).length : Int)) = true := decide_eq_true c10; (have c10b1 : decide (1 ≤ (rd_L1 l0 0).length) = true := decide_eq_true (by omega)); clear c10; obtain rfl := Option.some.inj H; go_wp2; go_ret; (exact ⟨by first | rfl | (simp; done) | (simp [*]; done), by repeat (first | exact Drawn0.refl _ | apply Drawn0.step)⟩)
        ·
         rw [if_neg c10] at H; have c10b0 : decide (1 ≤ ((rd_L1 l0 0).length : Int)) = false := decide_eq_false c10; (have c10b1 : decide (1 ≤ (rd_L1 l0 0).length) = false := decide_eq_false (by omega)); clear c10; obtain rfl := Option.some.inj H; go_wp2; go_ret; (exact ⟨by first | rfl | (simp; done) | (simp [*]; done), by repeat (first | exact Drawn0.refl _ | apply Drawn0.step)⟩)
    ·
     rw [if_neg c5] at H; (exact absurd H (by simp))

end Go.Proofs.Ytckefohfahphpaa.Z
end
section
namespace Go.Proofs.Ytckefohfahphpaa.Z
open Go.RowKit Go.Proofs.YtckefohfahphpaaW.PrintWords Go.Proofs.YtckefohfahphpaaW.PrintLast Go.Proofs.YtckefohfahphpaaW.PrintMore
attribute [local go_sem] max2_int min2_int max_two min_two max_three min_three max_four min_four   -- for this text's walks alone
set_option linter.unusedVariables false
set_option linter.unusedSimpArgs false

/-! ### safeint_signed: function 49 -/
def safeint_signed.j0 : Nat → Int → Bool → Bool → Option (Int × Bool)
 | 0, _, _, _ => none
 | k + 1, x0, x1, x6 => if x6 = true then (some (wrap64 (IntKind.u64.wrap (-x0)), true)) else (if x1 = true then (some (0, false)) else (if x0 ≤ 9223372036854775807 then (some (wrap64 (x0), true)) else (some (0, false))))
def safeint_signed.f (k : Nat) (a0 : Int) (a1 : Bool) : Option (Int × Bool) := if a1 = true then (safeint_signed.j0 k a0 a1 (decide (a0 ≤ 9223372036854775808))) else (safeint_signed.j0 k a0 a1 false)
theorem safeint_signed.mono_l : ∀ k, (∀ y0 y1 y2, LeO (safeint_signed.j0 k y0 y1 y2) (safeint_signed.j0 (k + 1) y0 y1 y2))
 | 0 => fun _ _ _ r h => by simp [safeint_signed.j0] at h
 | k + 1 => by
  have ih0 := safeint_signed.mono_l k
  ·
   intro y0 y1 y2
   unfold safeint_signed.j0
   repeat' first
   | (with_reducible exact ih0 _ _ _)
   | (with_reducible exact LeO.refl _)
   | (with_reducible exact LeO.none _)
   | (with_reducible refine LeO.ite ?_ ?_)
   | (with_reducible refine LeO.bind ?_ (fun _ => ?_))
   | exact ih0 _ _ _
   | exact LeO.none _
   | refine LeO.ite ?_ ?_
   | refine LeO.bind ?_ (fun _ => ?_)
theorem safeint_signed.mono : ∀ a0 a1 k, LeO (safeint_signed.f k a0 a1) (safeint_signed.f (k + 1) a0 a1) := by
 intro a0 a1 k
 have ih0 := safeint_signed.mono_l k
 unfold safeint_signed.f
 repeat' first
   | (with_reducible exact ih0 _ _ _)
   | (with_reducible exact LeO.refl _)
   | (with_reducible exact LeO.none _)
   | (with_reducible refine LeO.ite ?_ ?_)
   | (with_reducible refine LeO.bind ?_ (fun _ => ?_))
   | exact ih0 _ _ _
   | exact LeO.none _
   | refine LeO.ite ?_ ?_
   | refine LeO.bind ?_ (fun _ => ?_)
set_option maxHeartbeats 8000000 in
set_option maxRecDepth 100000 in
theorem safeint_signed.calls (k : Nat) (a0 : Int) (a1 : Bool) (r1 : Int) (r2 : Bool) (w : World) (h : safeint_signed.f k a0 a1 = some (r1, r2)) :
  Calls Try.prog 49 #[.int .u64 a0, .bool a1] w fun e w' => e = .returned (.tuple #[.int .i64 r1, .bool r2]) ∧ Drawn0 w w' := by
 have H : (if a1 = true then (safeint_signed.j0 k a0 a1 (decide (a0 ≤ 9223372036854775808))) else (safeint_signed.j0 k a0 a1 false)) = some (r1, r2) := h
 clear h
 have HC3 := Aside0.mk H
 clear H
 go_enter Try.func49, Try.ntmps49
 go_upto_region 1 with (fail)
 go_cut [6] (fun v6 wc => ∃ (kq : Nat) (x6_2 : Bool), v6 = .bool x6_2 ∧ Aside0 (safeint_signed.j0 kq a0 a1 x6_2 = some (r1, r2)) ∧ Aside0 (kq ≤ k) ∧ Drawn0 w wc)
 case first =>
  have H := HC3.out; clear HC3; by_cases c4 : a1 = true
  ·
   subst c4; (have H1 : (safeint_signed.j0 k a0 true (decide (a0 ≤ 9223372036854775808))) = some (r1, r2) := by rw [if_pos rfl] at H; exact H); clear H; have H := H1; clear H1; have H' := Aside0.mk H; clear H; go_wp2; go_meet
   case rel => exact ⟨_, (decide (a0 ≤ 9223372036854775808)), (by first | rfl | (simp; done) | (simp [*]; done)), H', ⟨by first | omega | exact Nat.le_refl _⟩, by repeat (first | exact Drawn0.refl _ | apply Drawn0.step)⟩
  ·
   replace c4 := Bool.eq_false_iff.mpr c4; subst c4; (have H1 : (safeint_signed.j0 k a0 false false) = some (r1, r2) := by rw [if_neg (show ¬ (false = true) by decide)] at H; exact H); clear H; have H := H1; clear H1; have H' := Aside0.mk H; clear H; go_wp2; go_meet
   case rel => exact ⟨_, (false), (by first | rfl | (simp; done) | (simp [*]; done)), H', ⟨by first | omega | exact Nat.le_refl _⟩, by repeat (first | exact Drawn0.refl _ | apply Drawn0.step)⟩
 case rest =>
  clear HC3; (try clear p2); (try clear c4); obtain ⟨kq, x6_2, rfl, HA, HJ2, ⟨mc2, rfl⟩⟩ := hcut
  cases kq with
  | zero => exact absurd HA.out (by simp [safeint_signed.j0])
  | succ kj2 =>
   have H := HA.out; clear HA; simp only [safeint_signed.j0] at H; by_cases c5 : x6_2 = true
   ·
    subst c5; (have H1 : (some (wrap64 (IntKind.u64.wrap (-a0)), true)) = some (r1, r2) := by rw [if_pos rfl] at H; exact H); clear H; have H := H1; clear H1; simp only [Option.some.injEq, Prod.mk.injEq] at H; obtain ⟨rfl, rfl⟩ := H; go_wp2; go_ret2; (exact ⟨by first | rfl | (simp; done) | (simp [*]; done), by repeat (first | exact Drawn0.refl _ | apply Drawn0.step)⟩)
   ·
    replace c5 := Bool.eq_false_iff.mpr c5; subst c5; (have H1 : (if a1 = true then (some (0, false)) else (if a0 ≤ 9223372036854775807 then (some (wrap64 (a0), true)) else (some (0, false)))) = some (r1, r2) := by rw [if_neg (show ¬ (false = true) by decide)] at H; exact H); clear H; have H := H1; clear H1; by_cases c6 : a1 = true
    ·
     subst c6; (have H1 : (some (0, false)) = some (r1, r2) := by rw [if_pos rfl] at H; exact H); clear H; have H := H1; clear H1; simp only [Option.some.injEq, Prod.mk.injEq] at H; obtain ⟨rfl, rfl⟩ := H; go_wp2; go_ret2; (exact ⟨by first | rfl | (simp; done) | (simp [*]; done), by repeat (first | exact Drawn0.refl _ | apply Drawn0.step)⟩)
    ·
     replace c6 := Bool.eq_false_iff.mpr c6; subst c6; (have H1 : (if a0 ≤ 9223372036854775807 then (some (wrap64 (a0), true)) else (some (0, false))) = some (r1, r2) := by rw [if_neg (show ¬ (false = true) by decide)] at H; exact H); clear H; have H := H1; clear H1; by_cases c7 : a0 ≤ 9223372036854775807
     ·
      rw [if_pos c7] at H; have c7b0 : decide (a0 ≤ 9223372036854775807) = true := decide_eq_true c7; clear c7; simp only [Option.some.injEq, Prod.mk.injEq] at H; obtain ⟨rfl, rfl⟩ := H; go_wp2; go_ret2; (exact ⟨by first | rfl | (simp; done) | (simp [*]; done), by repeat (first | exact Drawn0.refl _ | apply Drawn0.step)⟩)
     ·
      rw [if_neg c7] at H; have c7b0 : decide (a0 ≤ 9223372036854775807) = false := decide_eq_false c7; clear c7; simp only [Option.some.injEq, Prod.mk.injEq] at H; obtain ⟨rfl, rfl⟩ := H; go_wp2; go_ret2; (exact ⟨by first | rfl | (simp; done) | (simp [*]; done), by repeat (first | exact Drawn0.refl _ | apply Drawn0.step)⟩)

end Go.Proofs.Ytckefohfahphpaa.Z
end
section
namespace Go.Proofs.Ytckefohfahphpaa.Z
open Go.RowKit Go.Proofs.YtckefohfahphpaaW.PrintWords Go.Proofs.YtckefohfahphpaaW.PrintLast Go.Proofs.YtckefohfahphpaaW.PrintMore
attribute [local go_sem] max2_int min2_int max_two min_two max_three min_three max_four min_four   -- for this text's walks alone
set_option linter.unusedVariables false
set_option linter.unusedSimpArgs false

/-! ### safeint_common: function 50, by hand -/
set_option maxHeartbeats 8000000 in
set_option maxRecDepth 100000 in
theorem safeint_common.raw (x y : Int) (w : World)  (hx : 0 ≤ x) (hy : 0 ≤ y) :
  Calls Try.prog 50 #[.int .u64 x, .int .u64 y] w fun e w' => e = .returned (.int .u64 (Int.gcd x y : Int)) ∧ Drawn0 w w' := by
 go_enter Try.func50, Try.ntmps50
 go_wp2
 go_step3
 go_wp2
 go_step3
 go_wp2
 go_loopw [0, 1] (fun s0 s1 w1 => ∃ a b : Int, 0 ≤ a ∧ 0 ≤ b ∧ s0 = .int .u64 a ∧ s1 = .int .u64 b ∧ Aside0 (Int.gcd a b = Int.gcd x y) ∧ Drawn0 w w1) (fun s0 s1 _ => (intOf s1).toNat)
 case atStart => exact ⟨x, y, hx, hy, rfl, rfl, ⟨rfl⟩, Drawn0.refl _⟩
 case round =>
  obtain ⟨a, b, ha, hb, rfl, rfl, hg, hd⟩ := hrel
  by_cases hz : b = 0
  ·
   subst hz
   go_wp2
   try rw [Exit.noGoto_ret]
   go_ret
   refine ⟨?_, hd⟩
   have hg' := hg.out
   rw [← hg']
   simp [Int.gcd]
   omega
  ·
   have hz' : (b == 0) = false := by simpa using hz
   have hg' := gcd_step ha hb
   have hs : a % b < b ∧ 0 ≤ a % b := ⟨Int.emod_lt_of_pos _ (by omega), Int.emod_nonneg _ hz⟩
   have hgA := Aside0.mk hg'
   have hsA := Aside0.mk hs
   clear hg' hs
   go_wp2
   go_quiet (fail)
   go_wp2
   go_roundw
   case rel => exact ⟨b, a % b, hb, hsA.out.2, rfl, rfl, ⟨hgA.out.trans hg.out⟩, hd.step _⟩
   case measure => simp [intOf]; have := hsA.out; omega
def safeint_common.f (a0 a1 : Int) : Option Int := if 0 ≤ a0 ∧ 0 ≤ a1 then some (Int.gcd a0 a1 : Int) else none
theorem safeint_common.calls (a0 : Int) (a1 : Int) (r : Int) (w : World) (h : safeint_common.f a0 a1 = some r) :
  Calls Try.prog 50 #[.int .u64 a0, .int .u64 a1] w fun e w' => e = .returned (.int .u64 r) ∧ Drawn0 w w' := by
 unfold safeint_common.f at h
 split at h
 ·
  rename_i hg
  cases h
  exact safeint_common.raw a0 a1 w hg.1 hg.2
 ·
  cases h

end Go.Proofs.Ytckefohfahphpaa.Z
end
section
namespace Go.Proofs.Ytckefohfahphpaa.Z
open Go.RowKit Go.Proofs.YtckefohfahphpaaW.PrintWords Go.Proofs.YtckefohfahphpaaW.PrintLast Go.Proofs.YtckefohfahphpaaW.PrintMore
attribute [local go_sem] max2_int min2_int max_two min_two max_three min_three max_four min_four   -- for this text's walks alone
set_option linter.unusedVariables false
set_option linter.unusedSimpArgs false

/-! ### safeint_size: function 51 -/
def safeint_size.f (a0 : Int) : Option (Int) := if a0 < 0 then (some (IntKind.u64.wrap (-(IntKind.u64.wrap (a0))))) else (some (IntKind.u64.wrap (a0)))
set_option maxHeartbeats 8000000 in
set_option maxRecDepth 100000 in
theorem safeint_size.calls (a0 : Int) (r : Int) (w : World) (h : safeint_size.f a0 = some r) :
  Calls Try.prog 51 #[.int .i64 a0] w fun e w' => e = .returned (.int .u64 r) ∧ Drawn0 w w' := by
 have H : (if a0 < 0 then (some (IntKind.u64.wrap (-(IntKind.u64.wrap (a0))))) else (some (IntKind.u64.wrap (a0)))) = some r := h
 clear h
 by_cases c2 : a0 < 0
 ·
  rw [if_pos c2] at H; have c2b0 : decide (a0 < 0) = true := decide_eq_true c2; clear c2; obtain rfl := Option.some.inj H
  go_enter Try.func51, Try.ntmps51
  go_wp2; go_ret; (exact ⟨by first | rfl | (simp; done) | (simp [*]; done), by repeat (first | exact Drawn0.refl _ | apply Drawn0.step)⟩)
 ·
  rw [if_neg c2] at H; have c2b0 : decide (a0 < 0) = false := decide_eq_false c2; clear c2; obtain rfl := Option.some.inj H
  go_enter Try.func51, Try.ntmps51
  go_wp2; go_ret; (exact ⟨by first | rfl | (simp; done) | (simp [*]; done), by repeat (first | exact Drawn0.refl _ | apply Drawn0.step)⟩)

end Go.Proofs.Ytckefohfahphpaa.Z
end
section
namespace Go.Proofs.Ytckefohfahphpaa.Z
open Go.RowKit Go.Proofs.YtckefohfahphpaaW.PrintWords Go.Proofs.YtckefohfahphpaaW.PrintLast Go.Proofs.YtckefohfahphpaaW.PrintMore
attribute [local go_sem] max2_int min2_int max_two min_two max_three min_three max_four min_four   -- for this text's walks alone
set_option linter.unusedVariables false
set_option linter.unusedSimpArgs false

/-! ### safeint_times: function 52, by hand -/
set_option maxHeartbeats 8000000 in
set_option maxRecDepth 100000 in
theorem safeint_times.raw (x y : Int) (w : World) (hx : 0 ≤ x) (hx' : x < 18446744073709551616) (hy : 0 ≤ y) (hy' : y < 18446744073709551616) :
  Calls Try.prog 52 #[.int .u64 x, .int .u64 y] w fun e w' => e = .returned (.agg #[.int .u64 (x * y / 18446744073709551616), .int .u64 (x * y % 18446744073709551616)]) ∧ Below w.heap.size w w' := by
 have H := Aside0.mk (times_hi hx hx' hy hy')
 have A1 := Aside0.mk (and_low hx hx')
 have A2 := Aside0.mk (and_low hy hy')
 go_enter Try.func52, Try.ntmps52
 go_wp2
 have H' := H.out
 have A1' := A1.out
 have A2' := A2.out
 refine bodyPost_ret (v := .agg #[.int .u64 (x * y / 18446744073709551616), .int .u64 (x * y % 18446744073709551616)]) ?_ rfl ⟨rfl, ?_⟩
 ·
  simp [results, Try.results52, go_sem, A1', A2', wrap_u64 (x * y)]
  simpa using H'
 ·
  exact (Below.refl _ _).alloc (Nat.le_refl _) _
def safeint_times.f (a0 a1 : Int) : Option (Int × Int) := if 0 ≤ a0 ∧ a0 < 18446744073709551616 ∧ 0 ≤ a1 ∧ a1 < 18446744073709551616 then some (a0 * a1 / 18446744073709551616, a0 * a1 % 18446744073709551616) else none
theorem safeint_times.calls (a0 : Int) (a1 : Int) (r1 : Int) (r2 : Int) (w : World) (h : safeint_times.f a0 a1 = some (r1, r2)) :
  Calls Try.prog 52 #[.int .u64 a0, .int .u64 a1] w fun e w' => e = .returned (.agg #[.int .u64 r1, .int .u64 r2]) ∧ Below w.heap.size w w' := by
 unfold safeint_times.f at h
 split at h
 ·
  rename_i hg
  cases h
  exact safeint_times.raw a0 a1 w hg.1 hg.2.1 hg.2.2.1 hg.2.2.2
 ·
  cases h

end Go.Proofs.Ytckefohfahphpaa.Z
end
section
namespace Go.Proofs.Ytckefohfahphpaa.Z
open Go.RowKit Go.Proofs.YtckefohfahphpaaW.PrintWords Go.Proofs.YtckefohfahphpaaW.PrintLast Go.Proofs.YtckefohfahphpaaW.PrintMore
attribute [local go_sem] max2_int min2_int max_two min_two max_three min_three max_four min_four   -- for this text's walks alone
set_option linter.unusedVariables false
set_option linter.unusedSimpArgs false

/-! ### safeint_Mul: function 42, by hand -/
def safeint_Mul.f (a0 a1 : Int) : Option (Int × Bool) := if in64 a0 ∧ in64 a1 then some (if in64 (a0 * a1) then (a0 * a1, true) else (0, false)) else none
theorem safeint_Mul.size (a : Int) (h : in64 a) : safeint_size.f a = some (a.natAbs : Int) := by
 obtain ⟨h1, h2⟩ := h
 unfold safeint_size.f
 by_cases hn : a < 0
 ·
  rw [if_pos hn]
  congr 1
  rw [wrap_u64, wrap_u64]
  omega
 ·
  rw [if_neg hn]
  congr 1
  rw [wrap_u64]
  omega
theorem safeint_Mul.signed (n : Int) (b : Bool) (h0 : 0 ≤ n) (h1 : n < 18446744073709551616) : safeint_signed.f 1 n b = some (if b = true then (if n ≤ 9223372036854775808 then (-n, true) else (0, false)) else (if n ≤ 9223372036854775807 then (n, true) else (0, false))) := by
 unfold safeint_signed.f
 cases b
 ·
  simp only [safeint_signed.j0]
  by_cases hn : n ≤ 9223372036854775807
  ·
   have hw : wrap64 n = n := wrap64_id ⟨by omega, by omega⟩
   simp [hn, hw]
  ·
   simp [hn]
 ·
  simp only [safeint_signed.j0]
  by_cases hn : n ≤ 9223372036854775808
  ·
   have hw : wrap64 (IntKind.u64.wrap (-n)) = -n := by
    rw [wrap_u64]
    unfold wrap64
    omega
   simp [hn, hw]
  ·
   simp [hn]
theorem safeint_Mul.natAbs (a b : Int) : ((a.natAbs : Int) * (b.natAbs : Int)) = if ((decide (a < 0)) != (decide (b < 0))) = true then -(a * b) else a * b := by
 rcases Int.lt_or_le a 0 with ha | ha <;> rcases Int.lt_or_le b 0 with hb | hb
 ·
  simp [ha, hb, Int.ofNat_natAbs_of_nonpos (Int.le_of_lt ha), Int.ofNat_natAbs_of_nonpos (Int.le_of_lt hb), Int.neg_mul_neg]
 ·
  simp [ha, Int.not_lt.mpr hb, Int.ofNat_natAbs_of_nonpos (Int.le_of_lt ha), Int.natAbs_of_nonneg hb, Int.neg_mul]
 ·
  simp [hb, Int.not_lt.mpr ha, Int.ofNat_natAbs_of_nonpos (Int.le_of_lt hb), Int.natAbs_of_nonneg ha, Int.mul_neg]
 ·
  simp [Int.not_lt.mpr ha, Int.not_lt.mpr hb, Int.natAbs_of_nonneg hb, Int.natAbs_of_nonneg ha]
theorem safeint_Mul.halves (n : Int) (h0 : 0 ≤ n) : (n / 18446744073709551616 = 0 → n % 18446744073709551616 = n) ∧ (n / 18446744073709551616 ≠ 0 → 18446744073709551616 ≤ n) := by omega
set_option maxHeartbeats 8000000 in
set_option maxRecDepth 100000 in
theorem safeint_Mul.calls (a0 : Int) (a1 : Int) (r1 : Int) (r2 : Bool) (w : World) (h : safeint_Mul.f a0 a1 = some (r1, r2)) :
  Calls Try.prog 42 #[.int .i64 a0, .int .i64 a1] w fun e w' => e = .returned (.tuple #[.int .i64 r1, .bool r2]) ∧ Below w.heap.size w w' := by
 have hg : in64 a0 ∧ in64 a1 := by
  unfold safeint_Mul.f at h
  split at h
  ·
   assumption
  ·
   cases h
 unfold safeint_Mul.f at h
 rw [if_pos hg] at h
 have s0 := Aside0.mk (safeint_Mul.size a0 hg.1)
 have s1 := Aside0.mk (safeint_Mul.size a1 hg.2)
 have b0 : (a0.natAbs : Int) < 18446744073709551616 := by have := hg.1; unfold in64 at this; omega
 have b1 : (a1.natAbs : Int) < 18446744073709551616 := by have := hg.2; unfold in64 at this; omega
 have hn : (0 : Int) ≤ (a0.natAbs : Int) * (a1.natAbs : Int) := Int.mul_nonneg (by omega) (by omega)
 have hv := safeint_Mul.natAbs a0 a1
 have B0 := Aside0.mk b0
 have B1 := Aside0.mk b1
 have HH := Aside0.mk h
 clear hg h b0 b1
 obtain ⟨p, hp⟩ : ∃ p : Int, p = (a0.natAbs : Int) * (a1.natAbs : Int) := ⟨_, rfl⟩
 rw [← hp] at hn hv
 have HP := Aside0.mk hp
 have HN := Aside0.mk hn
 have hh := safeint_Mul.halves p hn
 clear hp
 by_cases hz : p / 18446744073709551616 = 0
 ·
  have hl := hh.1 hz
  have hz' : (p / 18446744073709551616 == 0) = true := beq_iff_eq.mpr hz
  have hz2 : (p / 18446744073709551616 != 0) = false := bne_eq_false_iff_eq.mpr hz
  have HL := Aside0.mk hl
  have HS := Aside0.mk (safeint_Mul.signed p ((decide (a0 < 0)) != (decide (a1 < 0))) hn (by omega))
  have HV := Aside0.mk hv
  clear hz hl hh hv hn
  go_enter Try.func42, Try.ntmps42
  go_wp2_with (fail)
  refine (safeint_size.calls a0 _ _ s0.out).mono ?_
  rintro e w1 ⟨rfl, hd1⟩
  go_wp2_with (fail)
  refine (safeint_size.calls a1 _ _ s1.out).mono ?_
  rintro e w2 ⟨rfl, hd2⟩
  go_wp2_with (fail)
  refine (safeint_times.raw _ _ _ (by omega) B0.out (by omega) B1.out).mono ?_
  rintro e w3 ⟨rfl, hb3⟩
  rw [← HP.out]
  go_wp2_with (fail)
  rw [HL.out, ← bne]
  have hs : safeint_signed.f 1 p ((decide (a0 < 0)) != (decide (a1 < 0))) = some (r1, r2) := by
   have hv := HV.out
   have hh := Option.some.inj HH.out
   rw [HS.out, ← hh]
   congr 1
   cases hb : ((decide (a0 < 0)) != (decide (a1 < 0)))
   ·
    rw [hb] at hv
    simp only [Bool.false_eq_true, if_false] at hv ⊢
    rw [← hv]
    by_cases hc : p ≤ 9223372036854775807
    ·
     rw [if_pos hc, if_pos (show in64 p from ⟨by have := HN.out; omega, hc⟩)]
    ·
     rw [if_neg hc, if_neg (fun h : in64 p => hc h.2)]
   ·
    rw [hb] at hv
    simp only [if_true] at hv ⊢
    have hv' : a0 * a1 = -p := by omega
    rw [hv']
    by_cases hc : p ≤ 9223372036854775808
    ·
     rw [if_pos hc, if_pos (show in64 (-p) from ⟨by omega, by have := HN.out; omega⟩)]
    ·
     rw [if_neg hc, if_neg (fun h : in64 (-p) => hc (by have := h.1; omega))]
  refine (safeint_signed.calls 1 _ _ r1 r2 _ hs).mono ?_
  rintro e w4 ⟨rfl, hd4⟩
  clear hs
  go_wp2
  go_ret2
  exact ⟨rfl, below_step (below_step (hd1.below) (below_step hd2.below (below_step hb3 (below_alloc (Below.refl _ _) _)))) hd4.below⟩
 ·
  have hl := hh.2 hz
  have hz' : (p / 18446744073709551616 == 0) = false := beq_eq_false_iff_ne.mpr hz
  have hz2 : (p / 18446744073709551616 != 0) = true := bne_iff_ne.mpr hz
  have HL := Aside0.mk hl
  have HV := Aside0.mk hv
  clear hz hl hh hv hn
  go_enter Try.func42, Try.ntmps42
  go_wp2_with (fail)
  refine (safeint_size.calls a0 _ _ s0.out).mono ?_
  rintro e w1 ⟨rfl, hd1⟩
  go_wp2_with (fail)
  refine (safeint_size.calls a1 _ _ s1.out).mono ?_
  rintro e w2 ⟨rfl, hd2⟩
  go_wp2_with (fail)
  refine (safeint_times.raw _ _ _ (by omega) B0.out (by omega) B1.out).mono ?_
  rintro e w3 ⟨rfl, hb3⟩
  rw [← HP.out]
  go_wp2
  go_ret2
  have hv := HV.out
  have hh := Option.some.inj HH.out
  have hn : ¬ in64 (a0 * a1) := by
   unfold in64
   split at hv <;> have := HL.out <;> omega
  rw [if_neg hn] at hh
  cases hh
  exact ⟨rfl, below_step (hd1.below) (below_step hd2.below (below_step hb3 (below_alloc (Below.refl _ _) _)))⟩

end Go.Proofs.Ytckefohfahphpaa.Z
end
section
namespace Go.Proofs.Ytckefohfahphpaa.Z
open Go.RowKit Go.Proofs.YtckefohfahphpaaW.PrintWords Go.Proofs.YtckefohfahphpaaW.PrintLast Go.Proofs.YtckefohfahphpaaW.PrintMore
attribute [local go_sem] max2_int min2_int max_two min_two max_three min_three max_four min_four   -- for this text's walks alone
set_option linter.unusedVariables false
set_option linter.unusedSimpArgs false

/-! ### safeint_Gcd: function 40, by hand -/
def safeint_Gcd.f (a0 a1 : Int) : Option (Int × Bool) := if in64 a0 ∧ in64 a1 then some (if (Int.gcd a0 a1 : Int) ≤ 9223372036854775807 then ((Int.gcd a0 a1 : Int), true) else (0, false)) else none
theorem safeint_Gcd.gcd_abs (a b : Int) : Int.gcd (a.natAbs : Int) (b.natAbs : Int) = Int.gcd a b := by simp [Int.gcd]
theorem safeint_Gcd.gcd_lt (a b : Int) (ha : in64 a) (hb : in64 b) : (Int.gcd a b : Int) < 18446744073709551616 := by
 unfold in64 at ha hb
 unfold Int.gcd
 by_cases h : a.natAbs = 0
 ·
  rw [h]; simp; omega
 ·
  have := Nat.gcd_le_left b.natAbs (Nat.pos_of_ne_zero h)
  omega
set_option maxHeartbeats 8000000 in
set_option maxRecDepth 100000 in
theorem safeint_Gcd.calls (a0 : Int) (a1 : Int) (r1 : Int) (r2 : Bool) (w : World) (h : safeint_Gcd.f a0 a1 = some (r1, r2)) :
  Calls Try.prog 40 #[.int .i64 a0, .int .i64 a1] w fun e w' => e = .returned (.tuple #[.int .i64 r1, .bool r2]) ∧ Drawn0 w w' := by
 have hg : in64 a0 ∧ in64 a1 := by
  unfold safeint_Gcd.f at h
  split at h
  ·
   assumption
  ·
   cases h
 unfold safeint_Gcd.f at h
 rw [if_pos hg] at h
 have s0 := Aside0.mk (safeint_Mul.size a0 hg.1)
 have s1 := Aside0.mk (safeint_Mul.size a1 hg.2)
 have HS := Aside0.mk (safeint_Mul.signed (Int.gcd a0 a1 : Int) false (by omega) (safeint_Gcd.gcd_lt a0 a1 hg.1 hg.2))
 have HH := Aside0.mk h
 clear hg h
 go_enter Try.func40, Try.ntmps40
 go_wp2_with (fail)
 refine (safeint_size.calls a0 _ _ s0.out).mono ?_
 rintro e w1 ⟨rfl, hd1⟩
 go_wp2_with (fail)
 refine (safeint_size.calls a1 _ _ s1.out).mono ?_
 rintro e w2 ⟨rfl, hd2⟩
 go_wp2_with (fail)
 refine (safeint_common.raw _ _ _ (by omega) (by omega)).mono ?_
 rintro e w3 ⟨rfl, hd3⟩
 go_wp2_with (fail)
 rw [show ((a0.natAbs.gcd a1.natAbs : Nat) : Int) = (Int.gcd a0 a1 : Int) from rfl]
 have hs := HS.out
 have hh := Option.some.inj HH.out
 simp only [Bool.false_eq_true, if_false] at hs
 rw [hh] at hs
 refine (safeint_signed.calls 1 _ _ r1 r2 _ hs).mono ?_
 rintro e w4 ⟨rfl, hd4⟩
 go_wp2
 go_ret2
 exact ⟨rfl, (drawn_trans hd1 (drawn_trans hd2 (drawn_trans hd3 hd4)))⟩

end Go.Proofs.Ytckefohfahphpaa.Z
end
section
namespace Go.Proofs.Ytckefohfahphpaa.Z
open Go.RowKit Go.Proofs.YtckefohfahphpaaW.PrintWords Go.Proofs.YtckefohfahphpaaW.PrintLast Go.Proofs.YtckefohfahphpaaW.PrintMore
attribute [local go_sem] max2_int min2_int max_two min_two max_three min_three max_four min_four   -- for this text's walks alone
set_option linter.unusedVariables false
set_option linter.unusedSimpArgs false

/-! ### vector_Prim: function 43 -/
mutual
def vector_Prim.l0 : Nat → List Int → Int → List Int → Int → Int → Option (List Int × Int)
 | 0, _, _, _, _, _ => none
 | k + 1, x0, x4, x10, x11, x12 => if x12 < x11 then (if 0 ≤ x12 then (if x12 < (x10.length : Int) then (if (rd x10 x12) = (-9223372036854775808) then (some (([] : List Int), 3)) else ((safeint_Gcd.f x4 (rd x10 x12)).bind fun bt108 => (vector_Prim.l0 k x0 bt108.1 x10 x11 (wrap64 (x12 + 1))))) else (none)) else (none)) else (if 0 ≤ (x0.length : Int) then (if ((x0.length : Int) : Int).toNat ≤ 35184372088832 then (vector_Prim.l1 k x4 (List.replicate ((x0.length : Int) : Int).toNat 0) x0 (x0.length : Int) 0) else (none)) else (none))
def vector_Prim.l1 : Nat → Int → List Int → List Int → Int → Int → Option (List Int × Int)
 | 0, _, _, _, _, _ => none
 | k + 1, x4, x7, x28, x29, x30 => if x30 < x29 then (if 0 ≤ x30 then (if x30 < (x28.length : Int) then (if x4 > 0 then (if x4 = 0 then (none) else (if x30 < (x7.length : Int) then (vector_Prim.l1 k x4 (x7.set (x30 : Int).toNat (wrap64 (Int.tdiv (rd x28 x30) x4))) x28 x29 (wrap64 (x30 + 1))) else (none))) else (vector_Prim.l1 k x4 x7 x28 x29 (wrap64 (x30 + 1)))) else (none)) else (none)) else (some (x7, 0))
end
def vector_Prim.f (k : Nat) (l0 : List Int) : Option (List Int × Int) := vector_Prim.l0 k l0 0 l0 (l0.length : Int) 0
theorem vector_Prim.mono_l : ∀ k, (∀ y0 y1 y2 y3 y4, LeO (vector_Prim.l0 k y0 y1 y2 y3 y4) (vector_Prim.l0 (k + 1) y0 y1 y2 y3 y4)) ∧ (∀ y0 y1 y2 y3 y4, LeO (vector_Prim.l1 k y0 y1 y2 y3 y4) (vector_Prim.l1 (k + 1) y0 y1 y2 y3 y4))
 | 0 => ⟨fun _ _ _ _ _ r h => by simp [vector_Prim.l0] at h, fun _ _ _ _ _ r h => by simp [vector_Prim.l1] at h⟩
 | k + 1 => by
  obtain ⟨ih0, ih1⟩ := vector_Prim.mono_l k
  refine ⟨?_, ?_⟩
  ·
   intro y0 y1 y2 y3 y4
   unfold vector_Prim.l0
   repeat' first
   | (with_reducible exact ih0 _ _ _ _ _)
   | (with_reducible exact ih1 _ _ _ _ _)
   | (with_reducible exact LeO.refl _)
   | (with_reducible exact LeO.none _)
   | (with_reducible refine LeO.ite ?_ ?_)
   | (with_reducible refine LeO.bind ?_ (fun _ => ?_))
   | exact ih0 _ _ _ _ _
   | exact ih1 _ _ _ _ _
   | exact LeO.none _
   | refine LeO.ite ?_ ?_
   | refine LeO.bind ?_ (fun _ => ?_)
  ·
   intro y0 y1 y2 y3 y4
   unfold vector_Prim.l1
   repeat' first
   | (with_reducible exact ih0 _ _ _ _ _)
   | (with_reducible exact ih1 _ _ _ _ _)
   | (with_reducible exact LeO.refl _)
   | (with_reducible exact LeO.none _)
   | (with_reducible refine LeO.ite ?_ ?_)
   | (with_reducible refine LeO.bind ?_ (fun _ => ?_))
   | exact ih0 _ _ _ _ _
   | exact ih1 _ _ _ _ _
   | exact LeO.none _
   | refine LeO.ite ?_ ?_
   | refine LeO.bind ?_ (fun _ => ?_)
theorem vector_Prim.mono : ∀ a0 k, LeO (vector_Prim.f k a0) (vector_Prim.f (k + 1) a0) := by
 intro a0 k
 obtain ⟨ih0, ih1⟩ := vector_Prim.mono_l k
 unfold vector_Prim.f
 repeat' first
   | (with_reducible exact ih0 _ _ _ _ _)
   | (with_reducible exact ih1 _ _ _ _ _)
   | (with_reducible exact LeO.refl _)
   | (with_reducible exact LeO.none _)
   | (with_reducible refine LeO.ite ?_ ?_)
   | (with_reducible refine LeO.bind ?_ (fun _ => ?_))
   | exact ih0 _ _ _ _ _
   | exact ih1 _ _ _ _ _
   | exact LeO.none _
   | refine LeO.ite ?_ ?_
   | refine LeO.bind ?_ (fun _ => ?_)
set_option maxHeartbeats 8000000 in
set_option maxRecDepth 100000 in
theorem vector_Prim.calls (k : Nat) (A0 : Option Addr) (c0 : Nat) (l0 : List Int) (r1 : List Int) (r2 : Int) (w : World) (hr0 : Kd.C (Kd.int .i64) w A0 l0.length l0) (hc0 : l0.length ≤ c0) (h : vector_Prim.f k l0 = some (r1, r2)) :
  Calls Try.prog 43 #[.slice A0 l0.length c0] w fun e w' => ∃ v0_ : Value, e = .returned (.tuple #[v0_, .int .i64 r2]) ∧ Kd.R (Kd.int .i64) 2 w' w.heap.size (fun _ => True) v0_ r1 ∧ Below w.heap.size w w' := by
 have HR0 := Aside0.mk hr0
 have HC0 := Aside0.mk hc0
 clear hr0 hc0
 have HB := Aside0.mk (Below.refl w.heap.size w)
 have H : (vector_Prim.l0 k l0 0 l0 (l0.length : Int) 0) = some (r1, r2) := h
 clear h
 have H' := Aside0.mk H
 clear H
 go_enter Try.func43, Try.ntmps43
 go_wp2
 go_loopg [4, 12] k (fun kq v4 v12 w' => ∃ (x4_1 : Int) (x12_1 : Int), v4 = .int .i64 x4_1 ∧ v12 = .int .i64 x12_1 ∧ Aside0 (vector_Prim.l0 kq l0 x4_1 l0 (l0.length : Int) x12_1 = some (r1, r2)) ∧ Aside0 (kq ≤ k) ∧ Aside0 (Below w.heap.size w w'))
 case atStart => exact ⟨(0), (0), (by first | rfl | (simp; done) | (simp [*]; done)), (by first | rfl | (simp; done) | (simp [*]; done)), H', ⟨Nat.le_refl _⟩, ⟨by repeat (first | (with_reducible first | exact HB.out | apply below_alloc | apply pw_below_drewN | apply below_drew1) | exact HB.out)⟩⟩
 case round =>
  clear H'; obtain ⟨x4_1, x12_1, rfl, rfl, HA, HK1, HB⟩ := hrel
  cases gk with
  | zero => exact absurd HA.out (by simp [vector_Prim.l0])
  | succ k1 =>
   have H := HA.out; clear HA; simp only [vector_Prim.l0] at H; by_cases c2 : x12_1 < (l0.length : Int)
   ·
    rw [if_pos c2] at H; have c2b0 : decide (x12_1 < (l0.length : Int)) = true := decide_eq_true c2; clear c2; by_cases c3 : 0 ≤ x12_1
    ·
     rw [if_pos c3] at H; have c3b0 : decide (0 ≤ x12_1) = true := decide_eq_true c3; clear c3; by_cases c4 : x12_1 < (l0.length : Int)
     ·
      rw [if_pos c4] at H; have c4b0 : decide (x12_1 < (l0.length : Int)) = true := decide_eq_true c4; clear c4; by_cases c5 : (rd l0 x12_1) = (-9223372036854775808)
      ·
       rw [if_pos c5] at H; have c5b0 : ((rd l0 x12_1) == (-9223372036854775808)) = true := beq_iff_eq.mpr c5; have c5b1 : ((rd l0 x12_1) != (-9223372036854775808)) = false := bne_eq_false_iff_eq.mpr c5; clear c5; simp only [Option.some.injEq, Prod.mk.injEq] at H; obtain ⟨rfl, rfl⟩ := H; (have p107 : 0 ≤ (x12_1 : Int) := of_decide_eq_true (by first | (with_reducible assumption) | assumption)); (have q107 : x12_1 < (l0.length : Int) := of_decide_eq_true (by first | (with_reducible assumption) | assumption)); obtain ⟨ad107, e107, hx107_0⟩ := Kd.at_int HR0.out x12_1 p107 q107
       cases e107
       replace hx107_0 := (HB.out.cell (World.block_lt_of_cell? w _ hx107_0)).trans hx107_0; replace p107 := eq_true p107; replace q107 := eq_true q107; go_wp2; go_ret2; (exact ⟨_, by first | rfl | (simp [errW_none, errW_some] <;> rfl) | (simp [*, errW_none, errW_some] <;> rfl), by first | exact Kd.R_nil _ _ _ _ _ | exact Kd.N_nil _ _ _ _ _ | exact Kd.V_nil _ _ _ _ _ | exact Kd.Q_nil _ _ _ _ _ | exact Kd.S_nil _ _ _ _ _, by repeat (first | (with_reducible first | exact HB.out | apply below_alloc | apply pw_below_drewN | apply below_drew1) | exact HB.out)⟩)
      ·
       rw [if_neg c5] at H; have c5b0 : ((rd l0 x12_1) == (-9223372036854775808)) = false := beq_eq_false_iff_ne.mpr c5; have c5b1 : ((rd l0 x12_1) != (-9223372036854775808)) = true := bne_iff_ne.mpr c5; replace H := Option.bind_eq_some_iff.mp H; obtain ⟨⟨t108, t109⟩, A60, H⟩ := H; replace H : (vector_Prim.l0 k1 l0 t108 l0 (l0.length : Int) (wrap64 (x12_1 + 1))) = some (r1, r2) := H; have A6 := Aside0.mk A60; clear A60; have H' := Aside0.mk H; clear H; (have p107 : 0 ≤ (x12_1 : Int) := of_decide_eq_true (by first | (with_reducible assumption) | assumption)); (have q107 : x12_1 < (l0.length : Int) := of_decide_eq_true (by first | (with_reducible assumption) | assumption)); obtain ⟨ad107, e107, hx107_0⟩ := Kd.at_int HR0.out x12_1 p107 q107
       cases e107
       replace hx107_0 := (HB.out.cell (World.block_lt_of_cell? w _ hx107_0)).trans hx107_0; replace p107 := eq_true p107; replace q107 := eq_true q107; (go_wp2_with (first | ((with_reducible refine gate_callee (f := 40) rfl ?_); refine goesL_ (some 21) rfl rfl Try.func40 (by kernel_rfl) rfl #[.int .i64 x4_1, .int .i64 (rd l0 x12_1)] rfl (by (try simp only [List.map_toArray, List.map_cons, List.map_nil]); first | done | rfl | (simp only [List.length_drop, List.length_take]; rfl)) ?_; (with_reducible refine (safeint_Gcd.calls x4_1 (rd l0 x12_1) t108 t109 _ A6.out).mono ?_); rintro e w' ⟨rfl, ⟨nd, rfl⟩⟩; refine ⟨_, rfl, ?_⟩))); go_roundg k1
       case measure => have := HK1.out; omega
       case rel => exact ⟨(t108), (wrap64 (x12_1 + 1)), (by first | rfl | (simp; done) | (simp [*]; done)), (by first | rfl | (simp; done) | (simp [*]; done)), H', ⟨by have := HK1.out; omega⟩, ⟨by repeat (first | (with_reducible first | exact HB.out | apply below_alloc | apply pw_below_drewN | apply below_drew1) | exact HB.out)⟩⟩
     ·
      rw [if_neg c4] at H; (exact absurd H (by simp))
    ·
     rw [if_neg c3] at H; (exact absurd H (by simp))
   ·
    rw [if_neg c2] at H; have c2b0 : decide (x12_1 < (l0.length : Int)) = false := decide_eq_false c2; clear c2; by_cases c7 : 0 ≤ (l0.length : Int)
    ·
     rw [if_pos c7] at H; have c7b0 := eq_true c7; have c7b1 : decide (0 ≤ (l0.length : Int)) = true := decide_eq_true c7; clear c7; by_cases c8 : ((l0.length : Int) : Int).toNat ≤ 35184372088832
     ·
      rw [if_pos c8] at H; have c8b0 := eq_true c8; have c8b1 : decide (((l0.length : Int) : Int).toNat ≤ 35184372088832) = true := decide_eq_true c8; clear c8; obtain ⟨y110, hy110⟩ : ∃ y_ : List Int, y_ = (List.replicate ((l0.length : Int) : Int).toNat 0) := ⟨_, rfl⟩; (replace H : (vector_Prim.l1 k1 x4_1 y110 l0 (l0.length : Int) 0) = some (r1, r2) := by first | (rw [hy110]; with_reducible exact H) | (have H2_ := (Option.bind_some _ _).symm.trans H; rw [hy110]; with_reducible exact H2_) | (have H2_ := (Option.bind_some _ _).symm.trans H; with_reducible exact H2_) | with_reducible exact H | (rw [hy110]; exact H) | exact H); have Ny110 := Aside0.mk hy110; clear hy110; have H' := Aside0.mk H; clear H; (go_wp2_with (first | ((with_reducible refine gate_dst (N := 27) rfl ?_); refine Kd.R_make (Kd.int .i64) _ 2 rfl (N := 27) rfl 33 _ _ rfl (l0.length : Int) rfl rfl Try.underlying33 (.int .i64 0) 8 info2 rfl (by decide) (by omega) 0 (ok := fun _ => True) (okp := fun _ => True) rfl (fun _ hk => hk) trivial (of_decide_eq_true (by first | (with_reducible assumption) | assumption)) (Nat.le_trans (Nat.mul_le_mul_right _ (of_decide_eq_true (by first | (with_reducible assumption) | assumption) : (l0.length : Int).toNat ≤ 35184372088832)) (by omega)) (Below.refl _ _) (Nat.le_refl _) ?_; intro v111 w9 ho10 hb hg_ hnew_; clear hg_ hnew_; (first | rw [← Ny110.out] at ho10 | (simp only [Int.reduceToNat] at ho10; rw [← Ny110.out] at ho10)); have n0_ := Aside0.mk (Kd.R_lower ho10 (below_size (by repeat (first | (with_reducible first | exact HB.out | apply below_alloc | apply pw_below_drewN | apply below_drew1) | exact HB.out)))); have n1_ := Aside0.mk (below_step (by repeat (first | (with_reducible first | exact HB.out | apply below_alloc | apply pw_below_drewN | apply below_drew1) | exact HB.out)) hb); clear HB; have HO112 := n0_; have HB := n1_; clear n0_ n1_; clear hb ho10)))
      go_loopg [30] k1 (fun kq v30 w' => ∃ (x7_2 : List Int) (x30_2 : Int), v30 = .int .i64 x30_2 ∧ Aside0 (vector_Prim.l1 kq x4_1 x7_2 l0 (l0.length : Int) x30_2 = some (r1, r2)) ∧ Aside0 (kq ≤ k1) ∧ Aside0 (Kd.R (Kd.int .i64) 2 w' w.heap.size (fun _ => True) v111 x7_2) ∧ Aside0 (Below w.heap.size w w'))
      case atStart => exact ⟨(y110), (0), (by first | rfl | (simp; done) | (simp [*]; done)), H', ⟨Nat.le_refl _⟩, ⟨by (with_reducible repeat (first | apply Kd.R_alloc | apply Kd.R_drewN | apply Kd.R_drew)); exact HO112.out⟩, ⟨by repeat (first | (with_reducible first | exact HB.out | apply below_alloc | apply pw_below_drewN | apply below_drew1) | exact HB.out)⟩⟩
      case round =>
       clear H'; (try clear p1); (try clear q1); (try clear hx1); (try clear c2); (try clear c2b0); (try clear p2); (try clear c3); (try clear c3b0); (try clear c4); (try clear c4b0); (try clear c5); (try clear c5b0); (try clear c5b1); (try clear p6); (try clear c7); (try clear c7b0); (try clear c7b1); (try clear c8); (try clear c8b0); (try clear c8b1); (try clear p10); (try clear q10); (try clear hx10); (try clear hx107_0); (try clear p107); (try clear q107); obtain ⟨x7_2, x30_2, rfl, HA, HK2, HO_7, HB⟩ := hrel
       cases gk with
       | zero => exact absurd HA.out (by simp [vector_Prim.l1])
       | succ k2 =>
        have H := HA.out; clear HA; simp only [vector_Prim.l1] at H; by_cases c11 : x30_2 < (l0.length : Int)
        ·
         rw [if_pos c11] at H; have c11b0 : decide (x30_2 < (l0.length : Int)) = true := decide_eq_true c11; clear c11; by_cases c12 : 0 ≤ x30_2
         ·
          rw [if_pos c12] at H; have c12b0 : decide (0 ≤ x30_2) = true := decide_eq_true c12; clear c12; by_cases c13 : x30_2 < (l0.length : Int)
          ·
           rw [if_pos c13] at H; have c13b0 : decide (x30_2 < (l0.length : Int)) = true := decide_eq_true c13; clear c13; by_cases c14 : x4_1 > 0
           ·
            rw [if_pos c14] at H; have c14b0 : decide (0 < x4_1) = true := decide_eq_true c14; clear c14; by_cases c15 : x4_1 = 0
            ·
             rw [if_pos c15] at H; (exact absurd H (by simp))
            ·
             rw [if_neg c15] at H; have c15b0 : (x4_1 == 0) = false := beq_eq_false_iff_ne.mpr c15; have c15b1 : (x4_1 != 0) = true := bne_iff_ne.mpr c15; by_cases c16 : x30_2 < (x7_2.length : Int)
             ·
              rw [if_pos c16] at H; have c16b0 : decide (x30_2 < (x7_2.length : Int)) = true := decide_eq_true c16; clear c16; obtain ⟨y114, hy114⟩ : ∃ y_ : List Int, y_ = (x7_2.set (x30_2 : Int).toNat (wrap64 (Int.tdiv (rd l0 x30_2) x4_1))) := ⟨_, rfl⟩; (replace H : (vector_Prim.l1 k2 x4_1 y114 l0 (l0.length : Int) (wrap64 (x30_2 + 1))) = some (r1, r2) := by first | (rw [hy114]; with_reducible exact H) | (have H2_ := (Option.bind_some _ _).symm.trans H; rw [hy114]; with_reducible exact H2_) | (have H2_ := (Option.bind_some _ _).symm.trans H; with_reducible exact H2_) | with_reducible exact H | (rw [hy114]; exact H) | exact H); have Ny114 := Aside0.mk hy114; clear hy114; have H' := Aside0.mk H; clear H; (have p113 : 0 ≤ (x30_2 : Int) := of_decide_eq_true (by first | (with_reducible assumption) | assumption)); (have q113 : x30_2 < (l0.length : Int) := of_decide_eq_true (by first | (with_reducible assumption) | assumption)); obtain ⟨ad113, e113, hx113_0⟩ := Kd.at_int HR0.out x30_2 p113 q113
              cases e113
              replace hx113_0 := (HB.out.cell (World.block_lt_of_cell? w _ hx113_0)).trans hx113_0; replace p113 := eq_true p113; replace q113 := eq_true q113; (have p17 : 0 ≤ (x30_2 : Int) := of_decide_eq_true (by first | (with_reducible assumption) | assumption)); (have q17 : (x30_2 : Int) < ((x7_2.length : Int) : Int) := of_decide_eq_true (by first | (with_reducible assumption) | assumption)); (obtain ⟨go17, co17, eo17, gb17, gl17, cl17, HG17⟩ := Kd.R_form HO_7.out (by omega)); (first | cases eo17 | (injection eo17 with ea_ en_ ec_; (first | subst ea_ | (injection ea_ with ea_; subst ea_)); subst ec_; clear en_)); have GB17 := Aside0.mk gb17; have GG17 := Aside0.mk HG17; clear gb17 gl17 HG17; obtain ⟨hx17_0, hf17_0⟩ := Kd.R_celln 0 HO_7.out (x30_2 : Int) p17 q17; replace p17 := eq_true p17; replace q17 := eq_true q17; have HP18 := Kd.R_putg HO_7.out (x30_2 : Int) (wrap64 (Int.tdiv (rd l0 x30_2) x4_1)); (go_wp2_with (first | ((with_reducible refine gate_store (t := 2) (p := 42) rfl ?_); refine store_event (t := 2) (p := 42) (v := ?vo_w19) (w1 := (wr.setCell ⟨go17, (x30_2 : Int).toNat, none⟩ (.int .i64 (wrap64 (Int.tdiv (rd l0 x30_2) x4_1))))) ?hg ?ho ?hn ?hr ?_; (case ho => rfl); (case hg => rfl); (case hn => rfl); (case hr => first | (go_simp; done) | (go_simp; rfl)); intro w19 hw; have hg : wr.grownBy w19 (some go17) := (by rw [hw]; exact HP18.2); have hp_ : Kd.R (Kd.int .i64) 2 w19 w.heap.size (fun _ => True) (.slice (some ⟨go17, 0, none⟩) x7_2.length co17) y114 := (by rw [hw, Ny114.out]; exact HP18.1); clear HP18; have n0_ := Aside0.mk (hp_); have n1_ := Aside0.mk ((by rw [hw]; exact below_set (HB.out) GB17.out : Below w.heap.size w w19)); clear HO_7; clear HB; have HO_7 := n0_; have HB := n1_; clear n0_ n1_; clear hg hw hp_))); go_roundg k2
              case measure => have := HK1.out; have := HK2.out; omega
              case rel => exact ⟨(y114), (wrap64 (x30_2 + 1)), (by first | rfl | (simp; done) | (simp [*]; done)), H', ⟨by have := HK1.out; have := HK2.out; omega⟩, ⟨by (with_reducible repeat (first | apply Kd.R_alloc | apply Kd.R_drewN | apply Kd.R_drew)); exact HO_7.out⟩, ⟨by repeat (first | (with_reducible first | exact HB.out | apply below_alloc | apply pw_below_drewN | apply below_drew1) | exact HB.out)⟩⟩
             ·
              rw [if_neg c16] at H; (exact absurd H (by simp))
           ·
            rw [if_neg c14] at H; have c14b0 : decide (0 < x4_1) = false := decide_eq_false c14; clear c14; have H' := Aside0.mk H; clear H; (have p113 : 0 ≤ (x30_2 : Int) := of_decide_eq_true (by first | (with_reducible assumption) | assumption)); (have q113 : x30_2 < (l0.length : Int) := of_decide_eq_true (by first | (with_reducible assumption) | assumption)); obtain ⟨ad113, e113, hx113_0⟩ := Kd.at_int HR0.out x30_2 p113 q113
            cases e113
            replace hx113_0 := (HB.out.cell (World.block_lt_of_cell? w _ hx113_0)).trans hx113_0; replace p113 := eq_true p113; replace q113 := eq_true q113; go_wp2; go_roundg k2
            case measure => have := HK1.out; have := HK2.out; omega
            case rel => exact ⟨(x7_2), (wrap64 (x30_2 + 1)), (by first | rfl | (simp; done) | (simp [*]; done)), H', ⟨by have := HK1.out; have := HK2.out; omega⟩, ⟨by (with_reducible repeat (first | apply Kd.R_alloc | apply Kd.R_drewN | apply Kd.R_drew)); exact HO_7.out⟩, ⟨by repeat (first | (with_reducible first | exact HB.out | apply below_alloc | apply pw_below_drewN | apply below_drew1) | exact HB.out)⟩⟩
          ·
           rw [if_neg c13] at H; (exact absurd H (by simp))
         ·
          rw [if_neg c12] at H; (exact absurd H (by simp))
        ·
         rw [if_neg c11] at H; have c11b0 : decide (x30_2 < (l0.length : Int)) = false := decide_eq_false c11; clear c11; simp only [Option.some.injEq, Prod.mk.injEq] at H; obtain ⟨rfl, rfl⟩ := H; go_wp2; go_ret2; (exact ⟨_, by first | rfl | (simp [errW_none, errW_some] <;> rfl) | (simp [*, errW_none, errW_some] <;> rfl), by (with_reducible repeat (first | apply Kd.R_alloc | apply Kd.R_drewN | apply Kd.R_drew)); exact HO_7.out, by repeat (first | (with_reducible first | exact HB.out | apply below_alloc | apply pw_below_drewN | apply below_drew1) | exact HB.out)⟩)
     ·
      rw [if_neg c8] at H; (exact absurd H (by simp))
    ·
     rw [if_neg c7] at H; (exact absurd H (by simp))

end Go.Proofs.Ytckefohfahphpaa.Z
end
section
namespace Go.Proofs.Ytckefohfahphpaa.Z
open Go.RowKit Go.Proofs.YtckefohfahphpaaW.PrintWords Go.Proofs.YtckefohfahphpaaW.PrintLast Go.Proofs.YtckefohfahphpaaW.PrintMore
attribute [local go_sem] max2_int min2_int max_two min_two max_three min_three max_four min_four   -- for this text's walks alone
set_option linter.unusedVariables false
set_option linter.unusedSimpArgs false

/-! ### vector_each: function 53, by hand -/
set_option maxHeartbeats 8000000 in
set_option maxRecDepth 100000 in
theorem vector_each.calls (f : Nat) (caps : Array Value) (g : Int → Int → Option (Int × Bool)) (A0 : Option Addr) (c0 : Nat) (l0 : List Int) (A1 : Option Addr) (c1 : Nat) (l1 : List Int) (r1 : List Int) (r2 : Int) (w : World)
  (hr0 : Kd.C (Kd.int .i64) w A0 l0.length l0) (hc0 : l0.length ≤ c0) (hr1 : Kd.C (Kd.int .i64) w A1 l1.length l1) (hc1 : l1.length ≤ c1)
  {fn : Func} (hfn : Try.prog.funcs[f]? = some fn) (hname : (fn.name == "runtime.NumGoroutine") = false) (hbody : fn.body.isSome = true)
  (hop : ∀ (x y : Int) (r1 : Int) (r2 : Bool) (W : World), Below w.heap.size w W → g x y = some (r1, r2) →
   Calls Try.prog f (#[.int .i64 x, .int .i64 y] ++ caps) W fun e w' => e = .returned (.tuple #[.int .i64 r1, .bool r2]) ∧ Below W.heap.size W w')
  (h : each_f g l0 l1 = some (r1, r2)) :
  Calls Try.prog 53 #[.slice A0 l0.length c0, .slice A1 l1.length c1, .func (.func f) #[] caps] w fun e w' => ∃ v0_ : Value, e = .returned (.tuple #[v0_, .int .i64 r2]) ∧ Kd.R (Kd.int .i64) 2 w' w.heap.size (fun _ => True) v0_ r1 ∧ Below w.heap.size w w' := by
 have hm : l0.length ≤ 35184372088832 := by
  unfold each_f at h
  split at h
  ·
   assumption
  ·
   cases h
 unfold each_f at h
 rw [if_pos hm] at h
 have HR0 := Aside0.mk hr0
 have HR1 := Aside0.mk hr1
 have HC0 := Aside0.mk hc0
 have HC1 := Aside0.mk hc1
 have HM := Aside0.mk hm
 have HOP := Aside0.mk hop
 have HB := Aside0.mk (Below.refl w.heap.size w)
 have HFN := Aside0.mk hfn
 have HNM := Aside0.mk hname
 have HBD := Aside0.mk hbody
 clear hr0 hr1 hc0 hc1 hm hop hfn hname hbody
 have hr1_ : 0 ≤ (l0.length : Int) := by omega
 by_cases hl : l0.length = l1.length
 ·
  have HA : Aside0 (each_go g l0 l1 [] = some (r1, r2)) := by
   rw [if_pos hl] at h; exact ⟨h⟩
  clear h
  have e1 : (l0.length == l1.length) = true := by simpa using hl
  have e2 : ((l0.length : Int) == (l1.length : Int)) = true := beq_iff_eq.mpr (by omega)
  have e3 : ((l0.length : Int) != (l1.length : Int)) = false := bne_eq_false_iff_eq.mpr (by omega)
  have HL := Aside0.mk hl
  clear hl
  go_enter Try.func53, Try.ntmps53
  go_wp2
  go_step3
  go_wp2_with (first | ((with_reducible refine gate_dst (N := 20) rfl ?_); refine Kd.R_make (Kd.int .i64) _ 2 rfl (N := 20) rfl 33 _ _ rfl (l0.length : Int) rfl rfl Try.underlying33 (.int .i64 0) 8 info2 rfl (by decide) (by omega) 0 (ok := fun _ => True) (okp := fun _ => True) rfl (fun _ hk => hk) trivial (by omega) (by have := HM.out; simp; omega) (Below.refl _ _) (Nat.le_refl _) ?_; intro v1 w1 ho1 hb1 _ _))
  go_step3
  go_wp2
  have HO := Aside0.mk ho1
  have HB1 := Aside0.mk hb1
  clear ho1 hb1
  go_loopw [23] (fun s23 W => ∃ (i : Nat) (acc : List Int), i ≤ l0.length ∧ s23 = .int .i64 (i : Int) ∧ Aside0 (acc.length = i) ∧ Aside0 (each_go g (l0.drop i) (l1.drop i) acc = some (r1, r2)) ∧ Aside0 (Kd.R (Kd.int .i64) 2 W w.heap.size (fun _ => True) v1 (acc ++ List.replicate (l0.length - i) 0)) ∧ Aside0 (Below w.heap.size w W)) (fun s23 _ => l0.length - (intOf s23).toNat)
  case atStart => exact ⟨0, [], Nat.zero_le _, rfl, ⟨rfl⟩, ⟨by simpa using HA.out⟩, ⟨by simpa using HO.out⟩, HB1⟩
  case round =>
   obtain ⟨i, acc, hi, rfl, hacc, hgo, hO, hB⟩ := hrel
   clear HA HO HB1
   by_cases hlt : i < l0.length
   ·
    have hlt1 : i < l1.length := by have := HL.out; omega
    have hbnd : (i : Int) + 1 ≤ 9223372036854775807 := by have := HM.out; omega
    obtain ⟨⟨q1, q2⟩, hg1, hg2, hg3⟩ := each_step hlt hlt1 hgo.out
    obtain ⟨a0, ea0, hx0⟩ := Kd.at_int HR0.out (i : Int) (by omega) (by omega)
    obtain ⟨a1, ea1, hx1⟩ := Kd.at_int HR1.out (i : Int) (by omega) (by omega)
    cases ea0
    cases ea1
    have t0 : ((i : Int)).toNat = i := by omega
    rw [t0] at hx0 hx1
    have HG1 := Aside0.mk hg1
    have HG2 := Aside0.mk hg2
    have HG3 := Aside0.mk hg3
    have HX1 := Aside0.mk hx1
    clear hg1 hg2 hg3 t0 
    replace hx0 := (hB.out.cell (World.block_lt_of_cell? w _ hx0)).trans hx0
    replace hx1 := (hB.out.cell (World.block_lt_of_cell? w _ hx1)).trans hx1
    have hlenx : (acc ++ List.replicate (l0.length - i) 0).length = l0.length := by simp; have := hacc.out; omega
    obtain ⟨gg, cap, ev, hbg, hgl, _⟩ := Kd.R_form hO.out (by rw [hlenx]; omega)
    rw [hlenx] at ev
    subst ev
    have HLX := Aside0.mk hlenx
    have HBG := Aside0.mk hbg
    clear hlenx hbg hgl
    cases q2
    ·
     have e9 := Aside0.mk (HG3.out rfl)
     go_wp2
     rw [enters_ HFN.out HNM.out HBD.out, Oper.upon_enter]
     refine (HOP.out _ _ q1 false _ hB.out HG1.out).mono ?_
     rintro e w5 ⟨rfl, hb⟩
     have HO5 := Aside0.mk (Kd.R_below hO.out hb)
     have HB5 := Aside0.mk (below_step hB.out hb)
     clear hO hB hb
     obtain ⟨hy, hz⟩ := RI_cell HO5.out i (by have := HLX.out; omega)
     go_wp2
     try rw [Exit.noGoto_ret]
     go_ret2
     have e9' := e9.out
     cases e9'
     exact ⟨_, rfl, Kd.R_nil _ _ _ _ _, HB5.out⟩
    ·
     have e9 := Aside0.mk (HG2.out rfl)
     go_wp2
     rw [enters_ HFN.out HNM.out HBD.out, Oper.upon_enter]
     refine (HOP.out _ _ q1 true _ hB.out HG1.out).mono ?_
     rintro e w5 ⟨rfl, hb⟩
     have HO5 := Aside0.mk (Kd.R_below hO.out hb)
     have HB5 := Aside0.mk (below_step hB.out hb)
     clear hO hB hb
     obtain ⟨hy, hz⟩ := RI_cell HO5.out i (by have := HLX.out; omega)
     go_wp2
     go_roundw
     case measure => simp [intOf]; omega
     case rel =>
      have hacc' := hacc.out
      refine ⟨i + 1, acc ++ [q1], by omega, by go_num, ⟨by simp [hacc']⟩, e9, ⟨?_⟩, ⟨below_set HB5.out HBG.out⟩⟩
      have hl' : l0.length - i = (l0.length - (i + 1)) + 1 := by omega
      have hs := set_zeros (acc := acc) (m := l0.length - (i + 1)) q1
      rw [hacc'] at hs
      have ho := HO5.out
      have hp := RI_put ho i q1
      rw [hl', hs] at hp
      exact hp
   ·
    obtain rfl : i = l0.length := by omega
    go_wp2
    try rw [Exit.noGoto_ret]
    go_ret2
    have hg := hgo.out
    have hlr := HL.out
    rw [List.drop_of_length_le (Nat.le_refl _)] at hg
    simp only [each_go] at hg
    cases hg
    exact ⟨_, rfl, by simpa using hO.out, hB.out⟩
 ·
  have HA : r1 = [] ∧ r2 = 2 := by
   rw [if_neg hl] at h; cases h; exact ⟨rfl, rfl⟩
  obtain ⟨rfl, rfl⟩ := HA
  have e1 : (l0.length == l1.length) = false := by simpa using hl
  have e2 : ((l0.length : Int) == (l1.length : Int)) = false := beq_eq_false_iff_ne.mpr (by omega)
  have e3 : ((l0.length : Int) != (l1.length : Int)) = true := bne_iff_ne.mpr (by omega)
  clear h hl
  go_enter Try.func53, Try.ntmps53
  go_wp2
  go_step3
  go_wp2
  try rw [Exit.noGoto_ret]
  go_ret2
  exact ⟨_, rfl, Kd.R_nil _ _ _ _ _, Below.refl _ _⟩

end Go.Proofs.Ytckefohfahphpaa.Z
end
section
namespace Go.Proofs.Ytckefohfahphpaa.Z
open Go.RowKit Go.Proofs.YtckefohfahphpaaW.PrintWords Go.Proofs.YtckefohfahphpaaW.PrintLast Go.Proofs.YtckefohfahphpaaW.PrintMore
attribute [local go_sem] max2_int min2_int max_two min_two max_three min_three max_four min_four   -- for this text's walks alone
set_option linter.unusedVariables false
set_option linter.unusedSimpArgs false

/-! ### vector_Scale: function 46, by hand -/
set_option maxHeartbeats 8000000 in
set_option maxRecDepth 100000 in
theorem vector_Scale.clo (g : Nat) (k : Int) (x y : Int) (r1 : Int) (r2 : Bool) (w : World) (hk : w.cell? ⟨g, 0, none⟩ = some (.int .i64 k)) (h : safeint_Mul.f x k = some (r1, r2)) :
  Calls Try.prog 54 #[.int .i64 x, .int .i64 y, .pointer (some ⟨g, 0, none⟩)] w fun e w' => e = .returned (.tuple #[.int .i64 r1, .bool r2]) ∧ Below w.heap.size w w' := by
 have HH := Aside0.mk h
 clear h
 go_enter Try.func54, Try.ntmps54
 go_wp2_with (fail)
 refine (safeint_Mul.calls x k r1 r2 _ HH.out).mono ?_
 rintro e w1 ⟨rfl, hB⟩
 have HB := Aside0.mk hB
 clear hB hk
 go_wp2
 go_ret2
 exact ⟨rfl, HB.out⟩
def vector_Scale.f (a : List Int) (k : Int) : Option (List Int × Int) := each_f (fun x _ => safeint_Mul.f x k) a a
set_option maxHeartbeats 8000000 in
set_option maxRecDepth 100000 in
theorem vector_Scale.calls (A0 : Option Addr) (c0 : Nat) (l0 : List Int) (a1 : Int) (r1 : List Int) (r2 : Int) (w : World) (hr0 : Kd.C (Kd.int .i64) w A0 l0.length l0) (hc0 : l0.length ≤ c0) (h : vector_Scale.f l0 a1 = some (r1, r2)) :
  Calls Try.prog 46 #[.slice A0 l0.length c0, .int .i64 a1] w fun e w' => ∃ v0_ : Value, e = .returned (.tuple #[v0_, .int .i64 r2]) ∧ Kd.R (Kd.int .i64) 2 w' w.heap.size (fun _ => True) v0_ r1 ∧ Below w.heap.size w w' := by
 have HR0 := Aside0.mk hr0
 have HC0 := Aside0.mk hc0
 have HH := Aside0.mk h
 clear hr0 hc0 h
 have hmf : ∀ (fn : Fn) (first cap : Array Value) (w : World), (Instr.makeFunc fn first cap).run Try.prog w = .ok (.func fn first cap) w := fun _ _ _ _ => rfl
 go_enter Try.func46, Try.ntmps46
 go_wp2_with (fail)
 have hb1 : Below w.heap.size w (w.alloc (Obj.cells #[Value.int IntKind.i64 a1] 2)) := below_alloc (Below.refl _ _) _
 have hcell : (w.alloc (Obj.cells #[Value.int IntKind.i64 a1] 2)).cell? ⟨w.heap.size, 0, none⟩ = some (.int .i64 a1) := by rw [World.cell?_alloc_at _ _ _ _ rfl]; rfl
 refine (vector_each.calls 54 #[.pointer (some ⟨w.heap.size, 0, none⟩)] (fun x _ => safeint_Mul.f x a1) A0 c0 l0 A0 c0 l0 r1 r2 _ (Kd.C_alloc HR0.out _) HC0.out (Kd.C_alloc HR0.out _) HC0.out Try.func54 (by kernel_rfl) rfl
  (fun x y q1 q2 W hW hg => vector_Scale.clo w.heap.size a1 x y q1 q2 W ((hW.cell (World.block_lt_of_cell? _ _ hcell)).trans hcell) hg) HH.out).mono ?_
 rintro e w1 ⟨v0, rfl, hR, hB⟩
 have HR := Aside0.mk (Kd.R_lower hR hb1.size)
 have HB := Aside0.mk (below_step hb1 hB)
 clear hR hB hb1 hcell HR0 HC0 HH
 go_wp2
 go_ret2
 exact ⟨_, rfl, HR.out, HB.out⟩

end Go.Proofs.Ytckefohfahphpaa.Z
end
section
namespace Go.Proofs.Ytckefohfahphpaa.Z
open Go.RowKit Go.Proofs.YtckefohfahphpaaW.PrintWords Go.Proofs.YtckefohfahphpaaW.PrintLast Go.Proofs.YtckefohfahphpaaW.PrintMore
attribute [local go_sem] max2_int min2_int max_two min_two max_three min_three max_four min_four   -- for this text's walks alone
set_option linter.unusedVariables false
set_option linter.unusedSimpArgs false

/-! ### safeint_Add: function 45 -/
def safeint_Add.f (a0 : Int) (a1 : Int) : Option (Int × Bool) := if a1 > 0 then (if a0 > (wrap64 (9223372036854775807 - a1)) then (some (0, false)) else (if a1 < 0 then (if a0 < (wrap64 ((-9223372036854775808) - a1)) then (some (0, false)) else (some (wrap64 (a0 + a1), true))) else (some (wrap64 (a0 + a1), true)))) else (if a1 < 0 then (if a0 < (wrap64 ((-9223372036854775808) - a1)) then (some (0, false)) else (some (wrap64 (a0 + a1), true))) else (some (wrap64 (a0 + a1), true)))
set_option maxHeartbeats 8000000 in
set_option maxRecDepth 100000 in
theorem safeint_Add.calls (a0 : Int) (a1 : Int) (r1 : Int) (r2 : Bool) (w : World) (h : safeint_Add.f a0 a1 = some (r1, r2)) :
  Calls Try.prog 45 #[.int .i64 a0, .int .i64 a1] w fun e w' => e = .returned (.tuple #[.int .i64 r1, .bool r2]) ∧ Drawn0 w w' := by
 have H : (if a1 > 0 then (if a0 > (wrap64 (9223372036854775807 - a1)) then (some (0, false)) else (if a1 < 0 then (if a0 < (wrap64 ((-9223372036854775808) - a1)) then (some (0, false)) else (some (wrap64 (a0 + a1), true))) else (some (wrap64 (a0 + a1), true)))) else (if a1 < 0 then (if a0 < (wrap64 ((-9223372036854775808) - a1)) then (some (0, false)) else (some (wrap64 (a0 + a1), true))) else (some (wrap64 (a0 + a1), true)))) = some (r1, r2) := h
 clear h
 by_cases c3 : a1 > 0
 ·
  rw [if_pos c3] at H; have c3b0 : decide (0 < a1) = true := decide_eq_true c3; clear c3; by_cases c4 : a0 > (wrap64 (9223372036854775807 - a1))
  ·
   rw [if_pos c4] at H; have c4b0 : decide ((wrap64 (9223372036854775807 - a1)) < a0) = true := decide_eq_true c4; clear c4; simp only [Option.some.injEq, Prod.mk.injEq] at H; obtain ⟨rfl, rfl⟩ := H
   go_enter Try.func45, Try.ntmps45
   go_wp2; go_ret2; (exact ⟨by first | rfl | (simp; done) | (simp [*]; done), by repeat (first | exact Drawn0.refl _ | apply Drawn0.step)⟩)
  ·
   rw [if_neg c4] at H; have c4b0 : decide ((wrap64 (9223372036854775807 - a1)) < a0) = false := decide_eq_false c4; clear c4; by_cases c5 : a1 < 0
   ·
    rw [if_pos c5] at H; have c5b0 : decide (a1 < 0) = true := decide_eq_true c5; clear c5; by_cases c6 : a0 < (wrap64 ((-9223372036854775808) - a1))
    ·
     rw [if_pos c6] at H; have c6b0 : decide (a0 < (wrap64 ((-9223372036854775808) - a1))) = true := decide_eq_true c6; clear c6; simp only [Option.some.injEq, Prod.mk.injEq] at H; obtain ⟨rfl, rfl⟩ := H
     go_enter Try.func45, Try.ntmps45
     go_wp2; go_ret2; (exact ⟨by first | rfl | (simp; done) | (simp [*]; done), by repeat (first | exact Drawn0.refl _ | apply Drawn0.step)⟩)
    ·
     rw [if_neg c6] at H; have c6b0 : decide (a0 < (wrap64 ((-9223372036854775808) - a1))) = false := decide_eq_false c6; clear c6; simp only [Option.some.injEq, Prod.mk.injEq] at H; obtain ⟨rfl, rfl⟩ := H
     go_enter Try.func45, Try.ntmps45
     go_wp2; go_ret2; (exact ⟨by first | rfl | (simp; done) | (simp [*]; done), by repeat (first | exact Drawn0.refl _ | apply Drawn0.step)⟩)
   ·
    rw [if_neg c5] at H; have c5b0 : decide (a1 < 0) = false := decide_eq_false c5; clear c5; simp only [Option.some.injEq, Prod.mk.injEq] at H; obtain ⟨rfl, rfl⟩ := H
    go_enter Try.func45, Try.ntmps45
    go_wp2; go_ret2; (exact ⟨by first | rfl | (simp; done) | (simp [*]; done), by repeat (first | exact Drawn0.refl _ | apply Drawn0.step)⟩)
 ·
  rw [if_neg c3] at H; have c3b0 : decide (0 < a1) = false := decide_eq_false c3; clear c3; by_cases c7 : a1 < 0
  ·
   rw [if_pos c7] at H; have c7b0 : decide (a1 < 0) = true := decide_eq_true c7; clear c7; by_cases c8 : a0 < (wrap64 ((-9223372036854775808) - a1))
   ·
    rw [if_pos c8] at H; have c8b0 : decide (a0 < (wrap64 ((-9223372036854775808) - a1))) = true := decide_eq_true c8; clear c8; simp only [Option.some.injEq, Prod.mk.injEq] at H; obtain ⟨rfl, rfl⟩ := H
    go_enter Try.func45, Try.ntmps45
    go_wp2; go_ret2; (exact ⟨by first | rfl | (simp; done) | (simp [*]; done), by repeat (first | exact Drawn0.refl _ | apply Drawn0.step)⟩)
   ·
    rw [if_neg c8] at H; have c8b0 : decide (a0 < (wrap64 ((-9223372036854775808) - a1))) = false := decide_eq_false c8; clear c8; simp only [Option.some.injEq, Prod.mk.injEq] at H; obtain ⟨rfl, rfl⟩ := H
    go_enter Try.func45, Try.ntmps45
    go_wp2; go_ret2; (exact ⟨by first | rfl | (simp; done) | (simp [*]; done), by repeat (first | exact Drawn0.refl _ | apply Drawn0.step)⟩)
  ·
   rw [if_neg c7] at H; have c7b0 : decide (a1 < 0) = false := decide_eq_false c7; clear c7; simp only [Option.some.injEq, Prod.mk.injEq] at H; obtain ⟨rfl, rfl⟩ := H
   go_enter Try.func45, Try.ntmps45
   go_wp2; go_ret2; (exact ⟨by first | rfl | (simp; done) | (simp [*]; done), by repeat (first | exact Drawn0.refl _ | apply Drawn0.step)⟩)

end Go.Proofs.Ytckefohfahphpaa.Z
end
section
namespace Go.Proofs.Ytckefohfahphpaa.Z
open Go.RowKit Go.Proofs.YtckefohfahphpaaW.PrintWords Go.Proofs.YtckefohfahphpaaW.PrintLast Go.Proofs.YtckefohfahphpaaW.PrintMore
attribute [local go_sem] max2_int min2_int max_two min_two max_three min_three max_four min_four   -- for this text's walks alone
set_option linter.unusedVariables false
set_option linter.unusedSimpArgs false

/-! ### vector_Combine: function 48, by hand -/
def comb (i k x y : Int) : Option (Int × Bool) := (safeint_Mul.f x i).bind fun p => if p.2 = true then ((safeint_Mul.f y k).bind fun q => if q.2 = true then safeint_Add.f p.1 q.1 else some (0, false)) else some (0, false)
set_option maxHeartbeats 8000000 in
set_option maxRecDepth 100000 in
theorem vector_Combine.clo (gi gk : Nat) (i k : Int) (x y : Int) (r1 : Int) (r2 : Bool) (w : World) (hi : w.cell? ⟨gi, 0, none⟩ = some (.int .i64 i)) (hk : w.cell? ⟨gk, 0, none⟩ = some (.int .i64 k)) (h : comb i k x y = some (r1, r2)) :
  Calls Try.prog 55 #[.int .i64 x, .int .i64 y, .pointer (some ⟨gi, 0, none⟩), .pointer (some ⟨gk, 0, none⟩)] w fun e w' => e = .returned (.tuple #[.int .i64 r1, .bool r2]) ∧ Below w.heap.size w w' := by
 unfold comb at h
 obtain ⟨⟨p1, p2⟩, hp, h⟩ := Option.bind_eq_some_iff.mp h
 have HP := Aside0.mk hp
 have hbk := World.block_lt_of_cell? w _ hk
 have HBK := Aside0.mk hbk
 clear hp hbk
 cases p2
 ·
  have HH := Aside0.mk h
  clear h
  go_enter Try.func55, Try.ntmps55
  go_wp2_with (fail)
  refine (safeint_Mul.calls x i p1 false _ HP.out).mono ?_
  rintro e w1 ⟨rfl, hB⟩
  have HB := Aside0.mk hB
  clear hB hk hi
  go_wp2
  go_ret2
  have hh := HH.out
  simp at hh
  obtain ⟨rfl, rfl⟩ := hh
  exact ⟨rfl, HB.out⟩
 ·
  simp only [if_true] at h
  obtain ⟨⟨q1, q2⟩, hq, h⟩ := Option.bind_eq_some_iff.mp h
  have HQ := Aside0.mk hq
  have HH := Aside0.mk h
  clear h hq
  cases q2
  ·
   go_enter Try.func55, Try.ntmps55
   go_wp2_with (fail)
   refine (safeint_Mul.calls x i p1 true _ HP.out).mono ?_
   rintro e w1 ⟨rfl, hB⟩
   replace hk := (hB.cell HBK.out).trans hk
   have HB := Aside0.mk hB
   clear hB hi
   go_wp2_with (fail)
   refine (safeint_Mul.calls y k q1 false _ HQ.out).mono ?_
   rintro e w2 ⟨rfl, hB2⟩
   have HB2 := Aside0.mk hB2
   clear hB2 hk
   go_wp2
   go_ret2
   have hh := HH.out
   simp at hh
   obtain ⟨rfl, rfl⟩ := hh
   exact ⟨rfl, below_step HB.out HB2.out⟩
  ·
   go_enter Try.func55, Try.ntmps55
   go_wp2_with (fail)
   refine (safeint_Mul.calls x i p1 true _ HP.out).mono ?_
   rintro e w1 ⟨rfl, hB⟩
   replace hk := (hB.cell HBK.out).trans hk
   have HB := Aside0.mk hB
   clear hB hi
   go_wp2_with (fail)
   refine (safeint_Mul.calls y k q1 true _ HQ.out).mono ?_
   rintro e w2 ⟨rfl, hB2⟩
   have HB2 := Aside0.mk hB2
   clear hB2 hk
   go_wp2_with (fail)
   refine (safeint_Add.calls p1 q1 r1 r2 _ (by have := HH.out; simpa using this)).mono ?_
   rintro e w3 ⟨rfl, hB3⟩
   have HB3 := Aside0.mk hB3
   clear hB3
   go_wp2
   go_ret2
   exact ⟨rfl, below_step (below_step HB.out HB2.out) HB3.out.below⟩
def vector_Combine.f (a : List Int) (i : Int) (b : List Int) (k : Int) : Option (List Int × Int) := each_f (comb i k) a b
set_option maxHeartbeats 8000000 in
set_option maxRecDepth 100000 in
theorem vector_Combine.calls (A0 : Option Addr) (c0 : Nat) (l0 : List Int) (a1 : Int) (A2 : Option Addr) (c2 : Nat) (l2 : List Int) (a3 : Int) (r1 : List Int) (r2 : Int) (w : World) (hr0 : Kd.C (Kd.int .i64) w A0 l0.length l0) (hc0 : l0.length ≤ c0) (hr2 : Kd.C (Kd.int .i64) w A2 l2.length l2) (hc2 : l2.length ≤ c2) (h : vector_Combine.f l0 a1 l2 a3 = some (r1, r2)) :
  Calls Try.prog 48 #[.slice A0 l0.length c0, .int .i64 a1, .slice A2 l2.length c2, .int .i64 a3] w fun e w' => ∃ v0_ : Value, e = .returned (.tuple #[v0_, .int .i64 r2]) ∧ Kd.R (Kd.int .i64) 2 w' w.heap.size (fun _ => True) v0_ r1 ∧ Below w.heap.size w w' := by
 have HR0 := Aside0.mk hr0
 have HC0 := Aside0.mk hc0
 have HR2 := Aside0.mk hr2
 have HC2 := Aside0.mk hc2
 have HH := Aside0.mk h
 clear hr0 hc0 hr2 hc2 h
 have hmf : ∀ (fn : Fn) (first cap : Array Value) (w : World), (Instr.makeFunc fn first cap).run Try.prog w = .ok (.func fn first cap) w := fun _ _ _ _ => rfl
 go_enter Try.func48, Try.ntmps48
 go_wp2_with (fail)
 have hb1 : Below w.heap.size w ((w.alloc (Obj.cells #[Value.int IntKind.i64 a1] 2)).alloc (Obj.cells #[Value.int IntKind.i64 a3] 2)) := below_alloc (below_alloc (Below.refl _ _) _) _
 have hc1 : ((w.alloc (Obj.cells #[Value.int IntKind.i64 a1] 2)).alloc (Obj.cells #[Value.int IntKind.i64 a3] 2)).cell? ⟨w.heap.size, 0, none⟩ = some (.int .i64 a1) := by rw [World.cell?_alloc_past _ _ _ (by simp), World.cell?_alloc_at _ _ _ _ rfl]; rfl
 have hc3 : ((w.alloc (Obj.cells #[Value.int IntKind.i64 a1] 2)).alloc (Obj.cells #[Value.int IntKind.i64 a3] 2)).cell? ⟨w.heap.size + 1, 0, none⟩ = some (.int .i64 a3) := by rw [World.cell?_alloc_at _ _ _ _ (by simp)]; rfl
 refine (vector_each.calls 55 #[.pointer (some ⟨w.heap.size, 0, none⟩), .pointer (some ⟨w.heap.size + 1, 0, none⟩)] (comb a1 a3) A0 c0 l0 A2 c2 l2 r1 r2 _ (Kd.C_alloc (Kd.C_alloc HR0.out _) _) HC0.out (Kd.C_alloc (Kd.C_alloc HR2.out _) _) HC2.out Try.func55 (by kernel_rfl) rfl
  (fun x y q1 q2 W hW hg => vector_Combine.clo w.heap.size (w.heap.size + 1) a1 a3 x y q1 q2 W ((hW.cell (World.block_lt_of_cell? _ _ hc1)).trans hc1) ((hW.cell (World.block_lt_of_cell? _ _ hc3)).trans hc3) hg) HH.out).mono ?_
 rintro e w1 ⟨v0, rfl, hR, hB⟩
 have HR := Aside0.mk (Kd.R_lower hR hb1.size)
 have HB := Aside0.mk (below_step hb1 hB)
 clear hR hB hb1 hc1 hc3 HR0 HC0 HR2 HC2 HH
 go_wp2
 go_ret2
 exact ⟨_, rfl, HR.out, HB.out⟩

end Go.Proofs.Ytckefohfahphpaa.Z
end
section
namespace Go.Proofs.Ytckefohfahphpaa.Z
open Go.RowKit Go.Proofs.YtckefohfahphpaaW.PrintWords Go.Proofs.YtckefohfahphpaaW.PrintLast Go.Proofs.YtckefohfahphpaaW.PrintMore
attribute [local go_sem] max2_int min2_int max_two min_two max_three min_three max_four min_four   -- for this text's walks alone
set_option linter.unusedVariables false
set_option linter.unusedSimpArgs false

/-! ### matrix_reduce: function 26, by hand -/
/-- The table: its struct's block g, its columns and its rows. -/
structure TB (w : World) (base g : Nat) (cols : List Int) (rows : List (List Int)) (cv rv : Value) : Prop where
  blk : w.heap[g]? = some (.cells #[cv, rv] 48 (0, 0))
  bas : base ≤ g
  col : Kd.R (Kd.int .i64) 3 w base (fun _ => True) cv cols
  row : Kd.R (Kd.slice 2 (Kd.int .i64)) 33 w base (fun _ => True) rv rows
section
variable {w w1 : World} {base g : Nat} {cols : List Int} {rows : List (List Int)} {cv rv : Value}
theorem TB.lt (h : TB w base g cols rows cv rv) : g < w.heap.size := by
  have := h.blk
  exact (Array.getElem?_eq_some_iff.mp this).1
theorem TB.c0 (h : TB w base g cols rows cv rv) : w.cell? ⟨g, 0, none⟩ = some cv := by
  rw [cell_of_row w g _ _ 48 (0, 0) h.blk]; rfl
theorem TB.c1 (h : TB w base g cols rows cv rv) : w.cell? ⟨g, 1, none⟩ = some rv := by
  rw [cell_of_row w g _ _ 48 (0, 0) h.blk]; rfl
theorem TB.below (h : TB w base g cols rows cv rv) (hb : Below w.heap.size w w1) : TB w1 base g cols rows cv rv :=
  ⟨(hb.block g h.lt).trans h.blk, h.bas, Kd.R_below h.col hb, Kd.R_below h.row hb⟩
theorem TB.le (h : TB w base g cols rows cv rv) : base ≤ w.heap.size := Nat.le_of_lt (Nat.lt_of_le_of_lt h.bas h.lt)
theorem TB.rowblk {gr n cr : Nat} (h : TB w base g cols rows cv (.slice (some ⟨gr, 0, none⟩) n cr)) : n = rows.length ∧ base ≤ gr ∧ gr < w.heap.size ∧ ∃ cells, w.heap[gr]? = some (.cells cells 33 (0, 0)) := by
  obtain ⟨hn, _, _⟩ := Kd.R_reads' h.row
  obtain ⟨cells, hc⟩ := Kd.R_typed h.row gr (by simp [Value.ownBlock])
  exact ⟨hn, Kd.R_base h.row gr (by simp [Value.ownBlock]), Kd.R_lt h.row gr (by simp [Value.ownBlock]), cells, hc⟩
theorem TB.frozen {gr n cr : Nat} (h : TB w base g cols rows cv (.slice (some ⟨gr, 0, none⟩) n cr)) (j : Nat) : w.frozen? ⟨gr, j, none⟩ = false := by
  obtain ⟨_, _, _, cells, hc⟩ := h.rowblk
  exact blk_frozen hc _
theorem TB.apart {gr n cr : Nat} (h : TB w base g cols rows cv (.slice (some ⟨gr, 0, none⟩) n cr)) : g ≠ gr := by
  intro he
  subst he
  obtain ⟨_, _, _, cells, hc⟩ := h.rowblk
  rw [h.blk] at hc
  simp at hc
/-- A row of the table is another one then. -/
theorem TB.put {gr n cr base' : Nat} {ok : Nat → Prop} (h : TB w base g cols rows cv (.slice (some ⟨gr, 0, none⟩) n cr)) (i : Int) (h0 : 0 ≤ i) (h1 : i < (rows.length : Int)) {v : Value} {s : List Int} (hv : Kd.R (Kd.int .i64) 2 w base' ok v s) (hb : base ≤ base') :
    TB (w.setCell ⟨gr, i.toNat, none⟩ v) base g cols (rows.set i.toNat s) cv (.slice (some ⟨gr, 0, none⟩) n cr) := by
  obtain ⟨hn, hbg, hlt, cells, hc⟩ := h.rowblk
  have hne := h.apart
  obtain ⟨c, hcl, hM, hcc, hfz⟩ := Kd.R_elem h.row [] i h0 (by omega)
  have hv1 : Kd.R (Kd.int .i64) 2 w base (fun k => ok k ∧ k ≠ gr) v s := Kd.R_lower (Kd.R_types hv hc (by intro q hq; simp [Kd.int, Kd.scalar] at hq; omega)) hb
  have hs := Kd.R_seg h.row i h0 (by omega) (c := c) (seg := [v]) (j := 0) hcl hcc (by simp [Kd.slice]) (x' := s) (okp := fun k => True ∧ k ≠ gr) (by
    have hcl1 : c.length = 1 := hcl
    refine ⟨v, ?_, Kd.R_mono hv1 (fun k hk => ⟨trivial, hk.2⟩)⟩
    rw [List.take_zero, List.nil_append, List.drop_of_length_le (by simp [hcl1])]
    rfl) (fun k hk => hk)
  have e1 : i.toNat * (Kd.slice 2 (Kd.int .i64)).sz + 0 = i.toNat := by simp [Kd.slice]
  rw [e1] at hs
  refine ⟨?_, h.bas, Kd.R_set h.col hc (by intro q hq; simp [Kd.int, Kd.scalar] at hq; omega) _ _, hs.1⟩
  rw [Below.heap_setCell w _ v g hne]
  exact h.blk
end
set_option maxHeartbeats 8000000 in
set_option maxRecDepth 100000 in
theorem pivots_rank.calls (g : Nat) (A : Option Addr) (n c : Nat) (w : World) (hc : w.cell? ⟨g, 0, none⟩ = some (.slice A n c)) :
    Calls Try.prog 27 #[.pointer (some ⟨g, 0, none⟩)] w fun e w' => e = .returned (.int .i64 (n : Int)) ∧ w' = w := by
  go_enter Try.func27, Try.ntmps27
  go_wp2
  go_ret
  exact ⟨rfl, rfl⟩
def table_clear.f (k : Nat) (rows : List (List Int)) (i p c : Int) : Option (List (List Int) × Int) :=
  if 0 ≤ i ∧ i < (rows.length : Int) ∧ 0 ≤ p ∧ p < (rows.length : Int) ∧ 0 ≤ c ∧ c < ((rd_L1 rows i).length : Int) ∧ c < ((rd_L1 rows p).length : Int) then
    (safeint_Gcd.f (rd (rd_L1 rows i) c) (rd (rd_L1 rows p) c)).bind fun g =>
      if g.2 = false then some (rows, 3) else if rd (rd_L1 rows i) c = -9223372036854775808 then some (rows, 3) else if g.1 = 0 then none else
      (vector_Combine.f (rd_L1 rows i) (wrap64 (Int.tdiv (rd (rd_L1 rows p) c) g.1)) (rd_L1 rows p) (wrap64 (-(wrap64 (Int.tdiv (rd (rd_L1 rows i) c) g.1))))).bind fun r =>
        if r.2 ≠ 0 then some (rows, r.2) else (vector_Prim.f k r.1).bind fun s => some (rows.set i.toNat s.1, s.2)
  else none
set_option maxHeartbeats 8000000 in
set_option maxRecDepth 100000 in
theorem table_clear.calls (k : Nat) (i p c : Int) (base g : Nat) (cols : List Int) (rows : List (List Int)) (cv rv : Value) (rows' : List (List Int)) (e : Int) (w : World) (hT : TB w base g cols rows cv rv) (h : table_clear.f k rows i p c = some (rows', e)) :
    Calls Try.prog 39 #[.pointer (some ⟨g, 0, none⟩), .int .i64 i, .int .i64 p, .int .i64 c] w fun e' w' => e' = .returned (.int .i64 e) ∧ TB w' base g cols rows' cv rv ∧ Below base w w' := by
  unfold table_clear.f at h
  split at h
  case isFalse => cases h
  rename_i hb
  obtain ⟨hi0, hi1, hp0, hp1, hc0, hc1, hc2⟩ := hb
  obtain ⟨⟨gg, ok⟩, hg, h⟩ := Option.bind_eq_some_iff.mp h
  have HT := Aside0.mk hT
  have HG := Aside0.mk hg
  have HH := Aside0.mk h
  clear hg h
  obtain ⟨Ar, cr, rfl, hcr, hC⟩ := Kd.R_reads hT.row
  have hcell := hT.c1
  obtain ⟨ad, Ai, ci, ead, hx, hl, hin⟩ := at_L1 hC i hi0 hi1
  cases ead
  obtain ⟨adp, Ap, cp, eadp, hxp, hlp, hinp⟩ := at_L1 hC p hp0 hp1
  cases eadp
  obtain ⟨a1, ea1, hx1⟩ := Kd.at_int hin c hc0 hc1
  cases ea1
  obtain ⟨a2, ea2, hx2⟩ := Kd.at_int hinp c hc0 hc2
  cases ea2
  obtain ⟨gr, rfl⟩ := Kd.R_head hT.row
  (first | simp only [add_plain] at hx | simp only [add_at] at hx | simp only [Addr.add, Nat.zero_add] at hx)
  (first | simp only [add_plain] at hxp | simp only [add_at] at hxp | simp only [Addr.add, Nat.zero_add] at hxp)
  have HL := Aside0.mk hl
  have HLP := Aside0.mk hlp
  have HIN := Aside0.mk hin
  have HINP := Aside0.mk hinp
  clear hT hl hlp hin hinp hC
  have HX := Aside0.mk hx
  have HXP := Aside0.mk hxp
  have HCELL := Aside0.mk hcell
  have hbx := World.block_lt_of_cell? w _ hx
  have hbxp := World.block_lt_of_cell? w _ hxp
  have hbc := World.block_lt_of_cell? w _ hcell
  have HBX := Aside0.mk hbx
  have HBXP := Aside0.mk hbxp
  have HBC := Aside0.mk hbc
  clear hbx hbxp hbc
  cases ok
  · have HE : rows = rows' ∧ 3 = e := by
      have := HH.out
      simpa using this
    obtain ⟨rfl, rfl⟩ := HE
    go_enter Try.func39, Try.ntmps39
    go_wp2
    go_quiet (fail)
    go_wp2_with (fail)
    refine (safeint_Gcd.calls _ _ gg false _ HG.out).mono ?_
    rintro e w1 ⟨rfl, hd⟩
    have hB : Below w.heap.size w w1 := below_step (pw_below_drewN (Below.refl _ _) _) hd.below
    have HB := Aside0.mk hB
    clear hB hd hx hx1 hx2 hxp hcell
    go_wp2
    go_ret
    exact ⟨rfl, HT.out.below HB.out, HB.out.mono HT.out.le⟩
  · have HH1 : Aside0 ((if rd (rd_L1 rows i) c = -9223372036854775808 then some (rows, 3) else if gg = 0 then none else
            (vector_Combine.f (rd_L1 rows i) (wrap64 ((rd (rd_L1 rows p) c).tdiv gg)) (rd_L1 rows p) (wrap64 (-wrap64 ((rd (rd_L1 rows i) c).tdiv gg)))).bind
              fun r => if r.snd ≠ 0 then some (rows, r.snd) else (vector_Prim.f k r.fst).bind fun s => some (rows.set i.toNat s.fst, s.snd)) = some (rows', e)) := ⟨by have := HH.out; simpa using this⟩
    clear HH
    by_cases hm : rd (rd_L1 rows i) c = -9223372036854775808
    · have HE : rows = rows' ∧ 3 = e := by
        have := HH1.out
        rw [if_pos hm] at this
        simpa using this
      obtain ⟨rfl, rfl⟩ := HE
      have hm1 : (rd (rd_L1 rows i) c == -9223372036854775808) = true := by rw [hm]; rfl
      have HM := Aside0.mk hm
      clear hm
      go_enter Try.func39, Try.ntmps39
      go_wp2
      go_quiet (fail)
      go_wp2_with (fail)
      refine (safeint_Gcd.calls _ _ gg true _ HG.out).mono ?_
      rintro e w1 ⟨rfl, hd⟩
      have hB : Below w.heap.size w w1 := below_step (pw_below_drewN (Below.refl _ _) _) hd.below
      have HB := Aside0.mk hB
      clear hB hd hx hx1 hx2 hxp hcell
      go_wp2
      go_ret
      exact ⟨rfl, HT.out.below HB.out, HB.out.mono HT.out.le⟩
    · have hm1 : (rd (rd_L1 rows i) c == -9223372036854775808) = false := beq_eq_false_iff_ne.mpr hm
      have hgn : gg ≠ 0 := by
        intro h0
        have := HH1.out
        rw [if_neg hm, if_pos h0] at this
        cases this
      have hgb : (gg == 0) = false := beq_eq_false_iff_ne.mpr hgn
      obtain ⟨⟨q1, q2⟩, hq, h⟩ : ∃ q : List Int × Int, vector_Combine.f (rd_L1 rows i) (wrap64 ((rd (rd_L1 rows p) c).tdiv gg)) (rd_L1 rows p) (wrap64 (-wrap64 ((rd (rd_L1 rows i) c).tdiv gg))) = some q ∧ (if q.2 ≠ 0 then some (rows, q.2) else (vector_Prim.f k q.1).bind fun s => some (rows.set i.toNat s.fst, s.snd)) = some (rows', e) := by
        have := HH1.out
        rw [if_neg hm, if_neg hgn] at this
        exact Option.bind_eq_some_iff.mp this
      have HQ := Aside0.mk hq
      have HH := Aside0.mk h
      have HM := Aside0.mk hm
      clear hm hq h HH1
      by_cases hq0 : q2 = 0
      · subst hq0
        have HH1 : Aside0 (((vector_Prim.f k q1).bind fun s => some (rows.set i.toNat s.fst, s.snd)) = some (rows', e)) := ⟨by have := HH.out; simpa using this⟩
        clear HH
        obtain ⟨⟨s1, s2⟩, hs, h⟩ := Option.bind_eq_some_iff.mp HH1.out
        have HS := Aside0.mk hs
        obtain ⟨rfl, rfl⟩ : rows.set i.toNat s1 = rows' ∧ s2 = e := by simpa using h
        clear h hs HH1
        go_enter Try.func39, Try.ntmps39
        go_wp2
        go_quiet (fail)
        go_wp2_with (fail)
        refine (safeint_Gcd.calls _ _ gg true _ HG.out).mono ?_
        rintro e1 w1 ⟨rfl, hd⟩
        have hB : Below w.heap.size w w1 := below_step (pw_below_drewN (Below.refl _ _) _) hd.below
        replace hx := (hB.cell HBX.out).trans hx
        replace hxp := (hB.cell HBXP.out).trans hxp
        replace hcell := (hB.cell HBC.out).trans hcell
        have HB := Aside0.mk hB
        clear hB hd hx1 hx2
        go_wp2
        go_region_held3 (fun w' => w'.cell? ⟨g, 1, none⟩ = some (.slice (some ⟨gr, 0, none⟩) rows.length cr) ∧ w'.cell? ⟨gr, i.toNat, none⟩ = some (.slice (some a1) (rd_L1 rows i).length ci) ∧ w'.cell? ⟨gr, p.toNat, none⟩ = some (.slice (some a2) (rd_L1 rows p).length cp)) (first | go_keep | exact ⟨hcell, hx, hxp⟩) (first | (go_at_call 48; (try simp only [i64_w]); (with_reducible refine (vector_Combine.calls _ _ (rd_L1 rows i) _ _ _ (rd_L1 rows p) _ q1 0 _ (Kd.C_drew (Kd.C_below HIN.out HB.out)) HL.out (Kd.C_drew (Kd.C_below HINP.out HB.out)) HLP.out HQ.out).mono ?_); rintro e2 w2 ⟨v0, rfl, hR, hb⟩; obtain ⟨Aq, cq, rfl, hcq, hCq⟩ := Kd.R_reads hR; have hB2 := below_step (below_drew HB.out) hb; replace hx := (hB2.cell HBX.out).trans HX.out; replace hxp := (hB2.cell HBXP.out).trans HXP.out; replace hcell := (hB2.cell HBC.out).trans HCELL.out; have HB2 := Aside0.mk hB2; have HCQ := Aside0.mk hCq; have HLQ := Aside0.mk hcq; clear hR hCq hcq hb hB2))
        go_wp2
        have hfz := (HT.out.below HB2.out).frozen i.toNat
        have hgne := HT.out.apart
        clear hxp
        go_region_held3 (fun w' => w'.cell? ⟨g, 1, none⟩ = some (.slice (some ⟨gr, 0, none⟩) rows.length cr)) (first | go_keep | exact hcell | exact (World.cell?_of_block (Below.heap_setCell _ _ _ _ hgne)).trans hcell) (first | (go_at_call 43; (with_reducible refine (vector_Prim.calls k _ _ q1 s1 s2 _ (Kd.C_drew HCQ.out) HLQ.out HS.out).mono ?_); rintro e3 w3 ⟨v3, rfl, hR, hb⟩; obtain ⟨A3, c3, rfl, _, _⟩ := Kd.R_reads hR; have hB3 := below_step (below_drew HB2.out) hb; replace hx := (hB3.cell HBX.out).trans HX.out; replace hcell := (hB3.cell HBC.out).trans HCELL.out; replace hfz := (HT.out.below hB3).frozen i.toNat; have HB3 := Aside0.mk hB3; have HR3 := Aside0.mk (Kd.R_lower hR (Nat.le_trans HT.out.le (below_step (below_drew HB2.out) (Below.refl _ _)).size)); clear hR hb hB3))
        go_wp2
        go_ret
        have hT3 := (HT.out.below HB3.out).put i hi0 hi1 HR3.out (Nat.le_refl _)
        exact ⟨rfl, hT3, (HB3.out.mono HT.out.le).setCell (HT.out.rowblk.2.1) _⟩
      · have HE : rows = rows' ∧ q2 = e := by
          have := HH.out
          rw [if_pos hq0] at this
          simpa using this
        obtain ⟨rfl, rfl⟩ := HE
        have hqb : (q2 != 0) = true := bne_iff_ne.mpr hq0
        have hqc : (q2 == 0) = false := beq_eq_false_iff_ne.mpr hq0
        have HQ0 := Aside0.mk hq0
        clear hq0 HH
        go_enter Try.func39, Try.ntmps39
        go_wp2
        go_quiet (fail)
        go_wp2_with (fail)
        refine (safeint_Gcd.calls _ _ gg true _ HG.out).mono ?_
        rintro e1 w1 ⟨rfl, hd⟩
        have hB : Below w.heap.size w w1 := below_step (pw_below_drewN (Below.refl _ _) _) hd.below
        replace hx := (hB.cell HBX.out).trans hx
        replace hxp := (hB.cell HBXP.out).trans hxp
        replace hcell := (hB.cell HBC.out).trans hcell
        have HB := Aside0.mk hB
        clear hB hd hx1 hx2
        go_wp2
        go_region_held3 (fun w' => w'.cell? ⟨g, 1, none⟩ = some (.slice (some ⟨gr, 0, none⟩) rows.length cr) ∧ w'.cell? ⟨gr, i.toNat, none⟩ = some (.slice (some a1) (rd_L1 rows i).length ci) ∧ w'.cell? ⟨gr, p.toNat, none⟩ = some (.slice (some a2) (rd_L1 rows p).length cp)) (first | go_keep | exact ⟨hcell, hx, hxp⟩) (first | (go_at_call 48; (try simp only [i64_w]); (with_reducible refine (vector_Combine.calls _ _ (rd_L1 rows i) _ _ _ (rd_L1 rows p) _ q1 q2 _ (Kd.C_drew (Kd.C_below HIN.out HB.out)) HL.out (Kd.C_drew (Kd.C_below HINP.out HB.out)) HLP.out HQ.out).mono ?_); rintro e2 w2 ⟨v0, rfl, hR, hb⟩; obtain ⟨Aq, cq, rfl, hcq, hCq⟩ := Kd.R_reads hR; have hB2 := below_step (below_drew HB.out) hb; replace hx := (hB2.cell HBX.out).trans HX.out; replace hxp := (hB2.cell HBXP.out).trans HXP.out; replace hcell := (hB2.cell HBC.out).trans HCELL.out; have HB2 := Aside0.mk hB2; have HCQ := Aside0.mk hCq; have HLQ := Aside0.mk hcq; clear hR hCq hcq hb hB2))
        go_wp2
        go_ret
        exact ⟨rfl, HT.out.below HB2.out, HB2.out.mono HT.out.le⟩
/-- What lies in the table's own block is turned. -/
theorem TB.cols {w w1 : World} {base g : Nat} {cols cols' : List Int} {rows : List (List Int)} {A : Option Addr} {n cc : Nat} {rv v1 : Value} (h : TB w base g cols rows (.slice A n cc) rv) (ho : Kd.R (Kd.int .i64) 3 w1 base (fun _ => True) v1 cols')
    (hg : w.grownBy w1 (Value.slice A n cc).ownBlock) : TB (w1.setCell ⟨g, 0, none⟩ v1) base g cols' rows v1 rv := by
  have hne : some g ≠ (Value.slice A n cc).ownBlock := Kd.R_ne h.col h.blk (by decide)
  have hb1 : w1.heap[g]? = some (.cells #[.slice A n cc, rv] 48 (0, 0)) := (hg.block g h.lt hne).trans h.blk
  have hrow : Kd.R (Kd.slice 2 (Kd.int .i64)) 33 w1 base (fun _ => True) rv rows := Kd.R_over' h.row (Kd.R_typed h.col) (by intro q hq; simp [Kd.slice, Kd.int, Kd.scalar] at hq; omega) hg
  refine ⟨?_, h.bas, Kd.R_set ho hb1 (by intro q hq; simp [Kd.int, Kd.scalar] at hq; omega) _ _, Kd.R_set hrow hb1 (by intro q hq; simp [Kd.slice, Kd.int, Kd.scalar] at hq; omega) _ _⟩
  have := heap_setCell_same w1 g 0 _ _ v1 hb1
  rw [this]
  rfl
theorem tinfo3 : (Try.prog.info? 3).map (fun i => (i.zero, i.size, i.bytes)) = some (some (.int .i64 0), 1, 8) := by kernel_rfl
set_option maxHeartbeats 8000000 in
set_option maxRecDepth 100000 in
theorem pivots_add.calls (c : Int) (base g : Nat) (cols : List Int) (rows : List (List Int)) (cv rv : Value) (w : World) (hT : TB w base g cols rows cv rv) (hl : cols.length ≤ 1000000) :
    Calls Try.prog 47 #[.pointer (some ⟨g, 0, none⟩), .int .i64 c] w fun e w' => ∃ u cv', e = .returned u ∧ TB w' base g (cols ++ [c]) rows cv' rv ∧ Below base w w' := by
  obtain ⟨A, cc, rfl⟩ := Kd.R_slice hT.col
  have HT := Aside0.mk hT
  have HL := Aside0.mk hl
  have hc0 := hT.c0
  have hbg : g < w.heap.size := hT.lt
  clear hT hl
  go_enter Try.func47, Try.ntmps47
  go_wp2_with (first | ((with_reducible refine gate_builtin (b := .append) (xs := #[.tmp 8, .tmp 10]) rfl ?_); at_builtin; refine Kd.R_append (Kd.int .i64) (w0 := w) base rfl (.tmp 8) (.tmp 10) 44 3 (.int .i64 0) 8 rfl Try.underlying44 tinfo3 rfl (by decide) (by omega) (.slice A cols.length cc) cols c [.int .i64 c] (fun _ => True) (fun _ => False) rfl rfl ?aP (fun _ hk => hk.elim) ?aF ?aO ?aB ?aS ?aL ?_; (case aP => exact rfl); (case aB => exact Below.refl _ _); (case aF => exact (fun _ _ => trivial)); (case aO => exact HT.out.col); (case aS => exact HT.out.le); (case aL => have := HL.out; omega); intro v1 w1 ho hb hg hat; obtain ⟨A1, c1, rfl⟩ := Kd.R_slice ho; have hb1 : w1.heap[g]? = some (.cells #[.slice A cols.length cc, rv] 48 (0, 0)) := (hg.block g hbg (Kd.R_ne HT.out.col HT.out.blk (by decide))).trans HT.out.blk; have hx0 : w1.cell? ⟨g, 0, none⟩ = some (.slice A cols.length cc) := (by rw [cell_of_row w1 g _ _ 48 (0, 0) hb1]; rfl); have hfz : w1.frozen? ⟨g, 0, none⟩ = false := blk_frozen hb1 _; have HO := Aside0.mk ho; have HB := Aside0.mk hb; have HGR := Aside0.mk hg; clear ho hb hg hat hb1))
  go_end0
  have hh := HT.out.cols HO.out HGR.out
  rw [List.length_append] at hh
  exact ⟨_, _, rfl, hh, HB.out.setCell HT.out.bas _⟩
theorem TB.rowR {w : World} {base g : Nat} {cols : List Int} {rows : List (List Int)} {cv : Value} {gr n cr : Nat} (h : TB w base g cols rows cv (.slice (some ⟨gr, 0, none⟩) n cr)) (i : Int) (h0 : 0 ≤ i) (h1 : i < (rows.length : Int)) :
    ∃ A c, w.cell? ⟨gr, i.toNat, none⟩ = some (.slice A (rd_L1 rows i).length c) ∧ Kd.R (Kd.int .i64) 2 w base (fun k => True ∧ k ≠ gr) (.slice A (rd_L1 rows i).length c) (rd_L1 rows i) := by
  obtain ⟨hn, _, _⟩ := h.rowblk
  obtain ⟨c, hcl, ⟨v, rfl, hM⟩, hcc, hfz⟩ := Kd.R_elem h.row [] i h0 (by omega)
  have e1 : rows.getD i.toNat [] = rd_L1 rows i := by simp [rd_L1]
  rw [e1] at hM
  obtain ⟨A, c, rfl⟩ := Kd.R_slice hM
  have := hcc 0 _ rfl
  have e2 : i.toNat * (Kd.slice 2 (Kd.int .i64)).sz + 0 = i.toNat := by simp [Kd.slice]
  rw [e2] at this
  exact ⟨A, c, this, hM⟩
/-- Two rows of the table change places. -/
theorem TB.swap {w : World} {base g : Nat} {cols : List Int} {rows : List (List Int)} {cv : Value} {gr n cr : Nat} (h : TB w base g cols rows cv (.slice (some ⟨gr, 0, none⟩) n cr)) (i j : Nat) (h1 : i < rows.length) (h2 : j < rows.length) {v u : Value} {s t : List Int}
    (hv : Kd.R (Kd.int .i64) 2 w base (fun k => True ∧ k ≠ gr) v s) (hu : Kd.R (Kd.int .i64) 2 w base (fun k => True ∧ k ≠ gr) u t) :
    TB ((w.setCell ⟨gr, i, none⟩ v).setCell ⟨gr, j, none⟩ u) base g cols ((rows.set i s).set j t) cv (.slice (some ⟨gr, 0, none⟩) n cr) := by
  have h3 := h.put (i : Int) (by omega) (by omega) hv (Nat.le_refl _)
  rw [Int.toNat_natCast] at h3
  have h4 := h3.put (j : Int) (by omega) (by simp; omega) (Kd.R_far hu (p := ⟨gr, i, none⟩) (fun k hk => hk.2) v) (Nat.le_refl _)
  rw [Int.toNat_natCast] at h4
  exact h4
theorem rd_swap {rows : List (List Int)} {k a : Nat} (hk : k < rows.length) : rd_L1 ((rows.set k (rd_L1 rows a)).set a (rd_L1 rows k)) (k : Int) = rd_L1 rows (a : Int) := by
  by_cases h : a = k
  · subst h
    simp [rd_L1, List.getD_eq_getElem?_getD, hk]
  · simp [rd_L1, List.getD_eq_getElem?_getD, hk, List.getElem?_set_ne h, List.getElem_set, h]
/-- The first row from 'at' on with an element in column c. -/
def table_leadAt (c : Int) : List (List Int) → Nat → Option Nat
  | [], at_ => some at_
  | r :: rs, at_ => if 0 ≤ c ∧ c < (r.length : Int) then (if rd r c = 0 then table_leadAt c rs (at_ + 1) else some at_) else none
theorem drop_L1 {rows : List (List Int)} {a : Nat} (h : a < rows.length) : rows.drop a = rd_L1 rows (a : Int) :: rows.drop (a + 1) := by
  rw [List.drop_eq_getElem_cons h]
  simp [rd_L1, List.getD_eq_getElem?_getD, h]
def table_leadTo (k : Nat) (rows : List (List Int)) (cols : List Int) (c : Int) (at_ : Nat) : Option ((List (List Int) × List Int) × Bool × Int) :=
  if at_ = rows.length then some ((rows, cols), false, 0) else
    (vector_Prim.f k (rd_L1 rows at_)).bind fun s => if s.2 = 0 then (if 0 ≤ c ∧ c < (s.1.length : Int) then
        (if rd s.1 c < 0 then (vector_Scale.f s.1 (-1)).bind fun q => if q.2 = 0 then some ((((rows.set cols.length (rd_L1 rows at_)).set at_ (rd_L1 rows cols.length)).set cols.length q.1, cols ++ [c]), true, 0) else some (((rows.set cols.length (rd_L1 rows at_)).set at_ (rd_L1 rows cols.length), cols), false, q.2)
         else some ((((rows.set cols.length (rd_L1 rows at_)).set at_ (rd_L1 rows cols.length)).set cols.length s.1, cols ++ [c]), true, 0)) else none)
      else some (((rows.set cols.length (rd_L1 rows at_)).set at_ (rd_L1 rows cols.length), cols), false, s.2)
def table_lead.f (k : Nat) (rows : List (List Int)) (cols : List Int) (c : Int) : Option ((List (List Int) × List Int) × Bool × Int) :=
  if 0 < rows.length ∧ rows.length ≤ 1000000 ∧ cols.length ≤ rows.length then (table_leadAt c (rows.drop cols.length) cols.length).bind fun at_ => table_leadTo k rows cols c at_ else none
set_option maxHeartbeats 8000000 in
set_option maxRecDepth 100000 in
theorem table_lead.calls (k : Nat) (c : Int) (base g : Nat) (cols : List Int) (rows : List (List Int)) (cv rv : Value) (rows' : List (List Int)) (cols' : List Int) (found : Bool) (e : Int) (w : World) (hT : TB w base g cols rows cv rv)
    (h : table_lead.f k rows cols c = some ((rows', cols'), found, e)) :
    Calls Try.prog 38 #[.pointer (some ⟨g, 0, none⟩), .int .i64 c] w fun e' w' => e' = .returned (.tuple #[.bool found, .int .i64 e]) ∧ ∃ cv', TB w' base g cols' rows' cv' rv ∧ Below base w w' := by
  unfold table_lead.f at h
  split at h
  case isFalse => cases h
  rename_i hb
  obtain ⟨hr0, hr1, hrc⟩ := hb
  obtain ⟨at1, hat, h⟩ := Option.bind_eq_some_iff.mp h
  obtain ⟨gr, cr, rfl, hbg, hgl, _⟩ := Kd.R_form hT.row hr0
  obtain ⟨A, cc, rfl⟩ := Kd.R_slice hT.col
  obtain ⟨_, _, hC⟩ := Kd.R_reads' hT.row
  have HT := Aside0.mk hT
  have HA := Aside0.mk hat
  have HH := Aside0.mk h
  have HC := Aside0.mk hC
  have HRC := Aside0.mk hrc
  have HR1 := Aside0.mk hr1
  have hc0 := hT.c0
  have hc1 := hT.c1
  clear hT hat h hbg hgl hC hrc hr1
  go_enter Try.func38, Try.ntmps38
  go_wp2_with (fail)
  refine (pivots_rank.calls g A cols.length cc _ hc0).mono ?_
  rintro e1 w1 ⟨rfl, hw⟩
  have hw := hw.symm
  subst hw
  go_wp2
  go_loopw [7] (fun s7 W => ∃ (a : Nat), W = w ∧ s7 = .int .i64 (a : Int) ∧ Aside0 (cols.length ≤ a ∧ a ≤ rows.length) ∧ Aside0 (table_leadAt c (rows.drop a) a = some at1)) (fun s7 _ => rows.length - (intOf s7).toNat)
  case atStart => exact ⟨cols.length, rfl, rfl, ⟨Nat.le_refl _, HRC.out⟩, HA⟩
  case round =>
    obtain ⟨a, rfl, rfl, hab, hal⟩ := hrel
    have hac := hab.out
    by_cases hlt : a < rows.length
    · have hlt1 : (a : Int) < (rows.length : Int) := by omega
      have hd1 : decide ((a : Int) < (rows.length : Int)) = true := decide_eq_true hlt1
      obtain ⟨ad, Aa, ca, ead, hx, hl, hin⟩ := at_L1 HC.out (a : Int) (by omega) hlt1
      cases ead
      (first | simp only [add_plain] at hx | simp only [add_at] at hx | simp only [Addr.add, Nat.zero_add] at hx)
      rw [Int.toNat_natCast] at hx
      have hal1 := hal.out
      rw [drop_L1 hlt, table_leadAt] at hal1
      by_cases hcc : 0 ≤ c ∧ c < ((rd_L1 rows a).length : Int)
      case neg => rw [if_neg hcc] at hal1; cases hal1
      rw [if_pos hcc] at hal1
      obtain ⟨hcc0, hcc1⟩ := hcc
      obtain ⟨a1, ea1, hx1⟩ := Kd.at_int hin c hcc0 hcc1
      cases ea1
      have HL := Aside0.mk hl
      have HIN := Aside0.mk hin
      clear hal hl hin
      by_cases hz : rd (rd_L1 rows a) c = 0
      · rw [if_pos hz] at hal1
        have hz1 : (rd (rd_L1 rows a) c == 0) = true := beq_iff_eq.mpr hz
        have HAL := Aside0.mk hal1
        have HAB := hab
        have hR1 := HR1.out
        clear hal1 hz hac
        go_wp2
        go_roundw
        case measure => simp [intOf]; omega
        case rel => exact ⟨a + 1, by first | rfl | trivial, by go_num, ⟨by have := HAB.out; omega⟩, HAL⟩
      · rw [if_neg hz] at hal1
        obtain rfl := Option.some.inj hal1
        have hz1 : (rd (rd_L1 rows a) c == 0) = false := beq_eq_false_iff_ne.mpr hz
        have HZ := Aside0.mk hz
        have hne : ((a : Int) == (rows.length : Int)) = false := beq_eq_false_iff_ne.mpr (by omega)
        clear hz hal1 
        have hlk : cols.length < rows.length := by omega
        obtain ⟨Ak, ck, hxk, hRk⟩ := HT.out.rowR (cols.length : Int) (by omega) (by omega)
        obtain ⟨Aa, ca', hxa, hRa⟩ := HT.out.rowR (a : Int) (by omega) (by omega)
        rw [Int.toNat_natCast] at hxk hxa
        have hfa := HT.out.frozen a
        have hfk := HT.out.frozen cols.length
        have hk0 : (0 : Int) ≤ (cols.length : Int) := by omega
        have hk1 : (cols.length : Int) < (rows.length : Int) := by omega
        have HRK := Aside0.mk hRk
        have HRA := Aside0.mk hRa
        have heq := Option.some.inj (hx.symm.trans hxa)
        injection heq with e1 _ e3
        subst e1
        subst e3
        clear hRk hRa hab hac hxa HL HIN
        by_cases hka : a = cols.length
        · subst hka
          have heq := Option.some.inj (hx.symm.trans hxk)
          injection heq with e1 _ e3
          subst e1
          subst e3
          clear hxk
          go_wp2_with (fail)
          go_region
          generalize hW2 : (World.setCell _ _ _).drew = W2
          have HT2 : Aside0 (TB W2 base g cols ((rows.set cols.length (rd_L1 rows cols.length)).set cols.length (rd_L1 rows cols.length)) (.slice A cols.length cc) (.slice (some ⟨gr, 0, none⟩) rows.length cr)) := ⟨by rw [← hW2]; exact (HT.out.swap cols.length cols.length hlk hlk HRA.out HRK.out).below (below_drew (Below.refl _ _))⟩
          have HB2 : Aside0 (Below base wr W2) := ⟨by rw [← hW2]; exact below_drew ((((Below.refl base wr)).setCell (HT.out.rowblk.2.1) _).setCell (HT.out.rowblk.2.1) _)⟩
          clear hW2 hc0 hc1 hx hx1 hfa hfk HT HC
          have hlen2 : ((rows.set cols.length (rd_L1 rows cols.length)).set cols.length (rd_L1 rows cols.length)).length = rows.length := by simp
          have hrd : rd_L1 ((rows.set cols.length (rd_L1 rows cols.length)).set cols.length (rd_L1 rows cols.length)) (cols.length : Int) = rd_L1 rows (cols.length : Int) := rd_swap hlk
          generalize hr2 : ((rows.set cols.length (rd_L1 rows cols.length)).set cols.length (rd_L1 rows cols.length)) = r2 at HT2 hlen2 hrd
          obtain ⟨At, ct, hxt, hRt⟩ := HT2.out.rowR (cols.length : Int) hk0 (by rw [hlen2]; exact hk1)
          rw [hrd, Int.toNat_natCast] at hxt
          rw [hrd] at hRt
          obtain ⟨_, hlt2, hCt⟩ := Kd.R_reads' hRt
          have HCT := Aside0.mk hCt
          have HLT := Aside0.mk hlt2
          have hc12 := HT2.out.c1
          clear hRt hCt hlt2
          have hh := HH.out
          rw [table_leadTo, if_neg (by omega), hr2] at hh
          obtain ⟨⟨s1, s2⟩, hs, hh⟩ := Option.bind_eq_some_iff.mp hh
          have HS := Aside0.mk hs
          have HH2 := Aside0.mk hh
          have HLEN2 := Aside0.mk hlen2
          clear hs hh HH hr2 hrd hlen2
          go_wp2_with (fail)
          refine (vector_Prim.calls k At ct (rd_L1 rows (cols.length : Int)) s1 s2 _ HCT.out HLT.out HS.out).mono ?_
          rintro e3 w3 ⟨v3, rfl, hR, hb⟩
          obtain ⟨A3, c3, rfl, hl3, hC3⟩ := Kd.R_reads hR
          have HT3 := Aside0.mk (HT2.out.below hb)
          have HB3 : Aside0 (Below base wr w3) := ⟨HB2.out.trans (hb.mono HT2.out.le)⟩
          have hc13 := HT3.out.c1
          have hc03 := HT3.out.c0
          have HR3 := Aside0.mk (Kd.R_lower hR HT2.out.le)
          have hfk3 := HT3.out.frozen cols.length
          obtain ⟨At3, ct3, hxt3, _⟩ := HT3.out.rowR (cols.length : Int) hk0 (by rw [HLEN2.out]; exact hk1)
          rw [Int.toNat_natCast] at hxt3
          have HL3 := Aside0.mk hl3
          have HC3 := Aside0.mk hC3
          clear hR hb hl3 hC3 hxt hc12
          by_cases hs2 : s2 = 0
          · subst hs2
            have hh := HH2.out
            simp only [if_true] at hh
            by_cases hcl : 0 ≤ c ∧ c < (s1.length : Int)
            case neg => rw [if_neg hcl] at hh; cases hh
            rw [if_pos hcl] at hh
            obtain ⟨hcl0, hcl1⟩ := hcl
            obtain ⟨a3, ea3, hx3⟩ := Kd.at_int HC3.out c hcl0 hcl1
            cases ea3
            by_cases hneg : rd s1 c < 0
            · rw [if_pos hneg] at hh
              obtain ⟨⟨q1, q2⟩, hq, hh⟩ := Option.bind_eq_some_iff.mp hh
              have HQ := Aside0.mk hq
              have HH3 := Aside0.mk hh
              have hd3 : decide (rd s1 c < 0) = true := decide_eq_true hneg
              have HNEG := Aside0.mk hneg
              clear hh hq HH2 hneg
              go_wp2_with (fail)
              refine (vector_Scale.calls _ _ s1 _ q1 q2 _ HC3.out HL3.out HQ.out).mono ?_
              rintro e4 w4 ⟨v4, rfl, hR, hb⟩
              obtain ⟨A4, c4, rfl, hl4, hC4⟩ := Kd.R_reads hR
              have HT4 := Aside0.mk (HT3.out.below hb)
              have HB4 : Aside0 (Below base wr w4) := ⟨HB3.out.trans (hb.mono HT3.out.le)⟩
              have hc14 := HT4.out.c1
              have hc04 := HT4.out.c0
              have HR4 := Aside0.mk (Kd.R_lower hR HT3.out.le)
              have hfk4 := HT4.out.frozen cols.length
              obtain ⟨At4, ct4, hxt4, _⟩ := HT4.out.rowR (cols.length : Int) hk0 (by rw [HLEN2.out]; exact hk1)
              rw [Int.toNat_natCast] at hxt4
              clear hR hb hl4 hC4 hc13 hc03 hfk3 hxt3 hx3
              by_cases hq2 : q2 = 0
              · subst hq2
                have hh := HH3.out
                simp only [if_true] at hh
                cases hh
                go_wp2_with (fail)
                have hT5 := HT4.out.put (cols.length : Int) hk0 (by rw [HLEN2.out]; exact hk1) HR4.out (Nat.le_refl _)
                rw [Int.toNat_natCast] at hT5
                have HT5 := Aside0.mk hT5
                have HB5 := Aside0.mk (HB4.out.setCell HT4.out.rowblk.2.1 (Value.slice A4 q1.length c4) (p := ⟨gr, cols.length, none⟩))
                clear hT5 hc14 hc04 hfk4 hxt4
                refine (pivots_add.calls c base g cols _ _ _ _ HT5.out (by have := HR1.out; omega)).mono ?_
                rintro e6 w6 ⟨u6, cv6, rfl, hT6, hB6⟩
                have HT6 := Aside0.mk hT6
                have HB6 := Aside0.mk hB6
                clear hT6 hB6
                go_wp2
                try rw [Exit.noGoto_ret]
                go_ret2
                exact ⟨rfl, _, HT6.out, HB5.out.trans HB6.out⟩
              · have hh := HH3.out
                simp only [if_neg hq2] at hh
                have hq3 : (q2 == 0) = false := beq_eq_false_iff_ne.mpr hq2
                have hq4 : (q2 != 0) = true := bne_iff_ne.mpr hq2
                cases hh
                clear hq2 
                go_wp2
                try rw [Exit.noGoto_ret]
                go_ret2
                exact ⟨rfl, _, HT4.out, HB4.out⟩
            · rw [if_neg hneg] at hh
              cases hh
              have hd3 : decide (rd s1 c < 0) = false := decide_eq_false hneg
              clear hneg HH2
              go_wp2_with (fail)
              have hT5 := HT3.out.put (cols.length : Int) hk0 (by rw [HLEN2.out]; exact hk1) HR3.out (Nat.le_refl _)
              rw [Int.toNat_natCast] at hT5
              have HT5 := Aside0.mk hT5
              have HB5 := Aside0.mk (HB3.out.setCell HT3.out.rowblk.2.1 (Value.slice (some a3) s1.length c3) (p := ⟨gr, cols.length, none⟩))
              clear hT5 hc13 hc03 hfk3 hxt3 hx3
              refine (pivots_add.calls c base g cols _ _ _ _ HT5.out (by have := HR1.out; omega)).mono ?_
              rintro e6 w6 ⟨u6, cv6, rfl, hT6, hB6⟩
              have HT6 := Aside0.mk hT6
              have HB6 := Aside0.mk hB6
              clear hT6 hB6
              go_wp2
              try rw [Exit.noGoto_ret]
              go_ret2
              exact ⟨rfl, _, HT6.out, HB5.out.trans HB6.out⟩
          · have hh := HH2.out
            simp only [if_neg hs2] at hh
            have hs3 : (s2 == 0) = false := beq_eq_false_iff_ne.mpr hs2
            have hs4 : (s2 != 0) = true := bne_iff_ne.mpr hs2
            cases hh
            clear hs2
            go_wp2
            try rw [Exit.noGoto_ret]
            go_ret2
            exact ⟨rfl, _, HT3.out, HB3.out⟩
        · have hka1 : ¬ cols.length = a := fun h => hka h.symm
          go_wp2_with (fail)
          go_region
          generalize hW2 : (World.setCell _ _ _).drew = W2
          have HT2 : Aside0 (TB W2 base g cols ((rows.set cols.length (rd_L1 rows a)).set a (rd_L1 rows cols.length)) (.slice A cols.length cc) (.slice (some ⟨gr, 0, none⟩) rows.length cr)) := ⟨by rw [← hW2]; exact (HT.out.swap cols.length a hlk hlt HRA.out HRK.out).below (below_drew (Below.refl _ _))⟩
          have HB2 : Aside0 (Below base wr W2) := ⟨by rw [← hW2]; exact below_drew ((((Below.refl base wr)).setCell (HT.out.rowblk.2.1) _).setCell (HT.out.rowblk.2.1) _)⟩
          clear hW2 hc0 hc1 hx hx1 hxk hfa hfk HT HC
          have hlen2 : ((rows.set cols.length (rd_L1 rows a)).set a (rd_L1 rows cols.length)).length = rows.length := by simp
          have hrd : rd_L1 ((rows.set cols.length (rd_L1 rows a)).set a (rd_L1 rows cols.length)) (cols.length : Int) = rd_L1 rows (a : Int) := rd_swap hlk
          generalize hr2 : ((rows.set cols.length (rd_L1 rows a)).set a (rd_L1 rows cols.length)) = r2 at HT2 hlen2 hrd
          obtain ⟨At, ct, hxt, hRt⟩ := HT2.out.rowR (cols.length : Int) hk0 (by rw [hlen2]; exact hk1)
          rw [hrd, Int.toNat_natCast] at hxt
          rw [hrd] at hRt
          obtain ⟨_, hlt2, hCt⟩ := Kd.R_reads' hRt
          have HCT := Aside0.mk hCt
          have HLT := Aside0.mk hlt2
          have hc12 := HT2.out.c1
          clear hRt hCt hlt2
          have hh := HH.out
          rw [table_leadTo, if_neg (by omega), hr2] at hh
          obtain ⟨⟨s1, s2⟩, hs, hh⟩ := Option.bind_eq_some_iff.mp hh
          have HS := Aside0.mk hs
          have HH2 := Aside0.mk hh
          have HLEN2 := Aside0.mk hlen2
          clear hs hh HH hr2 hrd hlen2
          go_wp2_with (fail)
          refine (vector_Prim.calls k At ct (rd_L1 rows (a : Int)) s1 s2 _ HCT.out HLT.out HS.out).mono ?_
          rintro e3 w3 ⟨v3, rfl, hR, hb⟩
          obtain ⟨A3, c3, rfl, hl3, hC3⟩ := Kd.R_reads hR
          have HT3 := Aside0.mk (HT2.out.below hb)
          have HB3 : Aside0 (Below base wr w3) := ⟨HB2.out.trans (hb.mono HT2.out.le)⟩
          have hc13 := HT3.out.c1
          have hc03 := HT3.out.c0
          have HR3 := Aside0.mk (Kd.R_lower hR HT2.out.le)
          have hfk3 := HT3.out.frozen cols.length
          obtain ⟨At3, ct3, hxt3, _⟩ := HT3.out.rowR (cols.length : Int) hk0 (by rw [HLEN2.out]; exact hk1)
          rw [Int.toNat_natCast] at hxt3
          have HL3 := Aside0.mk hl3
          have HC3 := Aside0.mk hC3
          clear hR hb hl3 hC3 hxt hc12
          by_cases hs2 : s2 = 0
          · subst hs2
            have hh := HH2.out
            simp only [if_true] at hh
            by_cases hcl : 0 ≤ c ∧ c < (s1.length : Int)
            case neg => rw [if_neg hcl] at hh; cases hh
            rw [if_pos hcl] at hh
            obtain ⟨hcl0, hcl1⟩ := hcl
            obtain ⟨a3, ea3, hx3⟩ := Kd.at_int HC3.out c hcl0 hcl1
            cases ea3
            by_cases hneg : rd s1 c < 0
            · rw [if_pos hneg] at hh
              obtain ⟨⟨q1, q2⟩, hq, hh⟩ := Option.bind_eq_some_iff.mp hh
              have HQ := Aside0.mk hq
              have HH3 := Aside0.mk hh
              have hd3 : decide (rd s1 c < 0) = true := decide_eq_true hneg
              have HNEG := Aside0.mk hneg
              clear hh hq HH2 hneg
              go_wp2_with (fail)
              refine (vector_Scale.calls _ _ s1 _ q1 q2 _ HC3.out HL3.out HQ.out).mono ?_
              rintro e4 w4 ⟨v4, rfl, hR, hb⟩
              obtain ⟨A4, c4, rfl, hl4, hC4⟩ := Kd.R_reads hR
              have HT4 := Aside0.mk (HT3.out.below hb)
              have HB4 : Aside0 (Below base wr w4) := ⟨HB3.out.trans (hb.mono HT3.out.le)⟩
              have hc14 := HT4.out.c1
              have hc04 := HT4.out.c0
              have HR4 := Aside0.mk (Kd.R_lower hR HT3.out.le)
              have hfk4 := HT4.out.frozen cols.length
              obtain ⟨At4, ct4, hxt4, _⟩ := HT4.out.rowR (cols.length : Int) hk0 (by rw [HLEN2.out]; exact hk1)
              rw [Int.toNat_natCast] at hxt4
              clear hR hb hl4 hC4 hc13 hc03 hfk3 hxt3 hx3
              by_cases hq2 : q2 = 0
              · subst hq2
                have hh := HH3.out
                simp only [if_true] at hh
                cases hh
                go_wp2_with (fail)
                have hT5 := HT4.out.put (cols.length : Int) hk0 (by rw [HLEN2.out]; exact hk1) HR4.out (Nat.le_refl _)
                rw [Int.toNat_natCast] at hT5
                have HT5 := Aside0.mk hT5
                have HB5 := Aside0.mk (HB4.out.setCell HT4.out.rowblk.2.1 (Value.slice A4 q1.length c4) (p := ⟨gr, cols.length, none⟩))
                clear hT5 hc14 hc04 hfk4 hxt4
                refine (pivots_add.calls c base g cols _ _ _ _ HT5.out (by have := HR1.out; omega)).mono ?_
                rintro e6 w6 ⟨u6, cv6, rfl, hT6, hB6⟩
                have HT6 := Aside0.mk hT6
                have HB6 := Aside0.mk hB6
                clear hT6 hB6
                go_wp2
                try rw [Exit.noGoto_ret]
                go_ret2
                exact ⟨rfl, _, HT6.out, HB5.out.trans HB6.out⟩
              · have hh := HH3.out
                simp only [if_neg hq2] at hh
                have hq3 : (q2 == 0) = false := beq_eq_false_iff_ne.mpr hq2
                have hq4 : (q2 != 0) = true := bne_iff_ne.mpr hq2
                cases hh
                clear hq2 
                go_wp2
                try rw [Exit.noGoto_ret]
                go_ret2
                exact ⟨rfl, _, HT4.out, HB4.out⟩
            · rw [if_neg hneg] at hh
              cases hh
              have hd3 : decide (rd s1 c < 0) = false := decide_eq_false hneg
              clear hneg HH2
              go_wp2_with (fail)
              have hT5 := HT3.out.put (cols.length : Int) hk0 (by rw [HLEN2.out]; exact hk1) HR3.out (Nat.le_refl _)
              rw [Int.toNat_natCast] at hT5
              have HT5 := Aside0.mk hT5
              have HB5 := Aside0.mk (HB3.out.setCell HT3.out.rowblk.2.1 (Value.slice (some a3) s1.length c3) (p := ⟨gr, cols.length, none⟩))
              clear hT5 hc13 hc03 hfk3 hxt3 hx3
              refine (pivots_add.calls c base g cols _ _ _ _ HT5.out (by have := HR1.out; omega)).mono ?_
              rintro e6 w6 ⟨u6, cv6, rfl, hT6, hB6⟩
              have HT6 := Aside0.mk hT6
              have HB6 := Aside0.mk hB6
              clear hT6 hB6
              go_wp2
              try rw [Exit.noGoto_ret]
              go_ret2
              exact ⟨rfl, _, HT6.out, HB5.out.trans HB6.out⟩
          · have hh := HH2.out
            simp only [if_neg hs2] at hh
            have hs3 : (s2 == 0) = false := beq_eq_false_iff_ne.mpr hs2
            have hs4 : (s2 != 0) = true := bne_iff_ne.mpr hs2
            cases hh
            clear hs2
            go_wp2
            try rw [Exit.noGoto_ret]
            go_ret2
            exact ⟨rfl, _, HT3.out, HB3.out⟩
    · obtain rfl : a = rows.length := by omega
      have hal1 := hal.out
      rw [List.drop_of_length_le (Nat.le_refl _), table_leadAt] at hal1
      obtain rfl := Option.some.inj hal1
      have hh := HH.out
      rw [table_leadTo, if_pos rfl] at hh
      cases hh
      clear hal hal1 hlt
      go_wp2
      try rw [Exit.noGoto_ret]
      go_ret2
      exact ⟨rfl, _, HT.out, Below.refl _ _⟩
theorem tinfo33 : (Try.prog.info? 33).map (fun i => (i.zero, i.size, i.bytes)) = some (some (.slice none 0 0), 1, 24) := by kernel_rfl
theorem tinfo2 : (Try.prog.info? 2).map (fun i => (i.zero, i.size, i.bytes)) = some (some (.int .i64 0), 1, 8) := by kernel_rfl
theorem tinfo2s : (Try.prog.info? 2).map (·.size) = some 1 := by kernel_rfl
def red_clear (k : Nat) (p c : Int) : Nat → List (List Int) → Int → Option (List (List Int) × Int)
  | 0, rows, _ => some (rows, 0)
  | d + 1, rows, i => if i = p then red_clear k p c d rows (i + 1) else if 0 ≤ c ∧ c < ((rd_L1 rows i).length : Int) then (if rd (rd_L1 rows i) c = 0 then red_clear k p c d rows (i + 1) else
      (table_clear.f k rows i p c).bind fun r => if r.2 = 0 then red_clear k p c d r.1 (i + 1) else some r) else none
def red_cols (k : Nat) : Nat → List (List Int) → List Int → Int → Option ((List (List Int) × List Int) × Int)
  | 0, rows, cols, _ => some ((rows, cols), 0)
  | d + 1, rows, cols, c => if cols.length = rows.length then some ((rows, cols), 0) else
      (table_lead.f k rows cols c).bind fun r => if r.2.2 = 0 then (if r.2.1 = true then (red_clear k ((r.1.2.length : Int) - 1) c r.1.1.length r.1.1 0).bind fun s => if s.2 = 0 then red_cols k d s.1 r.1.2 (c + 1) else some ((s.1, r.1.2), s.2) else red_cols k d r.1.1 r.1.2 (c + 1)) else some (r.1, r.2.2)
def matrix_reduce.f (k : Nat) (a : List (List Int)) : Option ((List (List Int) × List Int) × Int) :=
  if 0 < a.length ∧ a.length ≤ 1000000 ∧ ∀ r ∈ a, r.length ≤ 1000000 then (red_cols k (rd_L1 a 0).length a [] 0).bind fun r => if r.2 = 0 then (if r.1.2.length ≤ r.1.1.length then some ((r.1.1.take r.1.2.length, r.1.2), 0) else none) else some (([], []), r.2) else none
theorem rd_L1_mem {l : List (List Int)} {i : Nat} (h : i < l.length) : rd_L1 l (i : Int) ∈ l := by
  have : rd_L1 l (i : Int) = l[i] := by simp [rd_L1, List.getD_eq_getElem?_getD, h]
  rw [this]
  exact List.getElem_mem h
theorem take_L1 {l : List (List Int)} {i : Nat} (h : i < l.length) : l.take (i + 1) = l.take i ++ [rd_L1 l (i : Int)] := by
  have : rd_L1 l (i : Int) = l[i] := by simp [rd_L1, List.getD_eq_getElem?_getD, h]
  rw [this, List.take_succ_eq_append_getElem h]
theorem table_clear_len {k : Nat} {rows rows' : List (List Int)} {i p c e : Int} (h : table_clear.f k rows i p c = some (rows', e)) : rows'.length = rows.length := by
  unfold table_clear.f at h
  split at h
  case isFalse => cases h
  obtain ⟨g, _, h⟩ := Option.bind_eq_some_iff.mp h
  split at h
  · cases h; rfl
  split at h
  · cases h; rfl
  split at h
  · cases h
  obtain ⟨r, _, h⟩ := Option.bind_eq_some_iff.mp h
  split at h
  · cases h; rfl
  obtain ⟨s, _, h⟩ := Option.bind_eq_some_iff.mp h
  cases h
  simp
theorem table_lead_len {k : Nat} {rows rows' : List (List Int)} {cols cols' : List Int} {c e : Int} {f : Bool} (h : table_lead.f k rows cols c = some ((rows', cols'), f, e)) : rows'.length = rows.length ∧ cols'.length ≤ rows.length + 1 ∧ (f = true → 0 < cols'.length) := by
  unfold table_lead.f at h
  split at h
  case isFalse => cases h
  rename_i h0
  obtain ⟨_, _, h01⟩ := h0
  refine ⟨?_, ?_, ?_⟩ <;> (
    obtain ⟨at1, _, h⟩ := Option.bind_eq_some_iff.mp h
    unfold table_leadTo at h
    split at h
    · cases h; (first | (simp; done) | (simp; omega) | omega)
    obtain ⟨s, _, h⟩ := Option.bind_eq_some_iff.mp h
    split at h
    · split at h
      · split at h
        · obtain ⟨q, _, h⟩ := Option.bind_eq_some_iff.mp h
          split at h
          · cases h; (first | (simp; done) | (simp; omega) | omega)
          · cases h; (first | (simp; done) | (simp; omega) | omega)
        · cases h; (first | (simp; done) | (simp; omega) | omega)
      · cases h
    · cases h; (first | (simp; done) | (simp; omega) | omega))
theorem TB.rowsTurn {w w1 : World} {base g : Nat} {cols : List Int} {rows rows' : List (List Int)} {cv : Value} {A : Option Addr} {n cc : Nat} {v1 : Value} (h : TB w base g cols rows cv (.slice A n cc)) (ho : Kd.R (Kd.slice 2 (Kd.int .i64)) 33 w1 base (fun _ => True) v1 rows')
    (hg : w.grownBy w1 (Value.slice A n cc).ownBlock) : TB (w1.setCell ⟨g, 1, none⟩ v1) base g cols rows' cv v1 := by
  have hne : some g ≠ (Value.slice A n cc).ownBlock := Kd.R_ne h.row h.blk (by decide)
  have hb1 : w1.heap[g]? = some (.cells #[cv, .slice A n cc] 48 (0, 0)) := (hg.block g h.lt hne).trans h.blk
  have hcol : Kd.R (Kd.int .i64) 3 w1 base (fun _ => True) cv cols := Kd.R_over' h.col (Kd.R_typed h.row) (by intro q hq; simp [Kd.int, Kd.scalar] at hq; omega) hg
  refine ⟨?_, h.bas, Kd.R_set hcol hb1 (by intro q hq; simp [Kd.int, Kd.scalar] at hq; omega) _ _, Kd.R_set ho hb1 (by intro q hq; simp [Kd.slice, Kd.int, Kd.scalar] at hq; omega) _ _⟩
  have := heap_setCell_same w1 g 1 _ _ v1 hb1
  rw [this]
  rfl
theorem copy_all (ys : List Int) : ys.take (min ys.length (List.replicate ys.length (0 : Int)).length) ++ (List.replicate ys.length (0 : Int)).drop (min ys.length (List.replicate ys.length (0 : Int)).length) = ys := by simp
theorem TB.cut {w : World} {base g : Nat} {cols : List Int} {rows : List (List Int)} {cv : Value} {A : Option Addr} {n cc : Nat} (h : TB w base g cols rows cv (.slice A n cc)) {m : Nat} (hm : m ≤ rows.length) :
    TB (w.setCell ⟨g, 1, none⟩ (.slice A m cc)) base g cols (rows.take m) cv (.slice A m cc) := by
  refine ⟨?_, h.bas, Kd.R_set h.col h.blk (by intro q hq; simp [Kd.int, Kd.scalar] at hq; omega) _ _, Kd.R_set (Kd.R_take h.row hm) h.blk (by intro q hq; simp [Kd.slice, Kd.int, Kd.scalar] at hq; omega) _ _⟩
  have := heap_setCell_same w g 1 _ _ (.slice A m cc) h.blk
  rw [this]
  rfl
theorem cut_run (A : Option Addr) (n c m : Nat) (hm : m ≤ n) (hc : n ≤ c) : ∀ W : World, (Instr.slice 22 (.slice A n c) none (some (.int .i64 (m : Int))) none).run Try.prog W = .ok (.slice A m c) W := by
  obtain ⟨i0, hi, hz⟩ := Option.map_eq_some_iff.1 tinfo33
  simp only [Prod.mk.injEq] at hz
  have := (print_take_int (k := .i64) 22 33 Try.underlying22 hi hz.2.1 A c (List.replicate n 0) (m : Int) (by omega) (by simp; omega) (by simp; omega)).1
  intro W
  have h1 := this W
  simp only [List.length_replicate, Int.toNat_natCast, List.length_take, Nat.min_eq_left hm] at h1
  exact h1
theorem TB.start (w : World) : TB (w.alloc (.cells #[.slice none 0 0, .slice none 0 0] 48)) w.heap.size w.heap.size [] [] (.slice none 0 0) (.slice none 0 0) :=
  ⟨heap_alloc_new w _, Nat.le_refl _, Kd.R_nil _ _ _ _ _, Kd.R_nil _ _ _ _ _⟩
set_option maxHeartbeats 8000000 in
set_option maxRecDepth 100000 in
theorem matrix_reduce.calls (k : Nat) (A0 : Option Addr) (c0 : Nat) (l0 : List (List Int)) (rows' : List (List Int)) (cols' : List Int) (e : Int) (w : World) (hr0 : Kd.C (Kd.slice 2 (Kd.int .i64)) w A0 l0.length l0) (hc0 : l0.length ≤ c0) (h : matrix_reduce.f k l0 = some ((rows', cols'), e)) :
    Calls Try.prog 26 #[.slice A0 l0.length c0] w fun e' w' => ∃ p, e' = .returned (.tuple #[p, .int .i64 e]) ∧ Below w.heap.size w w' ∧ (e = 0 → ∃ cv rv, p = .pointer (some ⟨w.heap.size, 0, none⟩) ∧ TB w' w.heap.size w.heap.size cols' rows' cv rv) := by
  unfold matrix_reduce.f at h
  split at h
  case isFalse => cases h
  rename_i hb
  obtain ⟨hr0', hr1, hrl⟩ := hb
  obtain ⟨⟨⟨rows1, cols1⟩, e1⟩, hgo, h⟩ := Option.bind_eq_some_iff.mp h
  obtain ⟨ad0, A1, c1, ead, hx0, hl0, hin0⟩ := at_L1 hr0 0 (by omega) (by omega)
  cases ead
  rw [show ((0 : Int)).toNat = 0 from rfl, Addr.add_zero'] at hx0
  have HR := Aside0.mk hr0
  have HC := Aside0.mk hc0
  have HGO := Aside0.mk hgo
  have HH := Aside0.mk h
  have HRL := Aside0.mk hrl
  have HR1 := Aside0.mk hr1
  have HX0 := Aside0.mk hx0
  have hlen0 : (0 : Int) < (l0.length : Int) := by omega
  clear hr0 hc0 hgo h hrl hr1 hl0 hin0 hx0
  go_enter Try.func26, Try.ntmps26
  go_wp2
  go_step3
  go_wp2
  go_loopw [18] (fun s18 W => ∃ (i : Nat) (cv rv : Value), i ≤ l0.length ∧ s18 = .int .i64 (i : Int) ∧ Aside0 (TB W w.heap.size w.heap.size [] (l0.take i) cv rv) ∧ Aside0 (Below w.heap.size w W)) (fun s18 _ => l0.length - (intOf s18).toNat)
  case atStart => exact ⟨0, _, _, Nat.zero_le _, rfl, ⟨TB.start w⟩, ⟨below_alloc (Below.refl _ _) _⟩⟩
  case round =>
    obtain ⟨i, cv, rv, hi, rfl, HT, HB⟩ := hrel
    by_cases hlt : i < l0.length
    · have hlt1 : (i : Int) < (l0.length : Int) := by omega
      have hd1 : decide ((i : Int) < (l0.length : Int)) = true := decide_eq_true hlt1
      obtain ⟨ad, Ai, ci, ead, hx, hl, hin⟩ := at_L1 HR.out (i : Int) (by omega) hlt1
      cases ead
      rw [Int.toNat_natCast] at hx
      have hbx := World.block_lt_of_cell? _ _ hx
      replace hx := (HB.out.cell hbx).trans hx
      have hrow : (rd_L1 l0 (i : Int)).length ≤ 1000000 := HRL.out _ (rd_L1_mem hlt)
      have HROW := Aside0.mk hrow
      have HIN := Aside0.mk hin
      have HL := Aside0.mk hl
      have hTs : l0.take (i + 1) = l0.take i ++ [rd_L1 l0 (i : Int)] := take_L1 hlt
      have HTS := Aside0.mk hTs
      have hR1 := HR1.out
      obtain ⟨Ar, cr, rfl⟩ := Kd.R_slice HT.out.row
      have hcell := HT.out.c1
      have hgl : w.heap.size < wr.heap.size := HT.out.lt
      have hle : 0 ≤ ((rd_L1 l0 (i : Int)).length : Int) := by omega
      have hlti : (l0.take i).length = i := by simp; omega
      rw [hlti] at hcell
      have HLTI := Aside0.mk hlti
      clear hin hl hTs hbx hrow hlti
      go_wp2_with (first
        | ((with_reducible refine gate_dst (N := 24) rfl ?_); refine Kd.R_make (Kd.int .i64) (w0 := w) w.heap.size 2 rfl (N := 24) rfl 33 _ _ rfl ((rd_L1 l0 (i : Int)).length : Int) rfl rfl Try.underlying33 (.int .i64 0) 8 tinfo2 rfl (by decide) (by omega) 0 (ok := fun _ => True) (okp := fun _ => True) rfl (fun _ hk => hk) trivial (by omega) (by have := HROW.out; simp; omega) HB.out HB.out.size ?_; intro v1 w1 ho1 hb1 hg1 hat1;
           simp only [Int.toNat_natCast] at ho1; obtain ⟨A1v, c1v, rfl⟩ := Kd.R_slice ho1; rw [List.length_replicate] at ho1 hat1; have HO1 := Aside0.mk ho1; have HB1 := Aside0.mk hb1; have HAT1 := Aside0.mk hat1; have HBW1 := Aside0.mk (Below.grown (Below.refl wr.heap.size wr) hg1 (Nat.le_refl _) (by intro k hk; cases hk)); clear hcell ho1 hb1 hg1 hat1)
        | ((with_reducible refine gate_builtin (b := .copy) (xs := #[.tmp 25, .tmp 26]) rfl ?_); refine Kd.R_copy (0 : Int) (w0 := w) w.heap.size rfl (.tmp 25) (.tmp 26) 33 33 2 rfl Try.underlying33 tinfo2s (.slice A1v (rd_L1 l0 (i : Int)).length c1v) (List.replicate (rd_L1 l0 (i : Int)).length 0) (rd_L1 l0 (i : Int)) Ai _ ci (fun _ => True) rfl rfl HO1.out (Kd.C_below HIN.out HB1.out) HB1.out HB1.out.size ?_; intro w2 ho2 hb2 hg2;
           have HBW2 := Aside0.mk (HBW1.out.grown hg2 HBW1.out.size (by intro k hk; obtain ⟨b, e1, e2⟩ := HAT1.out; rw [e1] at hk; cases hk; exact e2)); have HT2 := Aside0.mk (HT.out.below HBW2.out); have HO2 : Aside0 (Kd.R (Kd.int .i64) 2 w2 w.heap.size (fun _ => True) (.slice A1v (rd_L1 l0 (i : Int)).length c1v) (rd_L1 l0 (i : Int))) := ⟨by rw [copy_all] at ho2; exact ho2⟩; have HB2 := Aside0.mk hb2; have hcell2 := HT2.out.c1; rw [HLTI.out] at hcell2; clear ho2 hb2 hg2)
        | ((with_reducible refine gate_builtin (b := .append) (xs := #[.tmp 32, .tmp 34]) rfl ?_); at_builtin; refine Kd.R_append (Kd.slice 2 (Kd.int .i64)) (w0 := w) w.heap.size rfl (.tmp 32) (.tmp 34) 22 33 (.slice none 0 0) 24 rfl Try.underlying22 tinfo33 rfl (by decide) (by omega) (.slice Ar i cr) (l0.take i) (rd_L1 l0 (i : Int)) [.slice A1v (rd_L1 l0 (i : Int)).length c1v] (fun _ => True) (fun k => True ∧ some k ≠ (Value.slice Ar i cr).ownBlock) rfl rfl ?aP (fun _ hk => hk) ?aF ?aO ?aB ?aS ?aL ?_; (case aP => exact ⟨_, rfl, Kd.R_apart' HO2.out (by have := Kd.R_typed HT2.out.row; rw [HLTI.out] at this; exact this) (by intro q hq; simp [Kd.int, Kd.scalar] at hq; omega)⟩); (case aB => exact HB2.out); (case aF => exact (fun _ _ => trivial)); (case aO => have := HT2.out.row; rw [HLTI.out] at this; exact this); (case aS => exact HB2.out.size); (case aL => rw [HLTI.out]; omega);
           intro v3 w3 ho hb hg hat; obtain ⟨A3, c3, rfl⟩ := Kd.R_slice ho; have hb3 : w3.heap[w.heap.size]? = some (.cells #[cv, .slice Ar i cr] 48 (0, 0)) := (by have h9 := (hg.block w.heap.size HT2.out.lt (by have h8 := Kd.R_ne HT2.out.row HT2.out.blk (by decide); rw [HLTI.out] at h8; exact h8)).trans HT2.out.blk; rw [HLTI.out] at h9; exact h9); have hx3 : w3.cell? ⟨w.heap.size, 1, none⟩ = some (.slice Ar i cr) := (by rw [cell_of_row w3 _ _ _ 48 (0, 0) hb3]; rfl); have hfz : w3.frozen? ⟨w.heap.size, 1, none⟩ = false := blk_frozen hb3 _; have HO := Aside0.mk ho; have HB3 := Aside0.mk hb; have HGR := Aside0.mk hg; clear ho hb hg hat hb3 hcell2))
      go_roundw
      case measure => simp [intOf]; omega
      case rel =>
        have hT3 := TB.rowsTurn (A := Ar) (n := i) (cc := cr) (w := w2) (by have := HT2.out; rw [HLTI.out] at this; exact this) HO.out HGR.out
        rw [← HTS.out] at hT3
        have hl4 : (l0.take (i + 1)).length = i + 1 := by simp; omega
        rw [hl4] at hT3
        exact ⟨i + 1, cv, _, by omega, by go_num, ⟨hT3⟩, ⟨HB3.out.setCell (Nat.le_refl _) _⟩⟩
    · obtain rfl : i = l0.length := by omega
      have hT := HT.out
      rw [List.take_length] at hT
      have HT0 := Aside0.mk hT
      have hx0 := HX0.out
      replace hx0 := (HB.out.cell (World.block_lt_of_cell? _ _ hx0)).trans hx0
      have hz0 : (0 : Int) ≤ 0 := Int.le_refl _
      clear hT HT hlt
      go_wp2
      go_step3
      go_wp2
      clear hx0 hz0
      go_loopw [43] (fun s43 W => ∃ (c : Nat) (rows : List (List Int)) (cols : List Int) (cv rv : Value), c ≤ (rd_L1 l0 0).length ∧ s43 = .int .i64 (c : Int) ∧ Aside0 (rows.length = l0.length) ∧ Aside0 (red_cols k ((rd_L1 l0 0).length - c) rows cols (c : Int) = some ((rows1, cols1), e1)) ∧ Aside0 (TB W w.heap.size w.heap.size cols rows cv rv) ∧ Aside0 (Below w.heap.size w W)) (fun s43 _ => (rd_L1 l0 0).length - (intOf s43).toNat)
      case atStart => exact ⟨0, l0, [], _, _, Nat.zero_le _, rfl, ⟨rfl⟩, HGO, HT0, HB⟩
      case round =>
        clear HT0 HB
        obtain ⟨c, rows, cols, cv, rv, hc, rfl, HLN, HGO, HT, HB⟩ := hrel
        obtain ⟨Ac, cc, rfl⟩ := Kd.R_slice HT.out.col
        obtain ⟨Ar, cr, rfl⟩ := Kd.R_slice HT.out.row
        have hc0 := HT.out.c0
        have hc1 := HT.out.c1
        by_cases hlt : c < (rd_L1 l0 0).length
        · have hlt1 : (c : Int) < ((rd_L1 l0 0).length : Int) := by omega
          have hd1 : decide ((c : Int) < ((rd_L1 l0 0).length : Int)) = true := decide_eq_true hlt1
          have hgo := HGO.out
          rw [show (rd_L1 l0 0).length - c = ((rd_L1 l0 0).length - (c + 1)) + 1 by omega, red_cols] at hgo
          by_cases hfull : cols.length = rows.length
          · rw [if_pos hfull] at hgo
            have hf1 : ((cols.length : Int) == (rows.length : Int)) = true := beq_iff_eq.mpr (by omega)
            have HFULL := Aside0.mk hfull
            clear hfull
            cases hgo
            go_wp2
            go_quiet ((go_at_call 27; refine Calls.quiet_of_same (pivots_rank.calls w.heap.size Ac _ cc _ hc0)))
            go_wp2
            generalize hwq : World.drewN _ _ = wq
            have hTq : TB wq w.heap.size w.heap.size cols1 rows1 (.slice Ac cols1.length cc) (.slice Ar rows1.length cr) := by rw [← hwq]; exact HT.out.below (pw_below_drewN (Below.refl _ _) _)
            have hBq : Below w.heap.size w wq := by rw [← hwq]; exact pw_below_drewN HB.out _
            have HTQ := Aside0.mk hTq
            have HBQ := Aside0.mk hBq
            have hq0 := hTq.c0
            have hq1 := hTq.c1
            have hqf : wq.frozen? ⟨w.heap.size, 1, none⟩ = false := blk_frozen hTq.blk _
            have hH := HH.out
            simp only [if_true] at hH
            have hle2 : cols1.length ≤ rows1.length := by rw [HFULL.out]; exact Nat.le_refl _
            have hsl := cut_run Ar rows1.length cr cols1.length hle2 (Kd.R_reads' hTq.row).2.1
            rw [if_pos hle2] at hH
            cases hH
            have HLE := Aside0.mk hle2
            clear hwq hTq hBq hc0 hc1 HT HB HGO hle2
            go_region_with ((go_at_call 27; refine (pivots_rank.calls w.heap.size Ac _ cc _ (by assumption)).mono ?_; rintro e5 w5 ⟨rfl, rfl⟩))
            all_goals go_wp2
            all_goals (try rw [Exit.noGoto_ret])
            all_goals go_ret2
            all_goals exact ⟨_, rfl, below_drew (HBQ.out.setCell (Nat.le_refl _) _), fun _ => ⟨_, _, rfl, (HTQ.out.cut HLE.out).below (below_drew (Below.refl _ _))⟩⟩
          · rw [if_neg hfull] at hgo
            have hf1 : ((cols.length : Int) == (rows.length : Int)) = false := beq_eq_false_iff_ne.mpr (by omega)
            obtain ⟨⟨⟨rows2, cols2⟩, found, e2⟩, hlead, hgo⟩ := Option.bind_eq_some_iff.mp hgo
            have HLEAD := Aside0.mk hlead
            obtain ⟨hln2, hpos2, hcp2⟩ := table_lead_len hlead
            have HLN2 : Aside0 (rows2.length = l0.length) := ⟨by rw [hln2]; exact HLN.out⟩
            have HGO2 := Aside0.mk hgo
            have HCP := Aside0.mk hcp2
            have HPOS := Aside0.mk hpos2
            clear hfull hgo hlead hln2 hpos2 hcp2
            go_wp2
            go_quiet ((go_at_call 27; refine Calls.quiet_of_same (pivots_rank.calls w.heap.size Ac _ cc _ hc0)))
            go_wp2_with (fail)
            refine (table_lead.calls k (c : Int) w.heap.size w.heap.size cols rows _ _ rows2 cols2 found e2 _ (HT.out.below (pw_below_drewN (Below.refl _ _) _)) HLEAD.out).mono ?_
            rintro e3 w3 ⟨rfl, cv3, hT3, hB3⟩
            obtain ⟨Ac3, cc3, rfl⟩ := Kd.R_slice hT3.col
            have HT3 := Aside0.mk hT3
            have HB3 : Aside0 (Below w.heap.size w w3) := ⟨(pw_below_drewN HB.out _).trans hB3⟩
            have hc03 := hT3.c0
            have hc13 := hT3.c1
            clear hT3 hB3 hc0 hc1 HT HB HGO HLEAD
            by_cases he2 : e2 = 0
            · subst he2
              cases found
              · have hgo : red_cols k ((rd_L1 l0 0).length - (c + 1)) rows2 cols2 ((c : Int) + 1) = some ((rows1, cols1), e1) := by simpa using HGO2.out
                have HG := Aside0.mk hgo
                clear hgo HGO2
                have hlenb : (rd_L1 l0 0).length ≤ 1000000 := HRL.out _ (rd_L1_mem (i := 0) (by omega))
                go_wp2
                go_roundw
                case measure => simp [intOf]; omega
                case rel => exact ⟨c + 1, rows2, cols2, _, _, by omega, by go_num, HLN2, ⟨by rw [show ((c + 1 : Nat) : Int) = (c : Int) + 1 by omega]; exact HG.out⟩, HT3, HB3⟩
              · obtain ⟨⟨rows3, e3⟩, hcl, hgo⟩ : ∃ q, red_clear k ((cols2.length : Int) - 1) c rows2.length rows2 0 = some q ∧ (if q.2 = 0 then red_cols k ((rd_L1 l0 0).length - (c + 1)) q.1 cols2 ((c : Int) + 1) else some ((q.1, cols2), q.2)) = some ((rows1, cols1), e1) := by
                  have := HGO2.out
                  simp only [if_true] at this
                  exact Option.bind_eq_some_iff.mp this
                have HCL := Aside0.mk hcl
                have HG := Aside0.mk hgo
                have hcp := HCP.out rfl
                have hub : cols2.length ≤ 1000001 := by have := HPOS.out; have := HLN.out; have := HR1.out; omega
                have hln2 : rows2.length ≤ 1000000 := by have := HLN2.out; have := HR1.out; omega
                clear hgo hcl HGO2
                go_wp2_with (fail)
                refine (pivots_rank.calls w.heap.size Ac3 _ cc3 _ hc03).mono ?_
                rintro e5 w5 ⟨rfl, hw⟩
                have hw := hw.symm
                subst hw
                obtain ⟨Ar3, cr3, hrv3⟩ := Kd.R_slice HT3.out.row
                rw [hrv3] at hc13
                go_wp2
                clear hc03 hc13 hf1 hd1
                go_loopw [77] (fun s77 W => ∃ (i : Nat) (rowsq : List (List Int)) (cvq rvq : Value), i ≤ rows2.length ∧ s77 = .int .i64 (i : Int) ∧ Aside0 (rowsq.length = rows2.length) ∧ Aside0 (red_clear k ((cols2.length : Int) - 1) c (rows2.length - i) rowsq (i : Int) = some (rows3, e3)) ∧ Aside0 (TB W w.heap.size w.heap.size cols2 rowsq cvq rvq) ∧ Aside0 (Below w.heap.size w W)) (fun s77 _ => rows2.length - (intOf s77).toNat)
                case atStart => exact ⟨0, rows2, _, _, Nat.zero_le _, rfl, ⟨rfl⟩, HCL, HT3, HB3⟩
                case round =>
                  clear HT3 HB3 HCL hrv3
                  obtain ⟨i, rowsq, cvq, rvq, hi, rfl, HLQ, HCQ, HTQ, HBQ⟩ := hrel
                  by_cases hit : i < rows2.length
                  · have hit1 : (i : Int) < (rows2.length : Int) := by omega
                    have hdi : decide ((i : Int) < (rows2.length : Int)) = true := decide_eq_true hit1
                    have hcq := HCQ.out
                    rw [show rows2.length - i = (rows2.length - (i + 1)) + 1 by omega, red_clear] at hcq
                    have hlq : rowsq.length = rows2.length := HLQ.out
                    by_cases hip : (i : Int) = (cols2.length : Int) - 1
                    · rw [if_pos hip] at hcq
                      have hip1 : ((i : Int) == (cols2.length : Int) - 1) = true := beq_iff_eq.mpr hip
                      have HCQ2 := Aside0.mk hcq
                      clear hcq HCQ hip
                      go_wp2
                      go_roundw
                      case measure => simp [intOf]; omega
                      case rel => exact ⟨i + 1, rowsq, _, _, by omega, by go_num, HLQ, ⟨by rw [show ((i + 1 : Nat) : Int) = (i : Int) + 1 by omega]; exact HCQ2.out⟩, HTQ, HBQ⟩
                    · rw [if_neg hip] at hcq
                      have hip1 : ((i : Int) == (cols2.length : Int) - 1) = false := beq_eq_false_iff_ne.mpr hip
                      by_cases hcc : 0 ≤ (c : Int) ∧ (c : Int) < ((rd_L1 rowsq (i : Int)).length : Int)
                      case neg => rw [if_neg hcc] at hcq; cases hcq
                      rw [if_pos hcc] at hcq
                      obtain ⟨hcc0, hcc1⟩ := hcc
                      obtain ⟨grq, crq, rfl, _, _, _⟩ := Kd.R_form HTQ.out.row (by omega)
                      obtain ⟨_, _, hCq⟩ := Kd.R_reads' HTQ.out.row
                      have hq1 := HTQ.out.c1
                      obtain ⟨ad, Aa, ca, ead, hx, hl, hin⟩ := at_L1 hCq (i : Int) (by omega) (by omega)
                      cases ead
                      (first | simp only [add_plain] at hx | simp only [add_at] at hx | simp only [Addr.add, Nat.zero_add] at hx)
                      rw [Int.toNat_natCast] at hx
                      obtain ⟨a1, ea1, hx1⟩ := Kd.at_int hin (c : Int) hcc0 hcc1
                      cases ea1
                      rw [Int.toNat_natCast] at hx1
                      have hiq : (i : Int) < (rowsq.length : Int) := by omega
                      by_cases hz : rd (rd_L1 rowsq (i : Int)) (c : Int) = 0
                      · rw [if_pos hz] at hcq
                        have hz1 : (rd (rd_L1 rowsq (i : Int)) (c : Int) == 0) = true := beq_iff_eq.mpr hz
                        have HCQ2 := Aside0.mk hcq
                        clear hcq HCQ hip hz hl hin hCq
                        go_wp2
                        go_roundw
                        case measure => simp [intOf]; omega
                        case rel => exact ⟨i + 1, rowsq, _, _, by omega, by go_num, HLQ, ⟨by rw [show ((i + 1 : Nat) : Int) = (i : Int) + 1 by omega]; exact HCQ2.out⟩, HTQ, HBQ⟩
                      · rw [if_neg hz] at hcq
                        have hz1 : (rd (rd_L1 rowsq (i : Int)) (c : Int) == 0) = false := beq_eq_false_iff_ne.mpr hz
                        obtain ⟨⟨rows5, e5⟩, hclr, hcq⟩ := Option.bind_eq_some_iff.mp hcq
                        have HCLR := Aside0.mk hclr
                        have HCQ2 := Aside0.mk hcq
                        have HL5 : Aside0 (rows5.length = rows2.length) := ⟨by rw [table_clear_len hclr]; exact hlq⟩
                        clear hcq HCQ hip hz hl hin hCq hclr
                        go_wp2_with (fail)
                        refine (table_clear.calls k (i : Int) ((cols2.length : Int) - 1) (c : Int) w.heap.size w.heap.size cols2 rowsq _ _ rows5 e5 _ HTQ.out HCLR.out).mono ?_
                        rintro e7 w7 ⟨rfl, hT7, hB7⟩
                        have HT7 := Aside0.mk hT7
                        have HB7 : Aside0 (Below w.heap.size w w7) := ⟨HBQ.out.trans hB7⟩
                        clear hT7 hB7 HTQ HBQ hx hx1 hq1
                        by_cases he5 : e5 = 0
                        · subst he5
                          have HCQ3 : Aside0 (red_clear k ((cols2.length : Int) - 1) c (rows2.length - (i + 1)) rows5 ((i : Int) + 1) = some (rows3, e3)) := ⟨by simpa using HCQ2.out⟩
                          clear HCQ2
                          go_wp2
                          go_roundw
                          case measure => simp [intOf]; omega
                          case rel => exact ⟨i + 1, rows5, _, _, by omega, by go_num, HL5, ⟨by rw [show ((i + 1 : Nat) : Int) = (i : Int) + 1 by omega]; exact HCQ3.out⟩, HT7, HB7⟩
                        · have he6 : (e5 == 0) = false := beq_eq_false_iff_ne.mpr he5
                          have he7 : (e5 != 0) = true := bne_iff_ne.mpr he5
                          have hH := HH.out
                          have hcq := HCQ2.out
                          rw [if_neg he5] at hcq
                          have hg := HG.out
                          cases hcq
                          rw [if_neg he5] at hg
                          cases hg
                          rw [if_neg he5] at hH
                          cases hH
                          clear HCQ2 HG HH
                          go_wp2
                          try rw [Exit.noGoto_ret]
                          go_ret2
                          exact ⟨_, rfl, HB7.out, fun h0 => absurd h0 he5⟩
                  · obtain rfl : i = rows2.length := by omega
                    have hcq := HCQ.out
                    rw [Nat.sub_self, red_clear] at hcq
                    cases hcq
                    have HG2 : Aside0 (red_cols k ((rd_L1 l0 0).length - (c + 1)) rows3 cols2 ((c : Int) + 1) = some ((rows1, cols1), e1)) := ⟨by simpa using HG.out⟩
                    have hlenb : (rd_L1 l0 0).length ≤ 1000000 := HRL.out _ (rd_L1_mem (i := 0) (by omega))
                    have HLQ2 : Aside0 (rows3.length = l0.length) := ⟨by have := HLQ.out; have := HLN2.out; omega⟩
                    clear HCQ HG hit
                    go_wp2
                    go_roundw
                    case measure => simp [intOf]; omega
                    case rel => exact ⟨c + 1, rows3, cols2, _, _, by omega, by go_num, HLQ2, ⟨by rw [show ((c + 1 : Nat) : Int) = (c : Int) + 1 by omega]; exact HG2.out⟩, HTQ, HBQ⟩
            · have hgo := HGO2.out
              rw [if_neg he2] at hgo
              have he3 : (e2 == 0) = false := beq_eq_false_iff_ne.mpr he2
              have he4 : (e2 != 0) = true := bne_iff_ne.mpr he2
              have hH := HH.out
              clear HGO2 
              cases hgo
              rw [if_neg he2] at hH
              cases hH
              go_wp2
              try rw [Exit.noGoto_ret]
              go_ret2
              exact ⟨_, rfl, HB3.out, fun h0 => absurd h0 he2⟩
        · have hce : c = (rd_L1 l0 0).length := by omega
          subst hce
          have hgo := HGO.out
          rw [Nat.sub_self, red_cols] at hgo
          cases hgo
          have hH := HH.out
          simp only [if_true] at hH
          by_cases hle2 : cols1.length ≤ rows1.length
          case neg => rw [if_neg hle2] at hH; cases hH
          have HLE := Aside0.mk hle2
          have hsl := cut_run Ar rows1.length cr cols1.length hle2 (Kd.R_reads' HT.out.row).2.1
          have hqf : wr.frozen? ⟨w.heap.size, 1, none⟩ = false := blk_frozen HT.out.blk _
          rw [if_pos hle2] at hH
          cases hH
          clear HGO hle2 hlt
          go_wp2
          go_region_with ((go_at_call 27; refine (pivots_rank.calls w.heap.size Ac _ cc _ (by assumption)).mono ?_; rintro e5 w5 ⟨rfl, rfl⟩))
          all_goals go_wp2
          all_goals (try rw [Exit.noGoto_ret])
          all_goals go_ret2
          all_goals exact ⟨_, rfl, below_drew (HB.out.setCell (Nat.le_refl _) _), fun _ => ⟨_, _, rfl, (HT.out.cut HLE.out).below (below_drew (Below.refl _ _))⟩⟩
theorem table_clear.mono (rows : List (List Int)) (i p c : Int) (k : Nat) : LeO (table_clear.f k rows i p c) (table_clear.f (k + 1) rows i p c) := by
  unfold table_clear.f
  refine LeO.ite ?_ (LeO.none _)
  refine LeO.bind (LeO.refl _) (fun g => LeO.ite (LeO.refl _) (LeO.ite (LeO.refl _) (LeO.ite (LeO.none _) (LeO.bind (LeO.refl _) (fun r => LeO.ite (LeO.refl _) (LeO.bind (vector_Prim.mono _ _) (fun _ => LeO.refl _)))))))
theorem table_lead.mono (rows : List (List Int)) (cols : List Int) (c : Int) (k : Nat) : LeO (table_lead.f k rows cols c) (table_lead.f (k + 1) rows cols c) := by
  unfold table_lead.f table_leadTo
  refine LeO.ite (LeO.bind (LeO.refl _) (fun a => LeO.ite (LeO.refl _) (LeO.bind (vector_Prim.mono _ _) (fun _ => LeO.refl _)))) (LeO.none _)
theorem red_clear.mono (p c : Int) (k : Nat) : ∀ (d : Nat) (rows : List (List Int)) (i : Int), LeO (red_clear k p c d rows i) (red_clear (k + 1) p c d rows i)
  | 0, _, _ => LeO.refl _
  | d + 1, rows, i => by
    rw [red_clear, red_clear]
    exact LeO.ite (red_clear.mono p c k d _ _) (LeO.ite (LeO.ite (red_clear.mono p c k d _ _) (LeO.bind (table_clear.mono _ _ _ _ _) (fun r => LeO.ite (red_clear.mono p c k d _ _) (LeO.refl _)))) (LeO.none _))
theorem red_cols.mono (k : Nat) : ∀ (d : Nat) (rows : List (List Int)) (cols : List Int) (c : Int), LeO (red_cols k d rows cols c) (red_cols (k + 1) d rows cols c)
  | 0, _, _, _ => LeO.refl _
  | d + 1, rows, cols, c => by
    rw [red_cols, red_cols]
    exact LeO.ite (LeO.refl _) (LeO.bind (table_lead.mono _ _ _ _) (fun r => LeO.ite (LeO.ite (LeO.bind (red_clear.mono _ _ k _ _ _) (fun s => LeO.ite (red_cols.mono k d _ _ _) (LeO.refl _))) (red_cols.mono k d _ _ _)) (LeO.refl _)))
theorem matrix_reduce.mono (a : List (List Int)) (k : Nat) : LeO (matrix_reduce.f k a) (matrix_reduce.f (k + 1) a) := by
  unfold matrix_reduce.f
  exact LeO.ite (LeO.bind (red_cols.mono k _ _ _ _) (fun _ => LeO.refl _)) (LeO.none _)
theorem reduce_bad {k : Nat} {a : List (List Int)} {rows : List (List Int)} {cols : List Int} {e : Int} (h : matrix_reduce.f k a = some ((rows, cols), e)) (he : e ≠ 0) : rows = [] ∧ cols = [] := by
  unfold matrix_reduce.f at h
  split at h
  case isFalse => cases h
  obtain ⟨r, _, h⟩ := Option.bind_eq_some_iff.mp h
  split at h
  · split at h
    · cases h; exact absurd rfl he
    · cases h
  · cases h; exact ⟨rfl, rfl⟩

end Go.Proofs.Ytckefohfahphpaa.Z
end
