/- Plain lemmas on numbers and lists for this seat's statements. -/
import Derived.Test.YtojpjknjoikdgaaVb
import Derived.Test.YtojpjknjoikdgaaZx1
import Derived.Test.YtojpjknjoikdgaaZx16
import Derived.Test.YtojpjknjoikdgaaZx19
import Derived.Test.YtojpjknjoikdgaaZx4
import Derived.Test.YtojpjknjoikdgaaZx5
import Derived.Test.YtojpjknjoikdgaaZx6
import Derived.Test.YtojpjknjoikdgaaZx7
namespace Go.Proofs.Ytojpjknjoikdgaa.Z
open Go.RowKit Go.Proofs.YtojpjknjoikdgaaW.PrintWords Go.Proofs.YtojpjknjoikdgaaW.PrintLast Go.Proofs.YtojpjknjoikdgaaW.PrintMore
set_option linter.unusedVariables false
set_option linter.unusedSimpArgs false
/-- No element is greater. -/
def leqG : List Int → List Int → Bool
  | x :: a, y :: b => if x > y then false else leqG a b
  | _, _ => true
theorem vleq_l0 {a b : List Int} (hl : a.length ≤ 1000000) (he : a.length = b.length) :
    ∀ (d n : Nat) (j : Int), 0 ≤ j → (a.length : Int) - j = d → d + 2 ≤ n → vector_Leq.l0 n b a (a.length : Int) j = some (leqG (a.drop j.toNat) (b.drop j.toNat)) := by
  intro d
  induction d with
  | zero =>
    intro n j h0 hd hn
    obtain ⟨n, rfl⟩ : ∃ m, n = m + 1 := ⟨n - 1, by omega⟩
    simp only [vector_Leq.l0]
    rw [if_neg (by omega), drop_end (by omega)]
    simp [leqG]
  | succ d ih =>
    intro n j h0 hd hn
    obtain ⟨n, rfl⟩ : ∃ m, n = m + 1 + 1 := ⟨n - 2, by omega⟩
    have h1 : j < (a.length : Int) := by omega
    have h2 : j < (b.length : Int) := by omega
    rw [vector_Leq.l0, if_pos h1, if_pos h0, if_pos h1, if_pos h2, drop_rd h0 h1, drop_rd h0 h2, leqG]
    by_cases e : rd a j > rd b j
    · rw [if_pos e, if_pos e]
    · rw [if_neg e, if_neg e, wrap64_id ⟨by omega, by omega⟩, ih (n + 1) (j + 1) (by omega) (by omega) (by omega)]
theorem vleq_eq {a b : List Int} (hl : a.length ≤ 1000000) (n : Nat) (hn : a.length + 2 ≤ n) : vector_Leq.f n a b = some (decide (a.length = b.length) && leqG a b) := by
  unfold vector_Leq.f
  by_cases h : a.length = b.length
  · rw [if_pos (by omega), vleq_l0 hl h a.length n 0 (by omega) (by omega) hn]
    simp [h]
  · rw [if_neg (by omega)]
    simp [h]
theorem rleq_l0 {a b : List Int} (hl : a.length ≤ 1000000) (he : a.length = b.length) :
    ∀ (d n : Nat) (j : Int), 0 ≤ j → (a.length : Int) - j = d → d + 2 ≤ n → petrinetref03_Leq.l0 n a b j = some (leqG (a.drop j.toNat) (b.drop j.toNat)) := by
  intro d
  induction d with
  | zero =>
    intro n j h0 hd hn
    obtain ⟨n, rfl⟩ : ∃ m, n = m + 1 := ⟨n - 1, by omega⟩
    simp only [petrinetref03_Leq.l0]
    rw [if_neg (by omega), drop_end (by omega)]
    simp [leqG]
  | succ d ih =>
    intro n j h0 hd hn
    obtain ⟨n, rfl⟩ : ∃ m, n = m + 1 + 1 := ⟨n - 2, by omega⟩
    have h1 : j < (a.length : Int) := by omega
    have h2 : j < (b.length : Int) := by omega
    rw [petrinetref03_Leq.l0, if_pos h1, if_pos h0, if_pos h2, drop_rd h0 h1, drop_rd h0 h2, leqG]
    by_cases e : rd a j > rd b j
    · rw [if_pos e, if_pos e]
    · rw [if_neg e, if_neg e, wrap64_id ⟨by omega, by omega⟩, ih (n + 1) (j + 1) (by omega) (by omega) (by omega)]
theorem rleq_eq {a b : List Int} (hl : a.length ≤ 1000000) (n : Nat) (hn : a.length + 2 ≤ n) : petrinetref03_Leq.f n a b = some (decide (a.length = b.length) && leqG a b) := by
  unfold petrinetref03_Leq.f
  by_cases h : a.length = b.length
  · rw [if_pos (by omega), rleq_l0 hl h a.length n 0 (by omega) (by omega) hn]
    simp [h]
  · rw [if_neg (by omega)]
    simp [h]
theorem vcmp_l0 {a b : List Int} (hl : a.length ≤ 1000000) :
    ∀ (d n : Nat) (j : Int), 0 ≤ j → j ≤ (a.length : Int) → j ≤ (b.length : Int) → (a.length : Int) - j = d → 2 * d + 3 ≤ n → vector_Compare.l0 n a b j = some (cmp (a.drop j.toNat) (b.drop j.toNat)) := by
  intro d
  induction d with
  | zero =>
    intro n j h0 ha hb hd hn
    obtain ⟨n, rfl⟩ : ∃ m, n = m + 1 + 1 := ⟨n - 2, by omega⟩
    rw [vector_Compare.l0, if_neg (by omega), vector_Compare.j1, if_neg (by decide), cmp_ends (.inl (drop_end (by omega)))]
    simp only [List.length_drop]
    repeat' split
    all_goals first | rfl | (exfalso; omega)
  | succ d ih =>
    intro n j h0 ha hb hd hn
    obtain ⟨n, rfl⟩ : ∃ m, n = m + 1 + 1 := ⟨n - 2, by omega⟩
    have h1 : j < (a.length : Int) := by omega
    rw [vector_Compare.l0, if_pos h1, vector_Compare.j1]
    by_cases h2 : j < (b.length : Int)
    · rw [if_pos (decide_eq_true h2), if_pos h0, if_pos h1, if_pos h2, drop_rd h0 h1, drop_rd h0 h2, cmp]
      by_cases e1 : rd a j < rd b j
      · rw [if_pos e1, if_pos e1]
      · rw [if_neg e1, if_neg e1]
        by_cases e2 : rd b j < rd a j
        · rw [if_pos e2, if_pos e2]
        · rw [if_neg e2, if_neg e2, wrap64_id ⟨by omega, by omega⟩, ih n (j + 1) (by omega) (by omega) (by omega) (by omega) (by omega)]
    · rw [if_neg (by simp [h2]), cmp_ends (.inr (drop_end (by omega)))]
      simp only [List.length_drop]
      repeat' split
      all_goals first | rfl | (exfalso; omega)
theorem vcmp_eq {a b : List Int} (hl : a.length ≤ 1000000) (n : Nat) (hn : 2 * a.length + 3 ≤ n) : vector_Compare.f n a b = some (cmp a b) := by
  unfold vector_Compare.f
  rw [vcmp_l0 hl a.length n 0 (by omega) (by omega) (by omega) (by omega) hn]
  simp
theorem cmp_range : ∀ a b : List Int, cmp a b = -1 ∨ cmp a b = 0 ∨ cmp a b = 1
  | [], [] => .inr (.inl rfl)
  | [], _ :: _ => .inl rfl
  | _ :: _, [] => .inr (.inr rfl)
  | x :: a, y :: b => by
    rw [cmp]
    split
    · exact .inl rfl
    · split
      · exact .inr (.inr rfl)
      · exact cmp_range a b
theorem cmp_neg : ∀ a b : List Int, cmp b a = -cmp a b
  | [], [] => rfl
  | [], _ :: _ => rfl
  | _ :: _, [] => rfl
  | x :: a, y :: b => by
    rw [cmp, cmp]
    by_cases h1 : x < y
    · rw [if_neg (by omega), if_pos h1, if_pos h1]; rfl
    · by_cases h2 : y < x
      · rw [if_pos h2, if_neg h1, if_pos h2]
      · rw [if_neg h2, if_neg h1, if_neg h1, if_neg h2, cmp_neg a b]
/-- Transitive, and strictly where one of two steps is strict. -/
theorem cmp_trans : ∀ a b c : List Int, cmp a b ≤ 0 → cmp b c ≤ 0 → cmp a c ≤ 0 ∧ (cmp a c = 0 → cmp a b = 0 ∧ cmp b c = 0)
  | [], [], c, _, h => ⟨h, fun e => ⟨rfl, e⟩⟩
  | [], y :: b, [], _, h => by simp [cmp] at h
  | [], y :: b, z :: c, _, _ => by simp [cmp]
  | x :: a, [], c, h, _ => by simp [cmp] at h
  | x :: a, y :: b, [], _, h => by simp [cmp] at h
  | x :: a, y :: b, z :: c, h, k => by
    rw [cmp] at h k ⊢
    by_cases h1 : x < y
    · by_cases k1 : y < z
      · rw [if_pos (by omega)]; simp
      · by_cases k2 : z < y
        · rw [if_neg k1, if_pos k2] at k; simp at k
        · rw [if_pos (by omega)]; simp
    · by_cases h2 : y < x
      · rw [if_neg h1, if_pos h2] at h; simp at h
      · rw [if_neg h1, if_neg h2] at h
        by_cases k1 : y < z
        · rw [if_pos (by omega)]; simp
        · by_cases k2 : z < y
          · rw [if_neg k1, if_pos k2] at k; simp at k
          · rw [if_neg k1, if_neg k2] at k
            rw [if_neg (by omega), if_neg (by omega)]
            have := cmp_trans a b c h k
            refine ⟨this.1, fun e => ?_⟩
            obtain ⟨e1, e2⟩ := this.2 e
            rw [cmp, cmp, if_neg h1, if_neg h2, if_neg k1, if_neg k2]
            exact ⟨e1, e2⟩
theorem leq_self : ∀ a : List Int, leqG a a = true
  | [] => rfl
  | x :: a => by rw [leqG, if_neg (by omega), leq_self a]
theorem leq_cmp : ∀ a b : List Int, a.length = b.length → leqG a b = true → cmp a b ≤ 0
  | [], [], _, _ => by simp [cmp]
  | x :: a, y :: b, hl, h => by
    rw [leqG] at h
    rw [cmp]
    split at h
    · cases h
    · split
      · simp
      · exact leq_cmp a b (by simpa using hl) h
  | [], _ :: _, hl, _ => by simp at hl
  | _ :: _, [], hl, _ => by simp at hl
/-- The places that are not 0. -/
def supp : List Int → Int → List Int
  | [], _ => []
  | x :: a, j => if x = 0 then supp a (j + 1) else j :: supp a (j + 1)
theorem supp_len : ∀ (a : List Int) (j : Int), (supp a j).length ≤ a.length
  | [], _ => by simp [supp]
  | x :: a, j => by
    rw [supp]
    have := supp_len a (j + 1)
    split <;> simp <;> omega
theorem vsupp_l0 {a : List Int} (hl : a.length ≤ 1000000) :
    ∀ (d n : Nat) (j : Int) (acc : List Int), 0 ≤ j → (a.length : Int) - j = d → d + 2 ≤ n → acc.length ≤ j → vector_Support.l0 n acc a (a.length : Int) j = some (acc ++ supp (a.drop j.toNat) j) := by
  intro d
  induction d with
  | zero =>
    intro n j acc h0 hd hn hacc
    obtain ⟨n, rfl⟩ : ∃ m, n = m + 1 := ⟨n - 1, by omega⟩
    simp only [vector_Support.l0]
    rw [if_neg (by omega), drop_end (by omega)]
    simp [supp]
  | succ d ih =>
    intro n j acc h0 hd hn hacc
    obtain ⟨n, rfl⟩ : ∃ m, n = m + 1 + 1 := ⟨n - 2, by omega⟩
    have h1 : j < (a.length : Int) := by omega
    rw [vector_Support.l0, if_pos h1, if_pos h0, if_pos h1, drop_rd h0 h1, supp]
    by_cases e : rd a j = 0
    · rw [if_pos e, if_pos e, wrap64_id ⟨by omega, by omega⟩, ih (n + 1) (j + 1) _ (by omega) (by omega) (by omega) (by omega)]
    · rw [if_neg e, if_neg e, if_pos (by omega), wrap64_id ⟨by omega, by omega⟩, ih (n + 1) (j + 1) _ (by omega) (by omega) (by omega) (by simp; omega)]
      simp
theorem vsupp_eq {a : List Int} (hl : a.length ≤ 1000000) (n : Nat) (hn : a.length + 2 ≤ n) : vector_Support.f n a = some (supp a 0) := by
  unfold vector_Support.f
  rw [vsupp_l0 hl a.length n 0 [] (by omega) (by omega) hn (by simp)]
  simp
theorem rsupp_l0 {a : List Int} (hl : a.length ≤ 1000000) :
    ∀ (d n : Nat) (j : Int) (acc : List Int), 0 ≤ j → (a.length : Int) - j = d → d + 2 ≤ n → acc.length ≤ j → petrinetref03_Support.l0 n a acc j = some (acc ++ supp (a.drop j.toNat) j) := by
  intro d
  induction d with
  | zero =>
    intro n j acc h0 hd hn hacc
    obtain ⟨n, rfl⟩ : ∃ m, n = m + 1 := ⟨n - 1, by omega⟩
    simp only [petrinetref03_Support.l0]
    rw [if_neg (by omega), drop_end (by omega)]
    simp [supp]
  | succ d ih =>
    intro n j acc h0 hd hn hacc
    obtain ⟨n, rfl⟩ : ∃ m, n = m + 1 + 1 := ⟨n - 2, by omega⟩
    have h1 : j < (a.length : Int) := by omega
    rw [petrinetref03_Support.l0, if_pos h1, if_pos h0, drop_rd h0 h1, supp]
    by_cases e : rd a j = 0
    · rw [if_pos e, if_pos e, wrap64_id ⟨by omega, by omega⟩, ih (n + 1) (j + 1) _ (by omega) (by omega) (by omega) (by omega)]
    · rw [if_neg e, if_neg e, if_pos (by omega), wrap64_id ⟨by omega, by omega⟩, ih (n + 1) (j + 1) _ (by omega) (by omega) (by omega) (by simp; omega)]
      simp
theorem rsupp_eq {a : List Int} (hl : a.length ≤ 1000000) (n : Nat) (hn : a.length + 2 ≤ n) : petrinetref03_Support.f n a = some (supp a 0) := by
  unfold petrinetref03_Support.f
  rw [rsupp_l0 hl a.length n 0 [] (by omega) (by omega) hn (by simp)]
  simp
theorem ints_l0 {a : List Int} (hl : a.length ≤ 1000000) :
    ∀ (d n : Nat) (j : Int), 0 ≤ j → (a.length : Int) - j = d → d + 2 ≤ n → petrinetref03_Ints.l0 n a a j = some true := by
  intro d
  induction d with
  | zero =>
    intro n j h0 hd hn
    obtain ⟨n, rfl⟩ : ∃ m, n = m + 1 := ⟨n - 1, by omega⟩
    simp only [petrinetref03_Ints.l0]
    rw [if_neg (by omega)]
  | succ d ih =>
    intro n j h0 hd hn
    obtain ⟨n, rfl⟩ : ∃ m, n = m + 1 + 1 := ⟨n - 2, by omega⟩
    have h1 : j < (a.length : Int) := by omega
    rw [petrinetref03_Ints.l0, if_pos h1, if_pos h0, if_pos h1, if_pos rfl, wrap64_id ⟨by omega, by omega⟩, ih (n + 1) (j + 1) (by omega) (by omega) (by omega)]
theorem ints_self {a : List Int} (hl : a.length ≤ 1000000) (n : Nat) (hn : a.length + 2 ≤ n) : petrinetref03_Ints.f n a a = some true := by
  unfold petrinetref03_Ints.f
  rw [if_pos rfl, ints_l0 hl a.length n 0 (by omega) (by omega) hn]
/-- The greatest common divisor of the elements, onto g. -/
def gcdL : List Int → Int → Int
  | [], g => g
  | x :: a, g => gcdL a (Int.gcd g x : Int)
theorem gcdL_nonneg : ∀ (a : List Int) (g : Int), 0 ≤ g → 0 ≤ gcdL a g
  | [], _, h => h
  | _ :: a, _, _ => gcdL_nonneg a _ (by omega)
def least : Int := -9223372036854775808
theorem gcd_le_right {g x : Int} (hx : x ≠ 0) : (Int.gcd g x : Int) ≤ (x.natAbs : Int) := by
  have := Nat.gcd_le_right (n := x.natAbs) g.natAbs (by omega)
  show ((Nat.gcd g.natAbs x.natAbs : Nat) : Int) ≤ _
  omega
theorem gcd_bound {g x : Int} (hg : 0 ≤ g) (hg' : g ≤ 9223372036854775807) (hx : in64 x) (hl : x ≠ least) : (Int.gcd g x : Int) ≤ 9223372036854775807 := by
  unfold in64 at hx
  unfold least at hl
  by_cases h : x = 0
  · subst h
    simp
    omega
  · have := gcd_le_right (g := g) h
    omega
/-- Prim, as both tell it. -/
def primG (a : List Int) : List Int × Int := if least ∈ a then ([], 3) else (a.map fun x => if gcdL a 0 > 0 then Int.tdiv x (gcdL a 0) else 0, 0)
theorem rd_take_all {l : List Int} {f : Int → Int} {j : Nat} (h : j < l.length) : (l.map f).take (j + 1) = (l.map f).take j ++ [f (rd l j)] := by
  rw [List.take_succ_eq_append_getElem (by simpa using h)]
  simp [rd, List.getD_eq_getElem?_getD, h]
theorem tdiv_in {x g : Int} (hx : in64 x) (hg : 0 < g) : in64 (Int.tdiv x g) := by
  unfold in64 at *
  have h : (Int.tdiv x g).natAbs = x.natAbs / g.natAbs := Int.natAbs_tdiv x g
  have h1 : x.natAbs / g.natAbs ≤ x.natAbs := Nat.div_le_self _ _
  by_cases h2 : 0 ≤ x
  · have := Int.tdiv_nonneg h2 (Int.le_of_lt hg)
    omega
  · have h3 : Int.tdiv x g ≤ 0 := by
      have := Int.neg_tdiv x g
      have h4 := Int.tdiv_nonneg (a := -x) (b := g) (by omega) (Int.le_of_lt hg)
      omega
    omega
theorem vprim_l1 {a : List Int} {g : Int} (ha : ok64 a) (hl : a.length ≤ 1000000) :
    ∀ (d n : Nat) (j : Nat), (a.length : Int) - j = d → d + 2 ≤ n → vector_Prim.l1 n g ((a.map fun x => if g > 0 then Int.tdiv x g else 0).take j ++ List.replicate (a.length - j) 0) a (a.length : Int) j = some (a.map fun x => if g > 0 then Int.tdiv x g else 0, 0) := by
  intro d
  induction d with
  | zero =>
    intro n j hd hn
    obtain ⟨n, rfl⟩ : ∃ m, n = m + 1 := ⟨n - 1, by omega⟩
    simp only [vector_Prim.l1]
    rw [if_neg (by omega), List.take_of_length_le (by simp; omega), show a.length - j = 0 by omega]
    simp
  | succ d ih =>
    intro n j hd hn
    obtain ⟨n, rfl⟩ : ∃ m, n = m + 1 + 1 := ⟨n - 2, by omega⟩
    have h1 : (j : Int) < (a.length : Int) := by omega
    have ht := rd_take_all (l := a) (f := fun x => if g > 0 then Int.tdiv x g else 0) (j := j) (by omega)
    have hw : wrap64 ((j : Int) + 1) = ((j + 1 : Nat) : Int) := by rw [wrap64_id ⟨by omega, by omega⟩]; omega
    have hr : a.length - j = (a.length - (j + 1)) + 1 := by omega
    have hlen : ((a.map fun x => if g > 0 then Int.tdiv x g else 0).take j).length = j := by simp; omega
    rw [vector_Prim.l1, if_pos h1, if_pos (by omega), if_pos h1]
    by_cases hp : g > 0
    · rw [if_pos hp, if_neg (by omega), if_pos (by simp; omega), hw]
      have hs := set_zeros (acc := (a.map fun x => if g > 0 then Int.tdiv x g else 0).take j) (m := a.length - (j + 1)) (Int.tdiv (rd a j) g)
      rw [hlen] at hs
      rw [wrap64_id (tdiv_in (ok64_rd ha (by omega) h1) hp), show ((j : Int)).toNat = j by omega, hr, hs]
      have := ih (n + 1) (j + 1) (by omega) (by omega)
      rw [ht] at this
      simp only [if_pos hp] at this ⊢
      exact this
    · rw [if_neg hp, hw]
      have := ih (n + 1) (j + 1) (by omega) (by omega)
      rw [ht] at this
      rw [hr, List.replicate_succ]
      simp only [if_neg hp] at this ⊢
      simpa using this
theorem vprim_l0 {a : List Int} (ha : ok64 a) (hl : a.length ≤ 1000000) :
    ∀ (d n : Nat) (j g : Int), 0 ≤ j → (a.length : Int) - j = d → d + a.length + 4 ≤ n → 0 ≤ g → g ≤ 9223372036854775807 →
      vector_Prim.l0 n a g a (a.length : Int) j = some (if least ∈ a.drop j.toNat then ([], 3) else (a.map fun x => if gcdL (a.drop j.toNat) g > 0 then Int.tdiv x (gcdL (a.drop j.toNat) g) else 0, 0)) := by
  intro d
  induction d with
  | zero =>
    intro n j g h0 hd hn hg hg'
    obtain ⟨n, rfl⟩ : ∃ m, n = m + 1 := ⟨n - 1, by omega⟩
    simp only [vector_Prim.l0]
    rw [if_neg (by omega), drop_end (by omega), if_pos (by omega), if_pos (by omega)]
    have := vprim_l1 (g := g) ha hl a.length n 0 (by omega) (by omega)
    simp only [List.take_zero, List.nil_append, Nat.sub_zero] at this
    simp only [gcdL, List.not_mem_nil, if_false]
    rw [show ((a.length : Int) : Int).toNat = a.length by omega]
    exact this
  | succ d ih =>
    intro n j g h0 hd hn hg hg'
    obtain ⟨n, rfl⟩ : ∃ m, n = m + 1 + 1 := ⟨n - 2, by omega⟩
    have h1 : j < (a.length : Int) := by omega
    have hx := ok64_rd ha h0 h1
    rw [vector_Prim.l0, if_pos h1, if_pos h0, if_pos h1, drop_rd h0 h1]
    by_cases e : rd a j = -9223372036854775808
    · rw [if_pos e, if_pos (by rw [e]; simp [least])]
    · rw [if_neg e]
      have hb := gcd_bound hg hg' hx e
      have hgc : safeint_Gcd.f g (rd a j) = some ((Int.gcd g (rd a j) : Int), true) := by
        unfold safeint_Gcd.f
        rw [if_pos ⟨⟨by omega, hg'⟩, hx⟩, if_pos hb]
      rw [hgc]
      simp only [Option.bind_some]
      rw [wrap64_id ⟨by omega, by omega⟩, ih (n + 1) (j + 1) _ (by omega) (by omega) (by omega) (by omega) hb]
      have e' : ¬ least = rd a j := fun h => e h.symm
      simp only [List.mem_cons, e', false_or, gcdL]
      rfl
theorem vprim_eq {a : List Int} (ha : ok64 a) (hl : a.length ≤ 1000000) (n : Nat) (hn : 2 * a.length + 4 ≤ n) : vector_Prim.f n a = some (primG a) := by
  unfold vector_Prim.f primG
  rw [vprim_l0 ha hl a.length n 0 0 (by omega) (by omega) (by omega) (by omega) (by omega)]
  simp
end Go.Proofs.Ytojpjknjoikdgaa.Z
