/- Plain lemmas on numbers and lists for this seat's statements. -/
import Derived.Test.YtojpjknjoikdgaaVb
import Derived.Test.YtojpjknjoikdgaaVc
import Derived.Test.YtojpjknjoikdgaaZx1
import Derived.Test.YtojpjknjoikdgaaZx17
import Derived.Test.YtojpjknjoikdgaaZx18
import Derived.Test.YtojpjknjoikdgaaZx20
namespace Go.Proofs.Ytojpjknjoikdgaa.Z
open Go.RowKit Go.Proofs.YtojpjknjoikdgaaW.PrintWords Go.Proofs.YtojpjknjoikdgaaW.PrintLast Go.Proofs.YtojpjknjoikdgaaW.PrintMore
set_option linter.unusedVariables false
set_option linter.unusedSimpArgs false
theorem rgcd_l0 : ∀ (k : Nat) (x y : Int), 0 ≤ x → 0 ≤ y → y.toNat < k → petrinetref03_gcd.l0 k x y = some (Int.gcd x y : Int) := by
  intro k
  induction k with
  | zero => intro x y _ _ h; omega
  | succ k ih =>
    intro x y hx hy h
    rw [petrinetref03_gcd.l0]
    by_cases hp : y > 0
    · have hm : Int.tmod x y = x % y := Int.tmod_eq_emod_of_nonneg hx
      have h1 : x % y < y := Int.emod_lt_of_pos x hp
      have h2 : 0 ≤ x % y := Int.emod_nonneg x (by omega)
      rw [if_pos hp, if_neg (by omega), hm, ih y (x % y) hy h2 (by omega), gcd_step hx hy]
    · have : y = 0 := by omega
      subst this
      rw [if_neg hp]
      simp
      omega
theorem mx_abs {x : Int} (hx : in64 x) (hl : x ≠ least) : mx x (wrap64 (-x)) = (x.natAbs : Int) := by
  unfold in64 at hx
  unfold least at hl
  rw [wrap64_id ⟨by omega, by omega⟩]
  unfold mx
  split <;> omega
theorem gcd_natAbs (g x : Int) : Int.gcd g (x.natAbs : Int) = Int.gcd g x := by simp [Int.gcd]
theorem rprim_l1 {a : List Int} {g : Int} (ha : ok64 a) (hl : a.length ≤ 1000000) (hg : 0 ≤ g) :
    ∀ (d n : Nat) (j : Nat), (a.length : Int) - j = d → d + 2 ≤ n → petrinetref03_Prim.l1 n a g ((a.map fun x => if g > 0 then Int.tdiv x g else 0).take j) (j : Int) = some (a.map fun x => if g > 0 then Int.tdiv x g else 0, 0) := by
  intro d
  induction d with
  | zero =>
    intro n j hd hn
    obtain ⟨n, rfl⟩ : ∃ m, n = m + 1 := ⟨n - 1, by omega⟩
    simp only [petrinetref03_Prim.l1]
    rw [if_neg (by omega), List.take_of_length_le (by simp; omega)]
  | succ d ih =>
    intro n j hd hn
    obtain ⟨n, rfl⟩ : ∃ m, n = m + 1 + 1 := ⟨n - 2, by omega⟩
    have h1 : (j : Int) < (a.length : Int) := by omega
    have ht := rd_take_all (l := a) (f := fun x => if g > 0 then Int.tdiv x g else 0) (j := j) (by omega)
    have hw : wrap64 ((j : Int) + 1) = ((j + 1 : Nat) : Int) := by rw [wrap64_id ⟨by omega, by omega⟩]; omega
    have hlen : ((a.map fun x => if g > 0 then Int.tdiv x g else 0).take j).length = j := by simp; omega
    have := ih (n + 1) (j + 1) (by omega) (by omega)
    rw [ht] at this
    rw [petrinetref03_Prim.l1, if_pos h1]
    by_cases hp : g = 0
    · rw [if_pos hp, if_pos (by rw [hlen]; omega), hw]
      simp only [hp] at this ⊢
      simpa using this
    · have hp' : g > 0 := by omega
      rw [if_neg hp, if_pos (by omega), if_pos (by rw [hlen]; omega), hw, wrap64_id (tdiv_in (ok64_rd ha (by omega) h1) hp')]
      simp only [if_pos hp'] at this ⊢
      exact this
theorem rprim_l0 {a : List Int} (ha : ok64 a) (hl : a.length ≤ 1000000) :
    ∀ (d n : Nat) (j g : Int), 0 ≤ j → (a.length : Int) - j = d → d + 9223372036854775808 + a.length + 4 ≤ n → 0 ≤ g → g ≤ 9223372036854775807 →
      petrinetref03_Prim.l0 n a g j = some (if least ∈ a.drop j.toNat then ([], 3) else (a.map fun x => if gcdL (a.drop j.toNat) g > 0 then Int.tdiv x (gcdL (a.drop j.toNat) g) else 0, 0)) := by
  intro d
  induction d with
  | zero =>
    intro n j g h0 hd hn hg hg'
    obtain ⟨n, rfl⟩ : ∃ m, n = m + 1 := ⟨n - 1, by omega⟩
    simp only [petrinetref03_Prim.l0]
    rw [if_neg (by omega), drop_end (by omega)]
    have := rprim_l1 ha hl hg a.length n 0 (by omega) (by omega)
    simp only [List.take_zero] at this
    simp only [gcdL, List.not_mem_nil, if_false]
    exact this
  | succ d ih =>
    intro n j g h0 hd hn hg hg'
    obtain ⟨n, rfl⟩ : ∃ m, n = m + 1 := ⟨n - 1, by omega⟩
    have h1 : j < (a.length : Int) := by omega
    have hx := ok64_rd ha h0 h1
    rw [petrinetref03_Prim.l0, if_pos h1, if_pos h0, drop_rd h0 h1]
    by_cases e : rd a j = -9223372036854775808
    · rw [if_pos e, if_pos (by rw [e]; simp [least])]
    · rw [if_neg e]
      have hb := gcd_bound hg hg' hx e
      have hab : (rd a j).natAbs ≤ 9223372036854775808 := by unfold in64 at hx; omega
      rw [mx_abs hx e]
      unfold petrinetref03_gcd.f
      rw [rgcd_l0 n g _ hg (by omega) (by omega), gcd_natAbs]
      simp only [Option.bind_some]
      rw [wrap64_id ⟨by omega, by omega⟩, ih n (j + 1) _ (by omega) (by omega) (by omega) (by omega) hb]
      have e' : ¬ least = rd a j := fun h => e h.symm
      simp only [List.mem_cons, e', false_or, gcdL]
      rfl
theorem rprim_eq {a : List Int} (ha : ok64 a) (hl : a.length ≤ 1000000) (n : Nat) (hn : 9223372036854775808 + 2 * a.length + 4 ≤ n) : petrinetref03_Prim.f n a = some (primG a) := by
  unfold petrinetref03_Prim.f primG
  rw [rprim_l0 ha hl a.length n 0 0 (by omega) (by omega) (by omega) (by omega) (by omega)]
  simp
/-- Few elements, and small ones. -/
def smallB (a : List Int) : Bool := decide (a.length ≤ 20) && a.all fun x => decide (-1048576 ≤ x ∧ x ≤ 1048576)
theorem small_l0 {a : List Int} (hl : a.length ≤ 1000000) :
    ∀ (d n : Nat) (j : Int), 0 ≤ j → (a.length : Int) - j = d → d + 2 ≤ n → petrinetlaw03_small.l0 n a j = some ((a.drop j.toNat).all fun x => decide (-1048576 ≤ x ∧ x ≤ 1048576)) := by
  intro d
  induction d with
  | zero =>
    intro n j h0 hd hn
    obtain ⟨n, rfl⟩ : ∃ m, n = m + 1 := ⟨n - 1, by omega⟩
    simp only [petrinetlaw03_small.l0]
    rw [if_neg (by omega), drop_end (by omega)]
    simp
  | succ d ih =>
    intro n j h0 hd hn
    obtain ⟨n, rfl⟩ : ∃ m, n = m + 1 + 1 := ⟨n - 2, by omega⟩
    have h1 : j < (a.length : Int) := by omega
    rw [petrinetlaw03_small.l0, if_pos h1, if_pos h0, drop_rd h0 h1]
    by_cases e1 : rd a j < -1048576
    · rw [if_pos e1]
      simp
      omega
    · rw [if_neg e1]
      by_cases e2 : rd a j > 1048576
      · rw [if_pos e2]
        simp
        omega
      · rw [if_neg e2, wrap64_id ⟨by omega, by omega⟩, ih (n + 1) (j + 1) (by omega) (by omega) (by omega)]
        rw [List.all_cons, decide_eq_true (show -1048576 ≤ rd a j ∧ rd a j ≤ 1048576 by omega)]
        simp
theorem small_eq (a : List Int) (n : Nat) (hn : 30 ≤ n) : petrinetlaw03_small.f n a = some (smallB a) := by
  unfold petrinetlaw03_small.f smallB
  by_cases h : (a.length : Int) > 20
  · rw [if_pos h]
    have : ¬ a.length ≤ 20 := by omega
    simp [this]
  · rw [if_neg h, small_l0 (by omega) a.length n 0 (by omega) (by omega) (by omega)]
    have : a.length ≤ 20 := by omega
    simp [this]
theorem small_iff {a : List Int} (h : smallB a = true) : a.length ≤ 20 ∧ ∀ x ∈ a, -1048576 ≤ x ∧ x ≤ 1048576 := by
  unfold smallB at h
  simp at h
  exact h
theorem small_ok {a : List Int} (h : smallB a = true) : ok64 a := fun x hx => by
  have := (small_iff h).2 x hx
  exact ⟨by omega, by omega⟩
end Go.Proofs.Ytojpjknjoikdgaa.Z
