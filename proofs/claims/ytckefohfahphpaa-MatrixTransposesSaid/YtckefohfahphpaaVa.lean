/- Plain laws of matrices: validity, the transposed one, equality. -/
import Derived.Test.YtckefohfahphpaaZx0
import Derived.Test.YtckefohfahphpaaZx1
import Derived.Test.YtckefohfahphpaaZx2
import Derived.Test.YtckefohfahphpaaZx20
import Derived.Test.YtckefohfahphpaaZx21
import Derived.Test.YtckefohfahphpaaZx23
import Derived.Test.YtckefohfahphpaaZx3
namespace Go.Proofs.Ytckefohfahphpaa.Z
open Go.RowKit Go.Proofs.YtckefohfahphpaaW.PrintWords Go.Proofs.YtckefohfahphpaaW.PrintLast Go.Proofs.YtckefohfahphpaaW.PrintMore
set_option linter.unusedVariables false
set_option linter.unusedSimpArgs false
theorem LeO.up {α : Type} {f : Nat → Option α} (h : ∀ k, LeO (f k) (f (k + 1))) {r : α} {m : Nat} (hm : f m = some r) : ∀ n, m ≤ n → f n = some r := by
  intro n hn
  obtain ⟨d, rfl⟩ := Nat.exists_eq_add_of_le hn
  clear hn
  induction d with
  | zero => exact hm
  | succ d ih => exact h _ _ ih
theorem example_at : petrinetlaw08_exampleHolds.f 60 = some true := by kernel_rfl
theorem example_eq (n : Nat) (hn : 60 ≤ n) : petrinetlaw08_exampleHolds.f n = some true := LeO.up petrinetlaw08_exampleHolds.mono example_at n hn
def validB (a : List (List Int)) : Bool := decide (1 ≤ a.length) && decide (a.length ≤ 64) && decide (1 ≤ (rd_L1 a 0).length) && decide ((rd_L1 a 0).length ≤ 64) && a.all fun r => decide (r.length = (rd_L1 a 0).length)
theorem wrap64_small {n : Int} (h0 : 0 ≤ n) (h1 : n ≤ 1000000) : wrap64 n = n := wrap64_id ⟨by omega, by omega⟩
theorem drop_rdL {l : List (List Int)} {i : Int} (h0 : 0 ≤ i) (h1 : i < (l.length : Int)) : l.drop i.toNat = rd_L1 l i :: l.drop (i + 1).toNat := by
  have h : i.toNat < l.length := by omega
  rw [List.drop_eq_getElem_cons h, show (i + 1).toNat = i.toNat + 1 by omega]
  simp [rd_L1, List.getD_eq_getElem?_getD, h]
theorem vectors_l0 {a b : List Int} (he : a.length = b.length) (hl : a.length ≤ 1000000) : ∀ (d n : Nat) (j : Int), 0 ≤ j → (a.length : Int) - j = d → d + 2 ≤ n → a = b → petrinetref08_Vectors.l0 n a b j = some true := by
  intro d
  induction d with
  | zero =>
    intro n j h0 hd hn e
    obtain ⟨n, rfl⟩ : ∃ m, n = m + 1 := ⟨n - 1, by omega⟩
    rw [petrinetref08_Vectors.l0, if_neg (by omega)]
  | succ d ih =>
    intro n j h0 hd hn e
    obtain ⟨n, rfl⟩ : ∃ m, n = m + 1 := ⟨n - 1, by omega⟩
    rw [petrinetref08_Vectors.l0, if_pos (by omega), if_pos h0, if_pos (by omega), if_pos (by rw [e]), wrap64_small (by omega) (by omega)]
    exact ih n (j + 1) (by omega) (by omega) (by omega) e
theorem vectors_self {a : List Int} (hl : a.length ≤ 1000000) (n : Nat) (hn : a.length + 2 ≤ n) : petrinetref08_Vectors.f n a a = some true := by
  unfold petrinetref08_Vectors.f
  rw [if_pos rfl]
  exact vectors_l0 rfl hl a.length n 0 (by omega) (by omega) (by omega) rfl
theorem same_l0 {a : List (List Int)} (hl : a.length ≤ 1000000) (hr : ∀ r ∈ a, r.length ≤ 1000000) : ∀ (d n : Nat) (j : Int), 0 ≤ j → (a.length : Int) - j = d → d + 1000010 ≤ n → petrinetref08_Same.l0 n a a j = some true := by
  intro d
  induction d with
  | zero =>
    intro n j h0 hd hn
    obtain ⟨n, rfl⟩ : ∃ m, n = m + 1 := ⟨n - 1, by omega⟩
    rw [petrinetref08_Same.l0, if_neg (by omega)]
  | succ d ih =>
    intro n j h0 hd hn
    obtain ⟨n, rfl⟩ : ∃ m, n = m + 1 := ⟨n - 1, by omega⟩
    have hm : rd_L1 a j ∈ a := by
      have h : j.toNat < a.length := by omega
      have : rd_L1 a j = a[j.toNat] := by simp [rd_L1, List.getD_eq_getElem?_getD, h]
      rw [this]
      exact List.getElem_mem h
    have := hr _ hm
    rw [petrinetref08_Same.l0, if_pos (by omega), if_pos h0, if_pos (by omega), vectors_self this n (by omega)]
    simp only [Option.bind_some, if_true]
    rw [wrap64_small (by omega) (by omega)]
    exact ih n (j + 1) (by omega) (by omega) (by omega)
theorem same_self {a : List (List Int)} (hl : a.length ≤ 1000000) (hr : ∀ r ∈ a, r.length ≤ 1000000) (n : Nat) (hn : a.length + 1000010 ≤ n) : petrinetref08_Same.f n a a = some true := by
  unfold petrinetref08_Same.f
  rw [if_pos rfl]
  exact same_l0 hl hr a.length n 0 (by omega) (by omega) (by omega)
theorem rvalid_l0 {a : List (List Int)} (ha : 1 ≤ a.length) (hl : a.length ≤ 64) : ∀ (d n : Nat) (j : Int), 0 ≤ j → (a.length : Int) - j = d → d + 2 ≤ n →
    petrinetref08_Valid.l0 n a j = some ((a.drop j.toNat).all fun r => decide (1 ≤ r.length) && decide (r.length ≤ 64) && decide (r.length = (rd_L1 a 0).length)) := by
  intro d
  induction d with
  | zero =>
    intro n j h0 hd hn
    obtain ⟨n, rfl⟩ : ∃ m, n = m + 1 := ⟨n - 1, by omega⟩
    rw [petrinetref08_Valid.l0, if_neg (by omega), List.drop_of_length_le (by omega)]
    rfl
  | succ d ih =>
    intro n j h0 hd hn
    obtain ⟨n, rfl⟩ : ∃ m, n = m + 1 := ⟨n - 1, by omega⟩
    rw [petrinetref08_Valid.l0, if_pos (by omega), if_pos h0, drop_rdL h0 (by omega)]
    simp only [List.all_cons]
    by_cases c1 : ((rd_L1 a j).length : Int) < 1
    · rw [if_pos c1, decide_eq_false (show ¬ 1 ≤ (rd_L1 a j).length by omega)]
      rfl
    rw [if_neg c1]
    by_cases c2 : ((rd_L1 a j).length : Int) > 64
    · rw [if_pos c2, decide_eq_false (show ¬ (rd_L1 a j).length ≤ 64 by omega)]
      simp
    rw [if_neg c2, if_pos (by omega)]
    by_cases c3 : ((rd_L1 a j).length : Int) = ((rd_L1 a 0).length : Int)
    · rw [if_pos c3, wrap64_small (by omega) (by omega), ih n (j + 1) (by omega) (by omega) (by omega), decide_eq_true (show 1 ≤ (rd_L1 a j).length by omega), decide_eq_true (show (rd_L1 a j).length ≤ 64 by omega), decide_eq_true (show (rd_L1 a j).length = (rd_L1 a 0).length by omega)]
      simp
    · rw [if_neg c3, decide_eq_false (show ¬ (rd_L1 a j).length = (rd_L1 a 0).length by omega)]
      simp
theorem mvalid_l0 {a : List (List Int)} {x : Int} (hx : x = ((rd_L1 a 0).length : Int)) (hl : a.length ≤ 64) : ∀ (d n : Nat) (j : Int), 0 ≤ j → (a.length : Int) - j = d → d + 2 ≤ n →
    matrix_Valid.l0 n x a (a.length : Int) j = some (((a.drop j.toNat).all fun r => decide (r.length = (rd_L1 a 0).length)) && decide (1 ≤ (rd_L1 a 0).length) && decide ((rd_L1 a 0).length ≤ 64)) := by
  intro d
  induction d with
  | zero =>
    intro n j h0 hd hn
    obtain ⟨n, rfl⟩ : ∃ m, n = m + 1 := ⟨n - 1, by omega⟩
    rw [matrix_Valid.l0, if_neg (by omega), List.drop_of_length_le (by omega), hx]
    by_cases c : ((rd_L1 a 0).length : Int) ≥ 1
    · rw [if_pos c, decide_eq_true (show 1 ≤ (rd_L1 a 0).length by omega)]
      simp
      omega
    · rw [if_neg c, decide_eq_false (show ¬ 1 ≤ (rd_L1 a 0).length by omega)]
      simp
  | succ d ih =>
    intro n j h0 hd hn
    obtain ⟨n, rfl⟩ : ∃ m, n = m + 1 := ⟨n - 1, by omega⟩
    rw [matrix_Valid.l0, if_pos (by omega), if_pos h0, if_pos (by omega), drop_rdL h0 (by omega)]
    simp only [List.all_cons]
    by_cases c3 : ((rd_L1 a j).length : Int) = x
    · rw [if_pos c3, wrap64_small (by omega) (by omega), ih n (j + 1) (by omega) (by omega) (by omega), decide_eq_true (show (rd_L1 a j).length = (rd_L1 a 0).length by omega)]
      simp
    · rw [if_neg c3, decide_eq_false (show ¬ (rd_L1 a j).length = (rd_L1 a 0).length by omega)]
      simp
theorem head_mem {a : List (List Int)} (h : 1 ≤ a.length) : rd_L1 a 0 ∈ a := by
  have : rd_L1 a 0 = a[0]'(by omega) := by simp [rd_L1, List.getD_eq_getElem?_getD, show 0 < a.length by omega]
  rw [this]
  exact List.getElem_mem _
theorem mvalid_eq (a : List (List Int)) (n : Nat) (hn : 70 ≤ n) : matrix_Valid.f n a = some (validB a) := by
  obtain ⟨n, rfl⟩ : ∃ m, n = m + 1 := ⟨n - 1, by omega⟩
  unfold matrix_Valid.f validB
  by_cases c1 : (a.length : Int) < 1
  · rw [if_pos c1, matrix_Valid.j0, if_pos rfl, decide_eq_false (show ¬ 1 ≤ a.length by omega)]
    rfl
  rw [if_neg c1, decide_eq_true (show 1 ≤ a.length by omega)]
  by_cases c2 : (a.length : Int) > 64
  · rw [matrix_Valid.j0, if_pos (by simp; omega), decide_eq_false (show ¬ a.length ≤ 64 by omega)]
    rfl
  rw [matrix_Valid.j0, if_neg (by simp; omega), if_pos (by omega), mvalid_l0 rfl (by omega) a.length n 0 (by omega) (by omega) (by omega), decide_eq_true (show a.length ≤ 64 by omega)]
  simp only [Int.toNat_zero, List.drop_zero, Bool.true_and]
  congr 1
  generalize (a.all fun r => decide (r.length = (rd_L1 a 0).length)) = u
  generalize decide (1 ≤ (rd_L1 a 0).length) = v
  generalize decide ((rd_L1 a 0).length ≤ 64) = z
  cases u <;> cases v <;> cases z <;> rfl
theorem rvalid_eq (a : List (List Int)) (n : Nat) (hn : 70 ≤ n) : petrinetref08_Valid.f n a = some (validB a) := by
  obtain ⟨n, rfl⟩ : ∃ m, n = m + 1 := ⟨n - 1, by omega⟩
  unfold petrinetref08_Valid.f validB
  by_cases c1 : (a.length : Int) < 1
  · rw [if_pos c1, petrinetref08_Valid.j0, if_pos rfl, decide_eq_false (show ¬ 1 ≤ a.length by omega)]
    rfl
  rw [if_neg c1, decide_eq_true (show 1 ≤ a.length by omega)]
  by_cases c2 : (a.length : Int) > 64
  · rw [petrinetref08_Valid.j0, if_pos (by simp; omega), decide_eq_false (show ¬ a.length ≤ 64 by omega)]
    rfl
  rw [petrinetref08_Valid.j0, if_neg (by simp; omega), rvalid_l0 (by omega) (by omega) a.length n 0 (by omega) (by omega) (by omega), decide_eq_true (show a.length ≤ 64 by omega)]
  simp only [Int.toNat_zero, List.drop_zero, Bool.true_and]
  congr 1
  have hm := head_mem (a := a) (by omega)
  rw [Bool.eq_iff_iff]
  simp only [List.all_eq_true, Bool.and_eq_true, decide_eq_true_eq]
  constructor
  · intro h
    exact ⟨⟨(h _ hm).1.1, (h _ hm).1.2⟩, fun r hr => (h r hr).2⟩
  · rintro ⟨⟨h1, h2⟩, h3⟩ r hr
    have := h3 r hr
    exact ⟨⟨by omega, by omega⟩, this⟩
end Go.Proofs.Ytckefohfahphpaa.Z
