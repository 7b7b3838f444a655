/- Plain laws of matrices: the transposed matrix, as both texts reckon it. -/
import Derived.Test.YtckefohfahphpaaVa
import Derived.Test.YtckefohfahphpaaZx0
import Derived.Test.YtckefohfahphpaaZx24
import Derived.Test.YtckefohfahphpaaZx25
import Derived.Test.YtckefohfahphpaaZx26
namespace Go.Proofs.Ytckefohfahphpaa.Z
open Go.RowKit Go.Proofs.YtckefohfahphpaaW.PrintWords Go.Proofs.YtckefohfahphpaaW.PrintLast Go.Proofs.YtckefohfahphpaaW.PrintMore
set_option linter.unusedVariables false
set_option linter.unusedSimpArgs false
def colM (a : List (List Int)) (k : Int) : List Int := a.map fun r => rd r k
def transM (a : List (List Int)) : List (List Int) := (List.range (rd_L1 a 0).length).map fun k : Nat => colM a (k : Int)
theorem rdL_mid (A B : List (List Int)) (p : List Int) {i : Int} (hi : i = (A.length : Int)) : rd_L1 (A ++ p :: B) i = p := by
  subst hi
  simp [rd_L1, List.getD_eq_getElem?_getD]
theorem set_mid (A B : List (List Int)) (p q : List Int) {i : Nat} (hi : i = A.length) : (A ++ p :: B).set i q = A ++ q :: B := by
  subst hi
  simp
theorem rdL_mem {a : List (List Int)} {j : Int} (h0 : 0 ≤ j) (h1 : j < (a.length : Int)) : rd_L1 a j ∈ a := by
  have h : j.toNat < a.length := by omega
  have : rd_L1 a j = a[j.toNat] := by simp [rd_L1, List.getD_eq_getElem?_getD, h]
  rw [this]
  exact List.getElem_mem h
theorem colM_take {a : List (List Int)} {k j : Int} (h0 : 0 ≤ j) (h1 : j < (a.length : Int)) : colM (a.take j.toNat) k ++ [rd (rd_L1 a j) k] = colM (a.take (j + 1).toNat) k := by
  have h : j.toNat < a.length := by omega
  have e : rd_L1 a j = a[j.toNat] := by simp [rd_L1, List.getD_eq_getElem?_getD, h]
  unfold colM
  rw [show (j + 1).toNat = j.toNat + 1 by omega, List.take_succ_eq_append_getElem h, List.map_append, e]
  rfl
theorem rcol_l0 {a : List (List Int)} {n : Nat} (hl : a.length ≤ 1000000) (hr : ∀ r ∈ a, r.length = n) {k : Int} (hk : 0 ≤ k) (hk' : k < (n : Int)) : ∀ (d m : Nat) (j : Int), 0 ≤ j → (a.length : Int) - j = d → d + 2 ≤ m →
    petrinetref08_column.l0 m a k (colM (a.take j.toNat) k) j = some (colM a k) := by
  intro d
  induction d with
  | zero =>
    intro m j h0 hd hm
    obtain ⟨m, rfl⟩ : ∃ z, m = z + 1 := ⟨m - 1, by omega⟩
    rw [petrinetref08_column.l0, if_neg (by omega), List.take_of_length_le (by omega)]
  | succ d ih =>
    intro m j h0 hd hm
    obtain ⟨m, rfl⟩ : ∃ z, m = z + 1 := ⟨m - 1, by omega⟩
    have := hr _ (rdL_mem h0 (show j < (a.length : Int) by omega))
    rw [petrinetref08_column.l0, if_pos (by omega), if_pos h0, if_pos hk, if_pos (by omega), if_pos (by simp [colM]; omega), colM_take h0 (by omega), wrap64_small (by omega) (by omega)]
    exact ih m (j + 1) (by omega) (by omega) (by omega)
theorem rcol_eq {a : List (List Int)} {n : Nat} (hl : a.length ≤ 1000000) (hr : ∀ r ∈ a, r.length = n) {k : Int} (hk : 0 ≤ k) (hk' : k < (n : Int)) (m : Nat) (hm : a.length + 2 ≤ m) : petrinetref08_column.f m a k = some (colM a k) := by
  have := rcol_l0 hl hr hk hk' a.length m 0 (by omega) (by omega) (by omega)
  exact this
theorem transM_take (a : List (List Int)) {j : Int} (h0 : 0 ≤ j) : (List.range j.toNat).map (fun k : Nat => colM a (k : Int)) ++ [colM a j] = (List.range (j + 1).toNat).map fun k : Nat => colM a (k : Int) := by
  rw [show (j + 1).toNat = j.toNat + 1 by omega, List.range_succ, List.map_append]
  simp only [List.map_cons, List.map_nil]
  rw [show ((j.toNat : Nat) : Int) = j by omega]
theorem rtrans_l0 {a : List (List Int)} {n : Nat} (hn : n ≤ 1000000) (hp : 1 ≤ a.length) (hl : a.length ≤ 1000000) (hr : ∀ r ∈ a, r.length = n) : ∀ (d m : Nat) (j : Int), 0 ≤ j → (n : Int) - j = d → d + a.length + 4 ≤ m →
    petrinetref08_Transpose.l0 m a ((List.range j.toNat).map fun k : Nat => colM a (k : Int)) j = some (transM a) := by
  have hn0 : (rd_L1 a 0).length = n := hr _ (rdL_mem (by omega) (by omega))
  intro d
  induction d with
  | zero =>
    intro m j h0 hd hm
    obtain ⟨m, rfl⟩ : ∃ z, m = z + 1 := ⟨m - 1, by omega⟩
    rw [petrinetref08_Transpose.l0, if_pos (by omega), if_neg (by omega)]
    unfold transM
    rw [hn0, show j.toNat = n by omega]
  | succ d ih =>
    intro m j h0 hd hm
    obtain ⟨m, rfl⟩ : ∃ z, m = z + 1 := ⟨m - 1, by omega⟩
    rw [petrinetref08_Transpose.l0, if_pos (by omega), if_pos (by omega), rcol_eq hl hr h0 (by omega) m (by omega)]
    simp only [Option.bind_some]
    rw [if_pos (by simp; omega), transM_take a h0, wrap64_small (by omega) (by omega)]
    exact ih m (j + 1) (by omega) (by omega) (by omega)
theorem mtrans_l1 {a : List (List Int)} {n : Nat} (hn : n ≤ 1000000) (hl : a.length ≤ 1000000) (hr : ∀ r ∈ a, r.length = n) {A B : List (List Int)} {c : Int} (hA : c = (A.length : Int)) (hc' : c < (n : Int)) : ∀ (d m : Nat) (j : Int), 0 ≤ j → (a.length : Int) - j = d → d + 2 ≤ m →
    ∃ m', m' + d + 1 = m ∧ matrix_Transpose.l1 m a (A ++ colM (a.take j.toNat) c :: B) c n c a (a.length : Int) j = matrix_Transpose.l0 m' a (A ++ colM a c :: B) n (wrap64 (c + 1)) := by
  intro d
  induction d with
  | zero =>
    intro m j h0 hd hm
    obtain ⟨m, rfl⟩ : ∃ z, m = z + 1 := ⟨m - 1, by omega⟩
    refine ⟨m, by omega, ?_⟩
    rw [matrix_Transpose.l1, if_neg (by omega), List.take_of_length_le (by omega)]
  | succ d ih =>
    intro m j h0 hd hm
    obtain ⟨m, rfl⟩ : ∃ z, m = z + 1 := ⟨m - 1, by omega⟩
    obtain ⟨m', hm', e⟩ := ih m (j + 1) (by omega) (by omega) (by omega)
    refine ⟨m', by omega, ?_⟩
    have := hr _ (rdL_mem h0 (show j < (a.length : Int) by omega))
    rw [matrix_Transpose.l1, if_pos (by omega), if_pos h0, if_pos (by omega), if_pos (by omega), if_pos (by simp; omega), if_pos (by omega), rdL_mid A B _ hA, if_pos (by simp [colM]; omega), set_mid A B _ _ (by omega), colM_take h0 (by omega), wrap64_small (by omega) (by omega)]
    exact e
theorem mtrans_l0 {a : List (List Int)} {n : Nat} (hn : n ≤ 1000000) (hp : 1 ≤ a.length) (hl : a.length ≤ 1000000) (hr : ∀ r ∈ a, r.length = n) : ∀ (d m : Nat) (j : Nat), (n : Int) - j = d → d * (a.length + 3) + 4 ≤ m →
    matrix_Transpose.l0 m a ((List.range j).map (fun k : Nat => colM a (k : Int)) ++ List.replicate d []) n j = some (transM a) := by
  have hn0 : (rd_L1 a 0).length = n := hr _ (rdL_mem (by omega) (by omega))
  intro d
  induction d with
  | zero =>
    intro m j hd hm
    obtain ⟨m, rfl⟩ : ∃ z, m = z + 1 := ⟨m - 1, by omega⟩
    rw [matrix_Transpose.l0, if_neg (by omega)]
    unfold transM
    rw [hn0, show j = n by omega]
    simp
  | succ d ih =>
    intro m j hd hm
    have e1 : (d + 1) * (a.length + 3) = d * (a.length + 3) + (a.length + 3) := Nat.succ_mul _ _
    obtain ⟨m, rfl⟩ : ∃ z, m = z + 1 := ⟨m - 1, by omega⟩
    rw [matrix_Transpose.l0, if_pos (by omega), List.replicate_succ]
    obtain ⟨m', hm', e⟩ := mtrans_l1 (A := (List.range j).map fun k : Nat => colM a (k : Int)) (B := List.replicate d []) hn hl hr (c := (j : Int)) (by simp) (by omega) a.length m 0 (by omega) (by omega) (by omega)
    have e2 : colM (a.take (0 : Int).toNat) (j : Int) = [] := rfl
    rw [e2] at e
    rw [e, wrap64_small (by omega) (by omega), show ((j : Int) + 1) = ((j + 1 : Nat) : Int) by omega]
    have := ih m' (j + 1) (by omega) (by omega)
    rw [List.range_succ, List.map_append] at this
    simpa using this
theorem validB_iff {a : List (List Int)} : validB a = true ↔ ∃ n : Nat, 1 ≤ a.length ∧ a.length ≤ 64 ∧ 1 ≤ n ∧ n ≤ 64 ∧ (∀ r ∈ a, r.length = n) ∧ (rd_L1 a 0).length = n := by
  unfold validB
  simp only [Bool.and_eq_true, decide_eq_true_eq, List.all_eq_true]
  constructor
  · rintro ⟨⟨⟨⟨h1, h2⟩, h3⟩, h4⟩, h5⟩
    exact ⟨_, h1, h2, h3, h4, h5, rfl⟩
  · rintro ⟨n, h1, h2, h3, h4, h5, h6⟩
    exact ⟨⟨⟨⟨h1, h2⟩, by omega⟩, by omega⟩, fun r hr => by rw [h5 r hr, h6]⟩
def transG (a : List (List Int)) : List (List Int) := if validB a = true then transM a else []
theorem mtrans_eq (a : List (List Int)) (m : Nat) (hm : 10000 ≤ m) : matrix_Transpose.f m a = some (transG a) := by
  unfold matrix_Transpose.f transG
  rw [mvalid_eq a m (by omega)]
  simp only [Option.bind_some]
  by_cases hv : validB a = true
  · rw [if_pos hv, if_pos hv]
    obtain ⟨n, h1, h2, h3, h4, h5, h6⟩ := validB_iff.mp hv
    rw [if_pos (by omega), if_pos (by omega), if_pos (by omega), h6]
    have hb : n * (a.length + 3) ≤ 64 * 67 := Nat.mul_le_mul h4 (by omega)
    have := mtrans_l0 (a := a) (by omega) h1 (by omega) h5 n m 0 (by omega) (by omega)
    simpa using this
  · rw [if_neg hv, if_neg hv]
theorem rtrans_eq (a : List (List Int)) (m : Nat) (hm : 10000 ≤ m) : petrinetref08_Transpose.f m a = some (transG a) := by
  unfold petrinetref08_Transpose.f transG
  rw [rvalid_eq a m (by omega)]
  simp only [Option.bind_some]
  by_cases hv : validB a = true
  · rw [if_pos hv, if_pos hv]
    obtain ⟨n, h1, h2, h3, h4, h5, h6⟩ := validB_iff.mp hv
    exact rtrans_l0 (n := n) (by omega) h1 (by omega) h5 n m 0 (by omega) (by omega) (by omega)
  · rw [if_neg hv, if_neg hv]
theorem transG_small (a : List (List Int)) : (transG a).length ≤ 64 ∧ ∀ r ∈ transG a, r.length ≤ 64 := by
  unfold transG
  by_cases hv : validB a = true
  · rw [if_pos hv]
    obtain ⟨n, h1, h2, h3, h4, h5, h6⟩ := validB_iff.mp hv
    refine ⟨by simp [transM]; omega, fun r hr => ?_⟩
    simp only [transM, List.mem_map] at hr
    obtain ⟨k, _, rfl⟩ := hr
    simp [colM]
    omega
  · rw [if_neg hv]
    simp
end Go.Proofs.Ytckefohfahphpaa.Z
