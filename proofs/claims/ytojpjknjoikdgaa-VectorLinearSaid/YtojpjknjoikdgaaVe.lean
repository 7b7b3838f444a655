/- Plain lemmas on numbers and lists for this seat's statements. -/
import Derived.Test.YtojpjknjoikdgaaVb
namespace Go.Proofs.Ytojpjknjoikdgaa.Z
open Go.RowKit Go.Proofs.YtojpjknjoikdgaaW.PrintWords Go.Proofs.YtojpjknjoikdgaaW.PrintLast Go.Proofs.YtojpjknjoikdgaaW.PrintMore
set_option linter.unusedVariables false
set_option linter.unusedSimpArgs false
theorem abs_mul_le {x y m n : Int} (hx : -m ≤ x ∧ x ≤ m) (hy : -n ≤ y ∧ y ≤ n) (hm : 0 ≤ m) (hn : 0 ≤ n) : -(m * n) ≤ x * y ∧ x * y ≤ m * n := by
  have h : (x * y).natAbs ≤ (m * n).natAbs := by
    rw [Int.natAbs_mul, Int.natAbs_mul]
    exact Nat.mul_le_mul (by omega) (by omega)
  have := Int.mul_nonneg hm hn
  omega
theorem zip_all {P : Int → Int → Bool} {op : Int → Int → Int} : ∀ (a b acc : List Int), (∀ x ∈ a, ∀ y ∈ b, P x y = true) → zipP P op a b acc = (acc ++ List.zipWith op a b, 0)
  | x :: a, y :: b, acc, h => by
    rw [zipP, if_pos (h x (by simp) y (by simp)), zip_all a b _ (fun u hu v hv => h u (by simp [hu]) v (by simp [hv]))]
    simp
  | [], [], acc, _ => by simp [zipP]
  | [], _ :: _, acc, _ => by simp [zipP]
  | _ :: _, [], acc, _ => by simp [zipP]
theorem zipWith_mem {op : Int → Int → Int} {z : Int} : ∀ {a b : List Int}, z ∈ List.zipWith op a b → ∃ x ∈ a, ∃ y ∈ b, z = op x y
  | x :: a, y :: b, h => by
    rw [List.zipWith_cons_cons, List.mem_cons] at h
    rcases h with h | h
    · exact ⟨x, by simp, y, by simp, h⟩
    · obtain ⟨u, hu, v, hv, e⟩ := zipWith_mem h
      exact ⟨u, by simp [hu], v, by simp [hv], e⟩
  | [], [], h => by simp at h
  | [], _ :: _, h => by simp at h
  | _ :: _, [], h => by simp at h
theorem rd_zip {op : Int → Int → Int} : ∀ {a b : List Int} {j : Int}, 0 ≤ j → j < (a.length : Int) → j < (b.length : Int) → rd (List.zipWith op a b) j = op (rd a j) (rd b j) := by
  intro a b j h0 h1 h2
  have g1 : j.toNat < a.length := by omega
  have g2 : j.toNat < b.length := by omega
  simp [rd, List.getD_eq_getElem?_getD, List.getElem?_zipWith, g1, g2]
end Go.Proofs.Ytojpjknjoikdgaa.Z
