/- Plain lemmas on numbers and lists for this seat's statements. -/
import Derived.Test.YtojpjknjoikdgaaZx1
import Derived.Test.YtojpjknjoikdgaaZx10
import Derived.Test.YtojpjknjoikdgaaZx11
import Derived.Test.YtojpjknjoikdgaaZx2
import Derived.Test.YtojpjknjoikdgaaZx3
import Derived.Test.YtojpjknjoikdgaaZx9
namespace Go.Proofs.Ytojpjknjoikdgaa.Z
open Go.RowKit Go.Proofs.YtojpjknjoikdgaaW.PrintWords Go.Proofs.YtojpjknjoikdgaaW.PrintLast Go.Proofs.YtojpjknjoikdgaaW.PrintMore
set_option linter.unusedVariables false
set_option linter.unusedSimpArgs false
/-- A number, or 0 and false where it is no int64. -/
def chk (z : Int) : Int × Bool := if in64 z then (z, true) else (0, false)
theorem add_eq {a b : Int} (ha : in64 a) (hb : in64 b) : safeint_Add.f a b = some (chk (a + b)) := by
  unfold safeint_Add.f chk
  obtain ⟨a1, a2⟩ := ha
  obtain ⟨b1, b2⟩ := hb
  by_cases h : in64 (a + b)
  · rw [if_pos h, wrap64_id h]
    obtain ⟨h1, h2⟩ := h
    unfold wrap64
    repeat' split
    all_goals first | rfl | (exfalso; omega)
  · rw [if_neg h]
    have h' : a + b < -9223372036854775808 ∨ 9223372036854775807 < a + b := by unfold in64 at h; omega
    unfold wrap64
    repeat' split
    all_goals first | rfl | (exfalso; omega)
theorem sub_eq {a b : Int} (ha : in64 a) (hb : in64 b) : safeint_Sub.f a b = some (chk (a - b)) := by
  unfold safeint_Sub.f chk
  obtain ⟨a1, a2⟩ := ha
  obtain ⟨b1, b2⟩ := hb
  by_cases h : in64 (a - b)
  · rw [if_pos h, wrap64_id h]
    obtain ⟨h1, h2⟩ := h
    unfold wrap64
    repeat' split
    all_goals first | rfl | (exfalso; omega)
  · rw [if_neg h]
    have h' : a - b < -9223372036854775808 ∨ 9223372036854775807 < a - b := by unfold in64 at h; omega
    unfold wrap64
    repeat' split
    all_goals first | rfl | (exfalso; omega)
theorem mul_eq {a b : Int} (ha : in64 a) (hb : in64 b) : safeint_Mul.f a b = some (chk (a * b)) := by
  unfold safeint_Mul.f chk
  rw [if_pos ⟨ha, hb⟩]
theorem chk_in (z : Int) : in64 (chk z).1 := by
  unfold chk
  split
  · assumption
  · exact ⟨by decide, by decide⟩
theorem chk_ok {z : Int} (h : in64 z) : chk z = (z, true) := by unfold chk; rw [if_pos h]
theorem chk_no {z : Int} (h : ¬ in64 z) : chk z = (0, false) := by unfold chk; rw [if_neg h]
theorem narrow_eq (k : Nat) (v : Int) : petrinetref01_Narrow.f (k + 1) (decide (v < 0)) ((v.natAbs : Int) / 18446744073709551616) ((v.natAbs : Int) % 18446744073709551616) = some (chk v) := by
  unfold petrinetref01_Narrow.f
  simp only [petrinetref01_Narrow.j0]
  by_cases hv : v < 0
  · have hd : decide (v < 0) = true := decide_eq_true hv
    rw [hd]
    by_cases h : in64 v
    · rw [chk_ok h]
      obtain ⟨h1, h2⟩ := h
      have e : (v.natAbs : Int) = -v := by omega
      rw [e]
      have e1 : -v / 18446744073709551616 = 0 := by omega
      have e2 : -v % 18446744073709551616 = -v := by omega
      rw [e1, e2]
      by_cases e3 : -v = 9223372036854775808
      · simp [e3]; omega
      · have e4 : ¬ (-v > 9223372036854775808) := by omega
        simp [e3, e4]
        unfold wrap64
        omega
    · rw [chk_no h]
      have h' : 9223372036854775808 < (v.natAbs : Int) := by unfold in64 at h; omega
      by_cases e1 : (v.natAbs : Int) / 18446744073709551616 > 0
      · rw [if_pos e1]; simp
      · have e2 : (v.natAbs : Int) % 18446744073709551616 > 9223372036854775808 := by omega
        rw [if_neg e1, if_pos e2]; simp
  · have hd : decide (v < 0) = false := decide_eq_false hv
    rw [hd]
    have e : (v.natAbs : Int) = v := by omega
    rw [e]
    by_cases h : in64 v
    · rw [chk_ok h]
      obtain ⟨h1, h2⟩ := h
      have e1 : v / 18446744073709551616 = 0 := by omega
      have e2 : v % 18446744073709551616 = v := by omega
      rw [e1, e2]
      have e3 : ¬ v = 9223372036854775808 := by omega
      have e4 : ¬ (v > 9223372036854775808) := by omega
      simp [e3, e4]
      exact wrap64_id ⟨h1, h2⟩
    · rw [chk_no h]
      have h' : 9223372036854775807 < v := by unfold in64 at h; omega
      by_cases e1 : v / 18446744073709551616 > 0
      · rw [if_pos e1]; simp
      · by_cases e2 : v % 18446744073709551616 > 9223372036854775808
        · rw [if_neg e1, if_pos e2]; simp
        · have e3 : v % 18446744073709551616 = 9223372036854775808 := by omega
          rw [if_neg e1, if_neg e2, if_pos e3]; simp
theorem refadd_eq (k : Nat) {a b : Int} (ha : in64 a) (hb : in64 b) : petrinetref01_Add.f (k + 1) a b = some (chk (a + b)) := by
  unfold petrinetref01_Add.f petrinetref01_Plus.f
  rw [if_pos ⟨ha, hb⟩]
  simp only [Option.bind_some]
  rw [narrow_eq]
  rfl
theorem refsub_eq (k : Nat) {a b : Int} (ha : in64 a) (hb : in64 b) : petrinetref01_Sub.f (k + 1) a b = some (chk (a - b)) := by
  unfold petrinetref01_Sub.f petrinetref01_Plus.f
  have ha' := ha
  have hb' := hb
  obtain ⟨a1, a2⟩ := ha
  obtain ⟨b1, b2⟩ := hb
  by_cases h : b = -9223372036854775808
  · rw [if_pos h]
    by_cases hn : a < 0
    · have hi : in64 (a - b) := ⟨by omega, by omega⟩
      rw [if_pos hn, chk_ok hi, wrap64_id hi]
    · have hi : ¬ in64 (a - b) := by unfold in64; omega
      rw [if_neg hn, chk_no hi]
  · have hi : in64 (-b) := ⟨by omega, by omega⟩
    rw [if_neg h, wrap64_id hi, if_pos ⟨ha', hi⟩]
    simp only [Option.bind_some]
    rw [show a + -b = a - b by omega, narrow_eq]
    rfl
theorem times_parts {x y : Int} (hx : 0 ≤ x) (hx' : x < 18446744073709551616) (hy : 0 ≤ y) (hy' : y < 18446744073709551616) :
    IntKind.u64.wrap (IntKind.u64.wrap (IntKind.u64.wrap (IntKind.u64.wrap (Int.tdiv x 4294967296) * IntKind.u64.wrap (Int.tdiv y 4294967296)) + IntKind.u64.wrap (Int.tdiv (IntKind.u64.wrap (IntKind.u64.wrap (IntKind.u64.wrap (Int.tdiv x 4294967296) * Int.tmod y 4294967296) + IntKind.u64.wrap (Int.tdiv (IntKind.u64.wrap (Int.tmod x 4294967296 * Int.tmod y 4294967296)) 4294967296))) 4294967296)) + IntKind.u64.wrap (Int.tdiv (IntKind.u64.wrap (IntKind.u64.wrap (Int.tmod x 4294967296 * IntKind.u64.wrap (Int.tdiv y 4294967296)) + Int.tmod (IntKind.u64.wrap (IntKind.u64.wrap (IntKind.u64.wrap (Int.tdiv x 4294967296) * Int.tmod y 4294967296) + IntKind.u64.wrap (Int.tdiv (IntKind.u64.wrap (Int.tmod x 4294967296 * Int.tmod y 4294967296)) 4294967296))) 4294967296)) 4294967296)) = x * y / 18446744073709551616 ∧
    IntKind.u64.wrap (IntKind.u64.wrap (Int.tmod (IntKind.u64.wrap (IntKind.u64.wrap (Int.tmod x 4294967296 * IntKind.u64.wrap (Int.tdiv y 4294967296)) + Int.tmod (IntKind.u64.wrap (IntKind.u64.wrap (IntKind.u64.wrap (Int.tdiv x 4294967296) * Int.tmod y 4294967296) + IntKind.u64.wrap (Int.tdiv (IntKind.u64.wrap (Int.tmod x 4294967296 * Int.tmod y 4294967296)) 4294967296))) 4294967296)) 4294967296 * 4294967296) + Int.tmod (IntKind.u64.wrap (Int.tmod x 4294967296 * Int.tmod y 4294967296)) 4294967296) = x * y % 18446744073709551616 := by
  rw [Int.tdiv_eq_ediv_of_nonneg hx, Int.tdiv_eq_ediv_of_nonneg hy, Int.tmod_eq_emod_of_nonneg hx, Int.tmod_eq_emod_of_nonneg hy]
  have ex : x = 4294967296 * (x / 4294967296) + x % 4294967296 := by omega
  have ey : y = 4294967296 * (y / 4294967296) + y % 4294967296 := by omega
  have ep := halves ex ey
  rw [wrap_u64_id (x / 4294967296) (by omega) (by omega), wrap_u64_id (y / 4294967296) (by omega) (by omega)]
  have b1 := mul_le_low (a := x / 4294967296) (b := y / 4294967296) (by omega) (by omega) (by omega) (by omega)
  have b2 := mul_le_low (a := x / 4294967296) (b := y % 4294967296) (by omega) (by omega) (by omega) (by omega)
  have b3 := mul_le_low (a := x % 4294967296) (b := y / 4294967296) (by omega) (by omega) (by omega) (by omega)
  have b4 := mul_le_low (a := x % 4294967296) (b := y % 4294967296) (by omega) (by omega) (by omega) (by omega)
  generalize x / 4294967296 * (y / 4294967296) = p11 at *
  generalize x / 4294967296 * (y % 4294967296) = p10 at *
  generalize x % 4294967296 * (y / 4294967296) = p01 at *
  generalize x % 4294967296 * (y % 4294967296) = p00 at *
  rw [wrap_u64_id p11 (by omega) (by omega), wrap_u64_id p10 (by omega) (by omega), wrap_u64_id p01 (by omega) (by omega), wrap_u64_id p00 (by omega) (by omega)]
  rw [Int.tdiv_eq_ediv_of_nonneg (show (0 : Int) ≤ p00 by omega), Int.tmod_eq_emod_of_nonneg (show (0 : Int) ≤ p00 by omega), wrap_u64_id (p00 / 4294967296) (by omega) (by omega), wrap_u64_id (p10 + p00 / 4294967296) (by omega) (by omega)]
  rw [Int.tdiv_eq_ediv_of_nonneg (show (0 : Int) ≤ p10 + p00 / 4294967296 by omega), Int.tmod_eq_emod_of_nonneg (show (0 : Int) ≤ p10 + p00 / 4294967296 by omega), wrap_u64_id ((p10 + p00 / 4294967296) / 4294967296) (by omega) (by omega), wrap_u64_id (p01 + (p10 + p00 / 4294967296) % 4294967296) (by omega) (by omega)]
  rw [Int.tdiv_eq_ediv_of_nonneg (show (0 : Int) ≤ p01 + (p10 + p00 / 4294967296) % 4294967296 by omega), Int.tmod_eq_emod_of_nonneg (show (0 : Int) ≤ p01 + (p10 + p00 / 4294967296) % 4294967296 by omega), wrap_u64_id ((p01 + (p10 + p00 / 4294967296) % 4294967296) / 4294967296) (by omega) (by omega), wrap_u64_id (p11 + (p10 + p00 / 4294967296) / 4294967296) (by omega) (by omega), wrap_u64_id ((p01 + (p10 + p00 / 4294967296) % 4294967296) % 4294967296 * 4294967296) (by omega) (by omega), wrap_u64, wrap_u64, ep]
  omega
theorem refabs_eq {a : Int} (h : in64 a) : petrinetref01_Abs.f a = some (a.natAbs : Int) := petrinetref01_Plus.abs a h
theorem reftimes_eq {a b : Int} (ha : in64 a) (hb : in64 b) : petrinetref01_Times.f a b = some (decide (a * b < 0), ((a * b).natAbs : Int) / 18446744073709551616, ((a * b).natAbs : Int) % 18446744073709551616) := by
  have hA : (a.natAbs : Int) < 18446744073709551616 := by unfold in64 at ha; omega
  have hB : (b.natAbs : Int) < 18446744073709551616 := by unfold in64 at hb; omega
  obtain ⟨e1, e2⟩ := times_parts (x := (a.natAbs : Int)) (y := (b.natAbs : Int)) (by omega) hA (by omega) hB
  unfold petrinetref01_Times.f
  rw [refabs_eq ha, refabs_eq hb]
  simp only [Option.bind_some]
  rw [e1, e2]
  have ev := safeint_Mul.natAbs a b
  have en : ((a * b).natAbs : Int) = (a.natAbs : Int) * (b.natAbs : Int) := by rw [Int.natAbs_mul]; simp
  rw [← en] at ev ⊢
  by_cases hs : (decide (a < 0) != decide (b < 0)) = true
  · rw [if_pos hs] at ev ⊢
    by_cases h0 : a * b = 0
    · have : ((a * b).natAbs : Int) = 0 := by omega
      rw [this, h0]
      simp
    · have hn : a * b < 0 := by omega
      rw [decide_eq_true hn]
      split
      · rfl
      · rw [decide_eq_true (by omega)]
  · rw [if_neg hs] at ev ⊢
    have hn : ¬ a * b < 0 := by omega
    rw [decide_eq_false hn]
theorem refmul_eq (k : Nat) {a b : Int} (ha : in64 a) (hb : in64 b) : petrinetref01_Mul.f (k + 1) a b = some (chk (a * b)) := by
  unfold petrinetref01_Mul.f
  rw [reftimes_eq ha hb]
  simp only [Option.bind_some]
  rw [narrow_eq]
  rfl
end Go.Proofs.Ytojpjknjoikdgaa.Z
