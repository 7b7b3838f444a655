/- Plain lemmas on numbers and lists for this seat's statements. -/
import Derived.Test.YtojpjknjoikdgaaVa
import Derived.Test.YtojpjknjoikdgaaZx1
import Derived.Test.YtojpjknjoikdgaaZx11
import Derived.Test.YtojpjknjoikdgaaZx12
import Derived.Test.YtojpjknjoikdgaaZx13
import Derived.Test.YtojpjknjoikdgaaZx14
import Derived.Test.YtojpjknjoikdgaaZx15
import Derived.Test.YtojpjknjoikdgaaZx2
import Derived.Test.YtojpjknjoikdgaaZx3
import Derived.Test.YtojpjknjoikdgaaZx4
import Derived.Test.YtojpjknjoikdgaaZx8
namespace Go.Proofs.Ytojpjknjoikdgaa.Z
open Go.RowKit Go.Proofs.YtojpjknjoikdgaaW.PrintWords Go.Proofs.YtojpjknjoikdgaaW.PrintLast Go.Proofs.YtojpjknjoikdgaaW.PrintMore
set_option linter.unusedVariables false
set_option linter.unusedSimpArgs false
/-- All elements are int64s. -/
def ok64 (l : List Int) : Prop := ∀ x ∈ l, in64 x
theorem ok64_wf {l : List Int} (h : ∀ x ∈ l, (Lit.int .i64 x).wf = true) : ok64 l := fun x hx => wf64.mp (h x hx)
theorem rd_mem {l : List Int} {i : Int} (h0 : 0 ≤ i) (h1 : i < (l.length : Int)) : rd l i ∈ l := by
  have : i.toNat < l.length := by omega
  unfold rd
  rw [List.getD_eq_getElem?_getD, List.getElem?_eq_getElem this]
  exact List.getElem_mem this
theorem ok64_rd {l : List Int} (h : ok64 l) {i : Int} (h0 : 0 ≤ i) (h1 : i < (l.length : Int)) : in64 (rd l i) := h _ (rd_mem h0 h1)
theorem drop_rd {l : List Int} {i : Int} (h0 : 0 ≤ i) (h1 : i < (l.length : Int)) : l.drop i.toNat = rd l i :: l.drop (i + 1).toNat := by
  have h2 : i.toNat < l.length := by omega
  have h3 : (i + 1).toNat = i.toNat + 1 := by omega
  have h4 := drop_cons_rd h2
  rw [h3, h4]
  congr 2
  omega
theorem drop_end {l : List Int} {i : Int} (h1 : (l.length : Int) ≤ i) : l.drop i.toNat = [] := List.drop_of_length_le (by omega)
/-- What the program's and the reference's functions of two vectors tell: P says whether all fits. -/
def zipP (P : Int → Int → Bool) (op : Int → Int → Int) : List Int → List Int → List Int → List Int × Int
  | x :: a, y :: b, acc => if P x y = true then zipP P op a b (acc ++ [op x y]) else ([], 3)
  | _, _, acc => (acc, 0)
theorem each_zip {g : Int → Int → Option (Int × Bool)} {P : Int → Int → Bool} {op : Int → Int → Int} : ∀ (a b acc : List Int), (∀ x ∈ a, ∀ y ∈ b, g x y = some (if P x y = true then (op x y, true) else (0, false))) → each_go g a b acc = some (zipP P op a b acc)
  | x :: a, y :: b, acc, h => by
    rw [each_go, zipP, h x (by simp) y (by simp)]
    simp only [Option.bind_some]
    by_cases hp : P x y = true
    · simp only [hp, if_true]
      exact each_zip a b _ (fun u hu v hv => h u (by simp [hu]) v (by simp [hv]))
    · simp only [hp]
      simp
  | [], [], acc, _ => by simp [each_go, zipP]
  | [], _ :: _, acc, _ => by simp [each_go, zipP]
  | _ :: _, [], acc, _ => by simp [each_go, zipP]
theorem zip_congr {P P' : Int → Int → Bool} {op op' : Int → Int → Int} : ∀ (a b acc : List Int), (∀ x ∈ a, ∀ y ∈ b, P x y = P' x y ∧ op x y = op' x y) → zipP P op a b acc = zipP P' op' a b acc
  | x :: a, y :: b, acc, h => by
    rw [zipP, zipP, (h x (by simp) y (by simp)).1, (h x (by simp) y (by simp)).2]
    split
    · exact zip_congr a b _ (fun u hu v hv => h u (by simp [hu]) v (by simp [hv]))
    · rfl
  | [], [], acc, _ => by simp [zipP]
  | [], _ :: _, acc, _ => by simp [zipP]
  | _ :: _, [], acc, _ => by simp [zipP]
def sumP (x y : Int) : Bool := decide (in64 (x + y))
def diffP (x y : Int) : Bool := decide (in64 (x - y))
def combP (i k x y : Int) : Bool := decide (in64 (x * i)) && decide (in64 (y * k)) && decide (in64 (x * i + y * k))
theorem chk_if (z : Int) : some (chk z) = some (if decide (in64 z) = true then (z, true) else (0, false)) := by
  unfold chk
  by_cases h : in64 z
  · rw [if_pos h, if_pos (decide_eq_true h)]
  · rw [if_neg h, if_neg (by simp [h])]
theorem vadd_eq {a b : List Int} (ha : ok64 a) (hb : ok64 b) (hl : a.length ≤ 100) : vector_Add.f a b = some (if a.length = b.length then zipP sumP (· + ·) a b [] else ([], 2)) := by
  unfold vector_Add.f each_f
  rw [if_pos (by omega)]
  split
  · exact each_zip a b [] (fun x hx y hy => by rw [add_eq (ha x hx) (hb y hy), chk_if]; rfl)
  · rfl
theorem vsub_eq {a b : List Int} (ha : ok64 a) (hb : ok64 b) (hl : a.length ≤ 100) : vector_Sub.f a b = some (if a.length = b.length then zipP diffP (· - ·) a b [] else ([], 2)) := by
  unfold vector_Sub.f each_f
  rw [if_pos (by omega)]
  split
  · exact each_zip a b [] (fun x hx y hy => by rw [sub_eq (ha x hx) (hb y hy), chk_if]; rfl)
  · rfl
theorem comb_eq {i k x y : Int} (hi : in64 i) (hk : in64 k) (hx : in64 x) (hy : in64 y) : comb i k x y = some (if combP i k x y = true then (x * i + y * k, true) else (0, false)) := by
  unfold comb combP
  rw [mul_eq hx hi, mul_eq hy hk]
  by_cases h1 : in64 (x * i)
  · rw [chk_ok h1]
    simp only [Option.bind_some, if_true]
    by_cases h2 : in64 (y * k)
    · rw [chk_ok h2]
      simp only [if_true]
      rw [add_eq h1 h2, chk_if]
      simp [h1, h2]
    · rw [chk_no h2]
      simp [h2]
  · rw [chk_no h1]
    simp [h1]
theorem vcomb_eq {a b : List Int} {i k : Int} (ha : ok64 a) (hb : ok64 b) (hi : in64 i) (hk : in64 k) (hl : a.length ≤ 100) : vector_Combine.f a i b k = some (if a.length = b.length then zipP (combP i k) (fun x y => x * i + y * k) a b [] else ([], 2)) := by
  unfold vector_Combine.f each_f
  rw [if_pos (by omega)]
  split
  · exact each_zip a b [] (fun x hx y hy => comb_eq hi hk (ha x hx) (hb y hy))
  · rfl
def scaleP (k x _ : Int) : Bool := decide (in64 (x * k))
theorem vscale_eq {a : List Int} {k : Int} (ha : ok64 a) (hk : in64 k) (hl : a.length ≤ 100) : vector_Scale.f a k = some (zipP (scaleP k) (fun x _ => x * k) a a []) := by
  unfold vector_Scale.f each_f
  rw [if_pos (by omega), if_pos rfl]
  exact each_zip a a [] (fun x hx y hy => by rw [mul_eq (ha x hx) hk, chk_if]; rfl)
/-- The reference's sums of multiples. -/
theorem rcomb_l0 {a b : List Int} {i k : Int} (ha : ok64 a) (hb : ok64 b) (hi : in64 i) (hk : in64 k) (hl : a.length ≤ 100) (he : a.length = b.length) :
    ∀ (d n : Nat) (j : Int) (acc : List Int), 0 ≤ j → (a.length : Int) - j = d → d + 2 ≤ n → acc.length ≤ j → petrinetref03_Combine.l0 n a i b k acc j = some (zipP (combP i k) (fun x y => x * i + y * k) (a.drop j.toNat) (b.drop j.toNat) acc) := by
  intro d
  induction d with
  | zero =>
    intro n j acc h0 hd hn hacc
    obtain ⟨n, rfl⟩ : ∃ m, n = m + 1 := ⟨n - 1, by omega⟩
    simp only [petrinetref03_Combine.l0]
    rw [if_neg (by omega), drop_end (by omega)]
    simp [zipP]
  | succ d ih =>
    intro n j acc h0 hd hn hacc
    obtain ⟨n, rfl⟩ : ∃ m, n = m + 1 + 1 := ⟨n - 2, by omega⟩
    have h1 : j < (a.length : Int) := by omega
    have h2 : j < (b.length : Int) := by omega
    have xa := ok64_rd ha h0 h1
    have xb := ok64_rd hb h0 h2
    rw [petrinetref03_Combine.l0, if_pos h1, if_pos h0, refmul_eq n xa hi]
    simp only [Option.bind_some]
    rw [if_pos h2, refmul_eq n xb hk]
    simp only [Option.bind_some]
    rw [refadd_eq n (chk_in _) (chk_in _)]
    simp only [Option.bind_some]
    rw [drop_rd h0 h1, drop_rd h0 h2, zipP]
    unfold combP
    by_cases e1 : in64 (rd a j * i)
    · rw [chk_ok e1]
      by_cases e2 : in64 (rd b j * k)
      · rw [chk_ok e2]
        by_cases e3 : in64 (rd a j * i + rd b j * k)
        · rw [chk_ok e3]
          simp only [if_true, e1, e2, e3, decide_true, Bool.and_self]
          rw [if_pos (by omega), wrap64_id ⟨by omega, by omega⟩, ih (n + 1) (j + 1) _ (by omega) (by omega) (by omega) (by simp; omega)]
          rfl
        · rw [chk_no e3]
          simp [e3]
      · rw [chk_no e2]
        simp [e2]
    · rw [chk_no e1]
      simp [e1]
theorem rcomb_eq {a b : List Int} {i k : Int} (ha : ok64 a) (hb : ok64 b) (hi : in64 i) (hk : in64 k) (hl : a.length ≤ 100) (n : Nat) (hn : 102 ≤ n) : petrinetref03_Combine.f n a i b k = some (if a.length = b.length then zipP (combP i k) (fun x y => x * i + y * k) a b [] else ([], 2)) := by
  unfold petrinetref03_Combine.f
  by_cases h : a.length = b.length
  · rw [if_pos (by omega), if_pos h, rcomb_l0 ha hb hi hk hl h a.length n 0 [] (by omega) (by omega) (by omega) (by simp)]
    simp
  · rw [if_neg (by omega), if_neg h]
theorem radd_eq {a b : List Int} (ha : ok64 a) (hb : ok64 b) (hl : a.length ≤ 100) (n : Nat) (hn : 102 ≤ n) : petrinetref03_Add.f n a b = some (if a.length = b.length then zipP sumP (· + ·) a b [] else ([], 2)) := by
  unfold petrinetref03_Add.f
  rw [rcomb_eq ha hb ⟨by decide, by decide⟩ ⟨by decide, by decide⟩ hl n hn]
  simp only [Option.bind_some]
  congr 1
  by_cases h : a.length = b.length
  · rw [if_pos h, if_pos h]
    rw [zip_congr (P' := sumP) (op' := (· + ·)) a b [] (fun x hx y hy => ?_)]
    have hx' := ha x hx
    have hy' := hb y hy
    refine ⟨?_, by omega⟩
    unfold combP sumP
    simp [hx', hy']
  · rw [if_neg h, if_neg h]
theorem rsub_l0 {a b : List Int} (ha : ok64 a) (hb : ok64 b) (hl : a.length ≤ 100) (he : a.length = b.length) :
    ∀ (d n : Nat) (j : Int) (acc : List Int), 0 ≤ j → (a.length : Int) - j = d → d + 2 ≤ n → acc.length ≤ j → petrinetref03_Sub.l0 n a b acc j = some (zipP diffP (· - ·) (a.drop j.toNat) (b.drop j.toNat) acc) := by
  intro d
  induction d with
  | zero =>
    intro n j acc h0 hd hn hacc
    obtain ⟨n, rfl⟩ : ∃ m, n = m + 1 := ⟨n - 1, by omega⟩
    simp only [petrinetref03_Sub.l0]
    rw [if_neg (by omega), drop_end (by omega)]
    simp [zipP]
  | succ d ih =>
    intro n j acc h0 hd hn hacc
    obtain ⟨n, rfl⟩ : ∃ m, n = m + 1 + 1 := ⟨n - 2, by omega⟩
    have h1 : j < (a.length : Int) := by omega
    have h2 : j < (b.length : Int) := by omega
    have xa := ok64_rd ha h0 h1
    have xb := ok64_rd hb h0 h2
    rw [petrinetref03_Sub.l0, if_pos h1, if_pos h0, if_pos h2, refsub_eq n xa xb]
    simp only [Option.bind_some]
    rw [drop_rd h0 h1, drop_rd h0 h2, zipP]
    unfold diffP
    by_cases e1 : in64 (rd a j - rd b j)
    · rw [chk_ok e1]
      simp only [if_true, e1, decide_true]
      rw [if_pos (by omega), wrap64_id ⟨by omega, by omega⟩, ih (n + 1) (j + 1) _ (by omega) (by omega) (by omega) (by simp; omega)]
      rfl
    · rw [chk_no e1]
      simp [e1]
theorem rsub_eq {a b : List Int} (ha : ok64 a) (hb : ok64 b) (hl : a.length ≤ 100) (n : Nat) (hn : 102 ≤ n) : petrinetref03_Sub.f n a b = some (if a.length = b.length then zipP diffP (· - ·) a b [] else ([], 2)) := by
  unfold petrinetref03_Sub.f
  by_cases h : a.length = b.length
  · rw [if_pos (by omega), if_pos h, rsub_l0 ha hb hl h a.length n 0 [] (by omega) (by omega) (by omega) (by simp)]
    simp
  · rw [if_neg (by omega), if_neg h]
theorem rscale_l0 {a : List Int} {k : Int} (ha : ok64 a) (hk : in64 k) (hl : a.length ≤ 100) :
    ∀ (d n : Nat) (j : Int) (acc : List Int), 0 ≤ j → (a.length : Int) - j = d → d + 2 ≤ n → acc.length ≤ j → petrinetref03_Scale.l0 n a k acc j = some (zipP (scaleP k) (fun x _ => x * k) (a.drop j.toNat) (a.drop j.toNat) acc) := by
  intro d
  induction d with
  | zero =>
    intro n j acc h0 hd hn hacc
    obtain ⟨n, rfl⟩ : ∃ m, n = m + 1 := ⟨n - 1, by omega⟩
    simp only [petrinetref03_Scale.l0]
    rw [if_neg (by omega), drop_end (by omega)]
    simp [zipP]
  | succ d ih =>
    intro n j acc h0 hd hn hacc
    obtain ⟨n, rfl⟩ : ∃ m, n = m + 1 + 1 := ⟨n - 2, by omega⟩
    have h1 : j < (a.length : Int) := by omega
    have xa := ok64_rd ha h0 h1
    rw [petrinetref03_Scale.l0, if_pos h1, if_pos h0, refmul_eq n xa hk]
    simp only [Option.bind_some]
    rw [drop_rd h0 h1, zipP]
    unfold scaleP
    by_cases e1 : in64 (rd a j * k)
    · rw [chk_ok e1]
      simp only [if_true, e1, decide_true]
      rw [if_pos (by omega), wrap64_id ⟨by omega, by omega⟩, ih (n + 1) (j + 1) _ (by omega) (by omega) (by omega) (by simp; omega)]
      rfl
    · rw [chk_no e1]
      simp [e1]
theorem rscale_eq {a : List Int} {k : Int} (ha : ok64 a) (hk : in64 k) (hl : a.length ≤ 100) (n : Nat) (hn : 102 ≤ n) : petrinetref03_Scale.f n a k = some (zipP (scaleP k) (fun x _ => x * k) a a []) := by
  unfold petrinetref03_Scale.f
  rw [rscale_l0 ha hk hl a.length n 0 [] (by omega) (by omega) (by omega) (by simp)]
  simp
/-- The inner product, as both tell it. -/
def dotG : List Int → List Int → Int → Int × Int
  | x :: a, y :: b, s => if in64 (x * y) then (if in64 (s + x * y) then dotG a b (s + x * y) else (0, 3)) else (0, 3)
  | _, _, s => (s, 0)
theorem vdot_l0 {a b : List Int} (ha : ok64 a) (hb : ok64 b) (hl : a.length ≤ 100) (he : a.length = b.length) :
    ∀ (d n : Nat) (j s : Int), 0 ≤ j → (a.length : Int) - j = d → d + 2 ≤ n → in64 s → vector_Dot.l0 n b s a (a.length : Int) j = some (dotG (a.drop j.toNat) (b.drop j.toNat) s) := by
  intro d
  induction d with
  | zero =>
    intro n j s h0 hd hn hs
    obtain ⟨n, rfl⟩ : ∃ m, n = m + 1 := ⟨n - 1, by omega⟩
    simp only [vector_Dot.l0]
    rw [if_neg (by omega), drop_end (by omega)]
    simp [dotG]
  | succ d ih =>
    intro n j s h0 hd hn hs
    obtain ⟨n, rfl⟩ : ∃ m, n = m + 1 + 1 := ⟨n - 2, by omega⟩
    have h1 : j < (a.length : Int) := by omega
    have h2 : j < (b.length : Int) := by omega
    have xa := ok64_rd ha h0 h1
    have xb := ok64_rd hb h0 h2
    rw [vector_Dot.l0, if_pos h1, if_pos h0, if_pos h1, if_pos h2, mul_eq xa xb]
    simp only [Option.bind_some]
    rw [drop_rd h0 h1, drop_rd h0 h2, dotG]
    by_cases e1 : in64 (rd a j * rd b j)
    · rw [chk_ok e1, if_pos e1]
      simp only [if_true]
      rw [add_eq hs e1]
      simp only [Option.bind_some]
      by_cases e2 : in64 (s + rd a j * rd b j)
      · rw [chk_ok e2, if_pos e2]
        simp only [if_true]
        rw [wrap64_id ⟨by omega, by omega⟩, ih (n + 1) (j + 1) _ (by omega) (by omega) (by omega) e2]
      · rw [chk_no e2, if_neg e2]
        simp
    · rw [chk_no e1, if_neg e1]
      simp
theorem vdot_eq {a b : List Int} (ha : ok64 a) (hb : ok64 b) (hl : a.length ≤ 100) (n : Nat) (hn : 102 ≤ n) : vector_Dot.f n a b = some (if a.length = b.length then dotG a b 0 else (0, 2)) := by
  unfold vector_Dot.f
  by_cases h : a.length = b.length
  · rw [if_pos (by omega), if_pos h, vdot_l0 ha hb hl h a.length n 0 0 (by omega) (by omega) (by omega) ⟨by decide, by decide⟩]
    simp
  · rw [if_neg (by omega), if_neg h]
theorem rdot_l0 {a b : List Int} (ha : ok64 a) (hb : ok64 b) (hl : a.length ≤ 100) (he : a.length = b.length) :
    ∀ (d n : Nat) (j s : Int), 0 ≤ j → (a.length : Int) - j = d → d + 2 ≤ n → in64 s → petrinetref03_Dot.l0 n a b s j = some (dotG (a.drop j.toNat) (b.drop j.toNat) s) := by
  intro d
  induction d with
  | zero =>
    intro n j s h0 hd hn hs
    obtain ⟨n, rfl⟩ : ∃ m, n = m + 1 := ⟨n - 1, by omega⟩
    simp only [petrinetref03_Dot.l0]
    rw [if_neg (by omega), drop_end (by omega)]
    simp [dotG]
  | succ d ih =>
    intro n j s h0 hd hn hs
    obtain ⟨n, rfl⟩ : ∃ m, n = m + 1 + 1 := ⟨n - 2, by omega⟩
    have h1 : j < (a.length : Int) := by omega
    have h2 : j < (b.length : Int) := by omega
    have xa := ok64_rd ha h0 h1
    have xb := ok64_rd hb h0 h2
    rw [petrinetref03_Dot.l0, if_pos h1, if_pos h0, if_pos h2, refmul_eq n xa xb]
    simp only [Option.bind_some]
    rw [drop_rd h0 h1, drop_rd h0 h2, dotG]
    by_cases e1 : in64 (rd a j * rd b j)
    · rw [chk_ok e1, if_pos e1]
      simp only [if_true]
      rw [refadd_eq n hs e1]
      simp only [Option.bind_some]
      by_cases e2 : in64 (s + rd a j * rd b j)
      · rw [chk_ok e2, if_pos e2]
        simp only [if_true]
        rw [wrap64_id ⟨by omega, by omega⟩, ih (n + 1) (j + 1) _ (by omega) (by omega) (by omega) e2]
      · rw [chk_no e2, if_neg e2]
        simp
    · rw [chk_no e1, if_neg e1]
      simp
theorem rdot_eq {a b : List Int} (ha : ok64 a) (hb : ok64 b) (hl : a.length ≤ 100) (n : Nat) (hn : 102 ≤ n) : petrinetref03_Dot.f n a b = some (if a.length = b.length then dotG a b 0 else (0, 2)) := by
  unfold petrinetref03_Dot.f
  by_cases h : a.length = b.length
  · rw [if_pos (by omega), if_pos h, rdot_l0 ha hb hl h a.length n 0 0 (by omega) (by omega) (by omega) ⟨by decide, by decide⟩]
    simp
  · rw [if_neg (by omega), if_neg h]
/-- The lexicographic comparison. -/
def cmp : List Int → List Int → Int
  | [], [] => 0
  | [], _ :: _ => -1
  | _ :: _, [] => 1
  | x :: a, y :: b => if x < y then -1 else if y < x then 1 else cmp a b
theorem cmp_self : ∀ a : List Int, cmp a a = 0
  | [] => rfl
  | x :: a => by rw [cmp, if_neg (by omega), if_neg (by omega), cmp_self a]
theorem cmp_ends {a b : List Int} : (a = [] ∨ b = []) → cmp a b = if (a.length : Int) < b.length then -1 else if (a.length : Int) > b.length then 1 else 0 := by
  cases a <;> cases b <;> simp [cmp] <;> omega
theorem rcmp_l0 {a b : List Int} (hl : a.length ≤ 1000000) :
    ∀ (d n : Nat) (j : Int), 0 ≤ j → j ≤ (a.length : Int) → j ≤ (b.length : Int) → (a.length : Int) - j = d → 2 * d + 3 ≤ n → petrinetref03_Compare.l0 n a b j = some (cmp (a.drop j.toNat) (b.drop j.toNat)) := by
  intro d
  induction d with
  | zero =>
    intro n j h0 ha hb hd hn
    obtain ⟨n, rfl⟩ : ∃ m, n = m + 1 + 1 := ⟨n - 2, by omega⟩
    rw [petrinetref03_Compare.l0, if_neg (by omega), petrinetref03_Compare.j1, if_neg (by decide), cmp_ends (.inl (drop_end (by omega)))]
    simp only [List.length_drop]
    repeat' split
    all_goals first | rfl | (exfalso; omega)
  | succ d ih =>
    intro n j h0 ha hb hd hn
    obtain ⟨n, rfl⟩ : ∃ m, n = m + 1 + 1 := ⟨n - 2, by omega⟩
    have h1 : j < (a.length : Int) := by omega
    rw [petrinetref03_Compare.l0, if_pos h1, petrinetref03_Compare.j1]
    by_cases h2 : j < (b.length : Int)
    · rw [if_pos (decide_eq_true h2), if_pos h0, if_pos h1, if_pos h2, drop_rd h0 h1, drop_rd h0 h2, cmp]
      by_cases e1 : rd a j < rd b j
      · rw [if_pos e1, if_pos e1]
      · rw [if_neg e1, if_neg e1]
        by_cases e2 : rd b j < rd a j
        · rw [if_pos e2, if_pos e2]
        · rw [if_neg e2, if_neg e2, wrap64_id ⟨by omega, by omega⟩, ih n (j + 1) (by omega) (by omega) (by omega) (by omega) (by omega)]
    · rw [if_neg (by simp [h2]), cmp_ends (.inr (drop_end (by omega)))]
      simp only [List.length_drop]
      repeat' split
      all_goals first | rfl | (exfalso; omega)
theorem rcmp_eq {a b : List Int} (hl : a.length ≤ 1000000) (n : Nat) (hn : 2 * a.length + 3 ≤ n) : petrinetref03_Compare.f n a b = some (cmp a b) := by
  unfold petrinetref03_Compare.f
  rw [rcmp_l0 hl a.length n 0 (by omega) (by omega) (by omega) (by omega) hn]
  simp
theorem same_self {a : List Int} (hl : a.length ≤ 1000000) (n : Nat) (hn : 2 * a.length + 3 ≤ n) : petrinetref03_Same.f n a a = some true := by
  unfold petrinetref03_Same.f
  rw [rcmp_eq hl n hn, cmp_self]
  rfl
theorem zip_len {P : Int → Int → Bool} {op : Int → Int → Int} : ∀ (a b acc : List Int), (zipP P op a b acc).1.length ≤ acc.length + a.length
  | x :: a, y :: b, acc => by
    rw [zipP]
    split
    · have := zip_len (P := P) (op := op) a b (acc ++ [op x y])
      simp at this ⊢
      omega
    · simp
  | [], [], acc => by simp [zipP]
  | [], _ :: _, acc => by simp [zipP]
  | _ :: _, [], acc => by simp [zipP]
theorem lives_eq (k : Nat) : petrinetlaw03_lives.f (k + 40) = some true := by
  have h : petrinetlaw03_lives.f 40 = some true := by decide +kernel
  exact at_rounds (g := fun n => petrinetlaw03_lives.f n) (fun n => petrinetlaw03_lives.mono n) (by omega) h
end Go.Proofs.Ytojpjknjoikdgaa.Z
