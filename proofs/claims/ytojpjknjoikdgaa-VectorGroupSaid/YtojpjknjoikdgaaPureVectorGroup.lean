/- The pure statement of VectorGroup: for all lists of int64s that a call can hold, the printed function answers true. -/
import Derived.Test.YtojpjknjoikdgaaZx1
import Derived.Test.YtojpjknjoikdgaaZx2
import Derived.Test.YtojpjknjoikdgaaZx20
import Derived.Test.YtojpjknjoikdgaaZx21
import Derived.Test.YtojpjknjoikdgaaZx3
import Derived.Test.YtojpjknjoikdgaaZx4
import Derived.Test.YtojpjknjoikdgaaZx8
namespace Go.Proofs.Ytojpjknjoikdgaa.Pure
open Go.RowKit Go.Proofs.Ytojpjknjoikdgaa.Z Go.Proofs.YtojpjknjoikdgaaW.PrintWords Go.Proofs.YtojpjknjoikdgaaW.PrintLast Go.Proofs.YtojpjknjoikdgaaW.PrintMore
set_option linter.unusedVariables false
set_option linter.unusedSimpArgs false
def chk (z : Int) : Int × Bool := if in64 z then (z, true) else (0, false)
theorem add_eq {a b : Int} (ha : in64 a) (hb : in64 b) : safeint_Add.f a b = some (chk (a + b)) := by
  unfold safeint_Add.f chk
  obtain ⟨a1, a2⟩ := ha
  obtain ⟨b1, b2⟩ := hb
  by_cases h : in64 (a + b)
  · rw [if_pos h, wrap64_id h]
    obtain ⟨h1, h2⟩ := h
    unfold wrap64
    repeat' split
    all_goals first | rfl | (exfalso; omega)
  · rw [if_neg h]
    have h' : a + b < -9223372036854775808 ∨ 9223372036854775807 < a + b := by unfold in64 at h; omega
    unfold wrap64
    repeat' split
    all_goals first | rfl | (exfalso; omega)
theorem sub_eq {a b : Int} (ha : in64 a) (hb : in64 b) : safeint_Sub.f a b = some (chk (a - b)) := by
  unfold safeint_Sub.f chk
  obtain ⟨a1, a2⟩ := ha
  obtain ⟨b1, b2⟩ := hb
  by_cases h : in64 (a - b)
  · rw [if_pos h, wrap64_id h]
    obtain ⟨h1, h2⟩ := h
    unfold wrap64
    repeat' split
    all_goals first | rfl | (exfalso; omega)
  · rw [if_neg h]
    have h' : a - b < -9223372036854775808 ∨ 9223372036854775807 < a - b := by unfold in64 at h; omega
    unfold wrap64
    repeat' split
    all_goals first | rfl | (exfalso; omega)
theorem mul_eq {a b : Int} (ha : in64 a) (hb : in64 b) : safeint_Mul.f a b = some (chk (a * b)) := by
  unfold safeint_Mul.f chk
  rw [if_pos ⟨ha, hb⟩]
theorem chk_ok {z : Int} (h : in64 z) : chk z = (z, true) := by unfold chk; rw [if_pos h]
theorem chk_no {z : Int} (h : ¬ in64 z) : chk z = (0, false) := by unfold chk; rw [if_neg h]
def ok64 (l : List Int) : Prop := ∀ x ∈ l, in64 x
theorem rd_mem {l : List Int} {i : Int} (h0 : 0 ≤ i) (h1 : i < (l.length : Int)) : rd l i ∈ l := by
  have : i.toNat < l.length := by omega
  unfold rd
  rw [List.getD_eq_getElem?_getD, List.getElem?_eq_getElem this]
  exact List.getElem_mem this
theorem drop_rd {l : List Int} {i : Int} (h0 : 0 ≤ i) (h1 : i < (l.length : Int)) : l.drop i.toNat = rd l i :: l.drop (i + 1).toNat := by
  have h2 : i.toNat < l.length := by omega
  have h3 : (i + 1).toNat = i.toNat + 1 := by omega
  have h4 := drop_cons_rd h2
  rw [h3, h4]
  congr 2
  omega
theorem drop_end {l : List Int} {i : Int} (h1 : (l.length : Int) ≤ i) : l.drop i.toNat = [] := List.drop_of_length_le (by omega)
def zipP (P : Int → Int → Bool) (op : Int → Int → Int) : List Int → List Int → List Int → List Int × Int
  | x :: a, y :: b, acc => if P x y = true then zipP P op a b (acc ++ [op x y]) else ([], 3)
  | _, _, acc => (acc, 0)
theorem each_zip {g : Int → Int → Option (Int × Bool)} {P : Int → Int → Bool} {op : Int → Int → Int} : ∀ (a b acc : List Int), (∀ x ∈ a, ∀ y ∈ b, g x y = some (if P x y = true then (op x y, true) else (0, false))) → each_go g a b acc = some (zipP P op a b acc)
  | x :: a, y :: b, acc, h => by
    rw [each_go, zipP, h x (by simp) y (by simp)]
    simp only [Option.bind_some]
    by_cases hp : P x y = true
    · simp only [hp, if_true]
      exact each_zip a b _ (fun u hu v hv => h u (by simp [hu]) v (by simp [hv]))
    · simp only [hp]
      simp
  | [], [], acc, _ => by simp [each_go, zipP]
  | [], _ :: _, acc, _ => by simp [each_go, zipP]
  | _ :: _, [], acc, _ => by simp [each_go, zipP]
def sumP (x y : Int) : Bool := decide (in64 (x + y))
def diffP (x y : Int) : Bool := decide (in64 (x - y))
def combP (i k x y : Int) : Bool := decide (in64 (x * i)) && decide (in64 (y * k)) && decide (in64 (x * i + y * k))
theorem chk_if (z : Int) : some (chk z) = some (if decide (in64 z) = true then (z, true) else (0, false)) := by
  unfold chk
  by_cases h : in64 z
  · rw [if_pos h, if_pos (decide_eq_true h)]
  · rw [if_neg h, if_neg (by simp [h])]
theorem vadd_eq {a b : List Int} (ha : ok64 a) (hb : ok64 b) (hl : a.length ≤ 100) : vector_Add.f a b = some (if a.length = b.length then zipP sumP (· + ·) a b [] else ([], 2)) := by
  unfold vector_Add.f each_f
  rw [if_pos (by omega)]
  split
  · exact each_zip a b [] (fun x hx y hy => by rw [add_eq (ha x hx) (hb y hy), chk_if]; rfl)
  · rfl
theorem vsub_eq {a b : List Int} (ha : ok64 a) (hb : ok64 b) (hl : a.length ≤ 100) : vector_Sub.f a b = some (if a.length = b.length then zipP diffP (· - ·) a b [] else ([], 2)) := by
  unfold vector_Sub.f each_f
  rw [if_pos (by omega)]
  split
  · exact each_zip a b [] (fun x hx y hy => by rw [sub_eq (ha x hx) (hb y hy), chk_if]; rfl)
  · rfl
theorem comb_eq {i k x y : Int} (hi : in64 i) (hk : in64 k) (hx : in64 x) (hy : in64 y) : comb i k x y = some (if combP i k x y = true then (x * i + y * k, true) else (0, false)) := by
  unfold comb combP
  rw [mul_eq hx hi, mul_eq hy hk]
  by_cases h1 : in64 (x * i)
  · rw [chk_ok h1]
    simp only [Option.bind_some, if_true]
    by_cases h2 : in64 (y * k)
    · rw [chk_ok h2]
      simp only [if_true]
      rw [add_eq h1 h2, chk_if]
      simp [h1, h2]
    · rw [chk_no h2]
      simp [h2]
  · rw [chk_no h1]
    simp [h1]
theorem vcomb_eq {a b : List Int} {i k : Int} (ha : ok64 a) (hb : ok64 b) (hi : in64 i) (hk : in64 k) (hl : a.length ≤ 100) : vector_Combine.f a i b k = some (if a.length = b.length then zipP (combP i k) (fun x y => x * i + y * k) a b [] else ([], 2)) := by
  unfold vector_Combine.f each_f
  rw [if_pos (by omega)]
  split
  · exact each_zip a b [] (fun x hx y hy => comb_eq hi hk (ha x hx) (hb y hy))
  · rfl
def scaleP (k x _ : Int) : Bool := decide (in64 (x * k))
theorem vscale_eq {a : List Int} {k : Int} (ha : ok64 a) (hk : in64 k) (hl : a.length ≤ 100) : vector_Scale.f a k = some (zipP (scaleP k) (fun x _ => x * k) a a []) := by
  unfold vector_Scale.f each_f
  rw [if_pos (by omega), if_pos rfl]
  exact each_zip a a [] (fun x hx y hy => by rw [mul_eq (ha x hx) hk, chk_if]; rfl)
theorem lives_eq (k : Nat) : petrinetlaw03_lives.f (k + 40) = some true := by
  have h : petrinetlaw03_lives.f 40 = some true := by decide +kernel
  exact at_rounds (g := fun n => petrinetlaw03_lives.f n) (fun n => petrinetlaw03_lives.mono n) (by omega) h
def smallB (a : List Int) : Bool := decide (a.length ≤ 20) && a.all fun x => decide (-1048576 ≤ x ∧ x ≤ 1048576)
theorem small_l0 {a : List Int} (hl : a.length ≤ 1000000) :
    ∀ (d n : Nat) (j : Int), 0 ≤ j → (a.length : Int) - j = d → d + 2 ≤ n → petrinetlaw03_small.l0 n a j = some ((a.drop j.toNat).all fun x => decide (-1048576 ≤ x ∧ x ≤ 1048576)) := by
  intro d
  induction d with
  | zero =>
    intro n j h0 hd hn
    obtain ⟨n, rfl⟩ : ∃ m, n = m + 1 := ⟨n - 1, by omega⟩
    simp only [petrinetlaw03_small.l0]
    rw [if_neg (by omega), drop_end (by omega)]
    simp
  | succ d ih =>
    intro n j h0 hd hn
    obtain ⟨n, rfl⟩ : ∃ m, n = m + 1 + 1 := ⟨n - 2, by omega⟩
    have h1 : j < (a.length : Int) := by omega
    rw [petrinetlaw03_small.l0, if_pos h1, if_pos h0, drop_rd h0 h1]
    by_cases e1 : rd a j < -1048576
    · rw [if_pos e1]
      simp
      omega
    · rw [if_neg e1]
      by_cases e2 : rd a j > 1048576
      · rw [if_pos e2]
        simp
        omega
      · rw [if_neg e2, wrap64_id ⟨by omega, by omega⟩, ih (n + 1) (j + 1) (by omega) (by omega) (by omega)]
        rw [List.all_cons, decide_eq_true (show -1048576 ≤ rd a j ∧ rd a j ≤ 1048576 by omega)]
        simp
theorem small_eq (a : List Int) (n : Nat) (hn : 30 ≤ n) : petrinetlaw03_small.f n a = some (smallB a) := by
  unfold petrinetlaw03_small.f smallB
  by_cases h : (a.length : Int) > 20
  · rw [if_pos h]
    have : ¬ a.length ≤ 20 := by omega
    simp [this]
  · rw [if_neg h, small_l0 (by omega) a.length n 0 (by omega) (by omega) (by omega)]
    have : a.length ≤ 20 := by omega
    simp [this]
theorem small_iff {a : List Int} (h : smallB a = true) : a.length ≤ 20 ∧ ∀ x ∈ a, -1048576 ≤ x ∧ x ≤ 1048576 := by
  unfold smallB at h
  simp at h
  exact h
theorem small_ok {a : List Int} (h : smallB a = true) : ok64 a := fun x hx => by
  have := (small_iff h).2 x hx
  exact ⟨by omega, by omega⟩
theorem zip_all {P : Int → Int → Bool} {op : Int → Int → Int} : ∀ (a b acc : List Int), (∀ x ∈ a, ∀ y ∈ b, P x y = true) → zipP P op a b acc = (acc ++ List.zipWith op a b, 0)
  | x :: a, y :: b, acc, h => by
    rw [zipP, if_pos (h x (by simp) y (by simp)), zip_all a b _ (fun u hu v hv => h u (by simp [hu]) v (by simp [hv]))]
    simp
  | [], [], acc, _ => by simp [zipP]
  | [], _ :: _, acc, _ => by simp [zipP]
  | _ :: _, [], acc, _ => by simp [zipP]
theorem zipWith_mem {op : Int → Int → Int} {z : Int} : ∀ {a b : List Int}, z ∈ List.zipWith op a b → ∃ x ∈ a, ∃ y ∈ b, z = op x y
  | x :: a, y :: b, h => by
    rw [List.zipWith_cons_cons, List.mem_cons] at h
    rcases h with h | h
    · exact ⟨x, by simp, y, by simp, h⟩
    · obtain ⟨u, hu, v, hv, e⟩ := zipWith_mem h
      exact ⟨u, by simp [hu], v, by simp [hv], e⟩
  | [], [], h => by simp at h
  | [], _ :: _, h => by simp at h
  | _ :: _, [], h => by simp at h
theorem rd_zip {op : Int → Int → Int} : ∀ {a b : List Int} {j : Int}, 0 ≤ j → j < (a.length : Int) → j < (b.length : Int) → rd (List.zipWith op a b) j = op (rd a j) (rd b j) := by
  intro a b j h0 h1 h2
  have g1 : j.toNat < a.length := by omega
  have g2 : j.toNat < b.length := by omega
  simp [rd, List.getD_eq_getElem?_getD, List.getElem?_zipWith, g1, g2]
theorem group_l0 {a b : List Int} (he : a.length = b.length) (sa : ∀ x ∈ a, -1048576 ≤ x ∧ x ≤ 1048576) (sb : ∀ x ∈ b, -1048576 ≤ x ∧ x ≤ 1048576) (hl : a.length ≤ 20) {s t u v w y : List Int}
    (ls : s.length = a.length) (lt : t.length = a.length) (lu : u.length = a.length) (lv : v.length = a.length) (lw : w.length = a.length) (ly : y.length = a.length)
    (rs : ∀ j : Int, 0 ≤ j → j < (a.length : Int) → rd s j = rd a j + rd b j ∧ rd t j = rd s j ∧ rd u j = rd a j ∧ rd v j = rd a j - rd b j ∧ rd w j = rd v j ∧ rd y j = rd v j) :
    ∀ (d n : Nat) (j : Int), 0 ≤ j → (a.length : Int) - j = d → d + 2 ≤ n → petrinetlaw03_VectorGroup.l0 n a b s t u v w y j = some true := by
  intro d
  induction d with
  | zero =>
    intro n j h0 hd hn
    obtain ⟨n, rfl⟩ : ∃ m, n = m + 1 := ⟨n - 1, by omega⟩
    rw [petrinetlaw03_VectorGroup.l0, if_neg (by omega)]
  | succ d ih =>
    intro n j h0 hd hn
    obtain ⟨n, rfl⟩ : ∃ m, n = m + 1 + 1 := ⟨n - 2, by omega⟩
    have h1 : j < (a.length : Int) := by omega
    obtain ⟨r1, r2, r3, r4, r5, r6⟩ := rs j h0 h1
    have xa := sa _ (rd_mem h0 h1)
    have xb := sb _ (rd_mem h0 (show j < (b.length : Int) by omega))
    rw [petrinetlaw03_VectorGroup.l0, if_pos h1, if_pos h0, if_pos (by omega), if_pos (by omega), wrap64_id ⟨by omega, by omega⟩, if_pos r1, if_pos (by omega), if_pos r2, if_pos (by omega), if_pos r3, if_pos (by omega),
      wrap64_id ⟨by omega, by omega⟩, if_pos r4, if_pos (by omega), if_pos r5, if_pos (by omega), if_pos r6, wrap64_id ⟨by omega, by omega⟩, ih (n + 1) (j + 1) (by omega) (by omega) (by omega)]
theorem VectorGroup : petrinetlaw03_VectorGroup.Pure := by
  intro l0 l1 _ _ w0 _ _ w1
  refine ⟨400, ?_⟩
  have hv := lives_eq 360
  unfold petrinetlaw03_VectorGroup.f
  rw [show (400 : Nat) = 360 + 40 from rfl, hv]
  simp only [Option.bind_some, if_true]
  rw [small_eq l0 _ (by omega), small_eq l1 _ (by omega), show (360 + 40 : Nat) = 400 from rfl]
  simp only [Option.bind_some]
  by_cases s0 : smallB l0 = true
  · by_cases s1 : smallB l1 = true
    · rw [if_pos s0, if_pos s1]
      by_cases e1 : (l0.length : Int) = (l1.length : Int)
      · obtain ⟨n0, b0⟩ := small_iff s0
        obtain ⟨n1, b1⟩ := small_iff s1
        have k0 := small_ok s0
        have k1 := small_ok s1
        have i1 : in64 1 := ⟨by decide, by decide⟩
        have im : in64 (-1) := ⟨by decide, by decide⟩
        have hl : l0.length = l1.length := by omega
        have zs : zipP sumP (· + ·) l0 l1 [] = (List.zipWith (· + ·) l0 l1, 0) := by
          rw [zip_all _ _ _ (fun x hx y hy => by have := b0 x hx; have := b1 y hy; unfold sumP; exact decide_eq_true ⟨by omega, by omega⟩)]; simp
        have zt : zipP sumP (· + ·) l1 l0 [] = (List.zipWith (· + ·) l1 l0, 0) := by
          rw [zip_all _ _ _ (fun x hx y hy => by have := b1 x hx; have := b0 y hy; unfold sumP; exact decide_eq_true ⟨by omega, by omega⟩)]; simp
        have bs : ∀ z ∈ List.zipWith (· + ·) l0 l1, -2097152 ≤ z ∧ z ≤ 2097152 := fun z hz => by
          obtain ⟨x, hx, y, hy, rfl⟩ := zipWith_mem hz
          have := b0 x hx
          have := b1 y hy
          omega
        have ks : ok64 (List.zipWith (· + ·) l0 l1) := fun z hz => by have := bs z hz; exact ⟨by omega, by omega⟩
        have zu : zipP diffP (· - ·) (List.zipWith (· + ·) l0 l1) l1 [] = (List.zipWith (· - ·) (List.zipWith (· + ·) l0 l1) l1, 0) := by
          rw [zip_all _ _ _ (fun x hx y hy => by have := bs x hx; have := b1 y hy; unfold diffP; exact decide_eq_true ⟨by omega, by omega⟩)]; simp
        have zv : zipP diffP (· - ·) l0 l1 [] = (List.zipWith (· - ·) l0 l1, 0) := by
          rw [zip_all _ _ _ (fun x hx y hy => by have := b0 x hx; have := b1 y hy; unfold diffP; exact decide_eq_true ⟨by omega, by omega⟩)]; simp
        have zw : zipP (combP 1 (-1)) (fun x y => x * 1 + y * -1) l0 l1 [] = (List.zipWith (fun x y => x * 1 + y * -1) l0 l1, 0) := by
          rw [zip_all _ _ _ (fun x hx y hy => by
            have := b0 x hx; have := b1 y hy
            unfold combP
            rw [decide_eq_true (show in64 (x * 1) from ⟨by omega, by omega⟩), decide_eq_true (show in64 (y * -1) from ⟨by omega, by omega⟩), decide_eq_true (show in64 (x * 1 + y * -1) from ⟨by omega, by omega⟩)]
            rfl)]
          simp
        have zx : zipP (scaleP (-1)) (fun x _ => x * -1) l1 l1 [] = (List.zipWith (fun x _ => x * -1) l1 l1, 0) := by
          rw [zip_all _ _ _ (fun x hx y hy => by have := b1 x hx; unfold scaleP; exact decide_eq_true ⟨by omega, by omega⟩)]; simp
        have bx : ∀ z ∈ List.zipWith (fun x _ => x * -1) l1 l1, -1048576 ≤ z ∧ z ≤ 1048576 := fun z hz => by
          obtain ⟨x, hx, y, hy, rfl⟩ := zipWith_mem hz
          have := b1 x hx
          omega
        have kx : ok64 (List.zipWith (fun x _ => x * -1) l1 l1) := fun z hz => by have := bx z hz; exact ⟨by omega, by omega⟩
        have zy : zipP sumP (· + ·) l0 (List.zipWith (fun x _ => x * -1) l1 l1) [] = (List.zipWith (· + ·) l0 (List.zipWith (fun x _ => x * -1) l1 l1), 0) := by
          rw [zip_all _ _ _ (fun x hx y hy => by have := b0 x hx; have := bx y hy; unfold sumP; exact decide_eq_true ⟨by omega, by omega⟩)]; simp
        have g := group_l0 (a := l0) (b := l1) hl b0 b1 n0 (s := List.zipWith (· + ·) l0 l1) (t := List.zipWith (· + ·) l1 l0) (u := List.zipWith (· - ·) (List.zipWith (· + ·) l0 l1) l1) (v := List.zipWith (· - ·) l0 l1) (w := List.zipWith (fun x y => x * 1 + y * -1) l0 l1) (y := List.zipWith (· + ·) l0 (List.zipWith (fun x _ => x * -1) l1 l1))
          (by simp; omega) (by simp; omega) (by simp; omega) (by simp; omega) (by simp; omega) (by simp; omega)
          (fun j h0 h1 => by
            have h2 : j < (l1.length : Int) := by omega
            have r1 := rd_zip (op := fun x1 x2 => x1 + x2) h0 h1 h2
            have r2 := rd_zip (op := fun x1 x2 => x1 + x2) h0 h2 h1
            have r3 := rd_zip (op := fun x1 x2 => x1 - x2) (a := List.zipWith (fun x1 x2 => x1 + x2) l0 l1) (b := l1) h0 (by simp; omega) h2
            have r4 := rd_zip (op := fun x1 x2 => x1 - x2) h0 h1 h2
            have r5 := rd_zip (op := fun x y => x * 1 + y * -1) h0 h1 h2
            have r6 := rd_zip (op := fun x1 x2 => x1 + x2) (a := l0) (b := List.zipWith (fun x _ => x * -1) l1 l1) h0 h1 (by simp; omega)
            have r7 := rd_zip (op := fun x _ => x * -1) h0 h2 h2
            omega) l0.length 400 0 (by omega) (by omega) (by omega)
        have q1 : (List.zipWith (· + ·) l0 l1).length = l0.length := by simp; omega
        have q2 : (List.zipWith (· + ·) l1 l0).length = l0.length := by simp; omega
        have q3 : (List.zipWith (· - ·) (List.zipWith (· + ·) l0 l1) l1).length = l0.length := by simp; omega
        have q4 : (List.zipWith (· - ·) l0 l1).length = l0.length := by simp; omega
        have q5 : (List.zipWith (fun x y => x * 1 + y * -1) l0 l1).length = l0.length := by simp; omega
        have q6 : (List.zipWith (fun x _ => x * -1) l1 l1).length = l1.length := by simp
        have q7 : (List.zipWith (· + ·) l0 (List.zipWith (fun x _ => x * -1) l1 l1)).length = l0.length := by simp; omega
        rw [if_pos e1]
        rw [vadd_eq k0 k1 (by omega), if_pos hl, zs, vadd_eq k1 k0 (by omega), if_pos hl.symm, zt]
        simp only [Option.bind_some]
        rw [vsub_eq ks k1 (by omega), if_pos (by omega), zu, vsub_eq k0 k1 (by omega), if_pos hl, zv, vcomb_eq k0 k1 i1 im (by omega), if_pos hl, zw, vscale_eq k1 im (by omega), zx]
        simp only [Option.bind_some]
        rw [vadd_eq k0 kx (by omega), if_pos (by omega), zy]
        simp only [Option.bind_some, if_true]
        rw [if_pos (by omega), if_pos (by omega), if_pos (by omega), if_pos (by omega), if_pos (by omega), if_pos (by omega), g]
      · rw [if_neg e1]
    · rw [if_pos s0, if_neg s1]
  · rw [if_neg s0]
end Go.Proofs.Ytojpjknjoikdgaa.Pure
