/- The pure statement of VectorPrimitive: for all lists of int64s that a call can hold, the printed function answers true. -/
import Derived.Test.YtojpjknjoikdgaaZx1
import Derived.Test.YtojpjknjoikdgaaZx21
import Derived.Test.YtojpjknjoikdgaaZx23
import Derived.Test.YtojpjknjoikdgaaZx24
import Derived.Test.YtojpjknjoikdgaaZx6
import Derived.Test.YtojpjknjoikdgaaZx7
import Derived.Test.YtojpjknjoikdgaaZx9
namespace Go.Proofs.Ytojpjknjoikdgaa.Pure
open Go.RowKit Go.Proofs.Ytojpjknjoikdgaa.Z Go.Proofs.YtojpjknjoikdgaaW.PrintWords Go.Proofs.YtojpjknjoikdgaaW.PrintLast Go.Proofs.YtojpjknjoikdgaaW.PrintMore
set_option linter.unusedVariables false
set_option linter.unusedSimpArgs false
def ok64 (l : List Int) : Prop := ∀ x ∈ l, in64 x
theorem ok64_wf {l : List Int} (h : ∀ x ∈ l, (Lit.int .i64 x).wf = true) : ok64 l := fun x hx => wf64.mp (h x hx)
theorem rd_mem {l : List Int} {i : Int} (h0 : 0 ≤ i) (h1 : i < (l.length : Int)) : rd l i ∈ l := by
  have : i.toNat < l.length := by omega
  unfold rd
  rw [List.getD_eq_getElem?_getD, List.getElem?_eq_getElem this]
  exact List.getElem_mem this
theorem ok64_rd {l : List Int} (h : ok64 l) {i : Int} (h0 : 0 ≤ i) (h1 : i < (l.length : Int)) : in64 (rd l i) := h _ (rd_mem h0 h1)
theorem drop_rd {l : List Int} {i : Int} (h0 : 0 ≤ i) (h1 : i < (l.length : Int)) : l.drop i.toNat = rd l i :: l.drop (i + 1).toNat := by
  have h2 : i.toNat < l.length := by omega
  have h3 : (i + 1).toNat = i.toNat + 1 := by omega
  have h4 := drop_cons_rd h2
  rw [h3, h4]
  congr 2
  omega
theorem drop_end {l : List Int} {i : Int} (h1 : (l.length : Int) ≤ i) : l.drop i.toNat = [] := List.drop_of_length_le (by omega)
theorem lives_eq (k : Nat) : petrinetlaw03_lives.f (k + 40) = some true := by
  have h : petrinetlaw03_lives.f 40 = some true := by decide +kernel
  exact at_rounds (g := fun n => petrinetlaw03_lives.f n) (fun n => petrinetlaw03_lives.mono n) (by omega) h
def gcdL : List Int → Int → Int
  | [], g => g
  | x :: a, g => gcdL a (Int.gcd g x : Int)
theorem gcdL_nonneg : ∀ (a : List Int) (g : Int), 0 ≤ g → 0 ≤ gcdL a g
  | [], _, h => h
  | _ :: a, _, _ => gcdL_nonneg a _ (by omega)
def least : Int := -9223372036854775808
theorem gcd_le_right {g x : Int} (hx : x ≠ 0) : (Int.gcd g x : Int) ≤ (x.natAbs : Int) := by
  have := Nat.gcd_le_right (n := x.natAbs) g.natAbs (by omega)
  show ((Nat.gcd g.natAbs x.natAbs : Nat) : Int) ≤ _
  omega
theorem gcd_bound {g x : Int} (hg : 0 ≤ g) (hg' : g ≤ 9223372036854775807) (hx : in64 x) (hl : x ≠ least) : (Int.gcd g x : Int) ≤ 9223372036854775807 := by
  unfold in64 at hx
  unfold least at hl
  by_cases h : x = 0
  · subst h
    simp
    omega
  · have := gcd_le_right (g := g) h
    omega
def primG (a : List Int) : List Int × Int := if least ∈ a then ([], 3) else (a.map fun x => if gcdL a 0 > 0 then Int.tdiv x (gcdL a 0) else 0, 0)
theorem rd_take_all {l : List Int} {f : Int → Int} {j : Nat} (h : j < l.length) : (l.map f).take (j + 1) = (l.map f).take j ++ [f (rd l j)] := by
  rw [List.take_succ_eq_append_getElem (by simpa using h)]
  simp [rd, List.getD_eq_getElem?_getD, h]
theorem tdiv_in {x g : Int} (hx : in64 x) (hg : 0 < g) : in64 (Int.tdiv x g) := by
  unfold in64 at *
  have h : (Int.tdiv x g).natAbs = x.natAbs / g.natAbs := Int.natAbs_tdiv x g
  have h1 : x.natAbs / g.natAbs ≤ x.natAbs := Nat.div_le_self _ _
  by_cases h2 : 0 ≤ x
  · have := Int.tdiv_nonneg h2 (Int.le_of_lt hg)
    omega
  · have h3 : Int.tdiv x g ≤ 0 := by
      have := Int.neg_tdiv x g
      have h4 := Int.tdiv_nonneg (a := -x) (b := g) (by omega) (Int.le_of_lt hg)
      omega
    omega
theorem vprim_l1 {a : List Int} {g : Int} (ha : ok64 a) (hl : a.length ≤ 1000000) :
    ∀ (d n : Nat) (j : Nat), (a.length : Int) - j = d → d + 2 ≤ n → vector_Prim.l1 n g ((a.map fun x => if g > 0 then Int.tdiv x g else 0).take j ++ List.replicate (a.length - j) 0) a (a.length : Int) j = some (a.map fun x => if g > 0 then Int.tdiv x g else 0, 0) := by
  intro d
  induction d with
  | zero =>
    intro n j hd hn
    obtain ⟨n, rfl⟩ : ∃ m, n = m + 1 := ⟨n - 1, by omega⟩
    simp only [vector_Prim.l1]
    rw [if_neg (by omega), List.take_of_length_le (by simp; omega), show a.length - j = 0 by omega]
    simp
  | succ d ih =>
    intro n j hd hn
    obtain ⟨n, rfl⟩ : ∃ m, n = m + 1 + 1 := ⟨n - 2, by omega⟩
    have h1 : (j : Int) < (a.length : Int) := by omega
    have ht := rd_take_all (l := a) (f := fun x => if g > 0 then Int.tdiv x g else 0) (j := j) (by omega)
    have hw : wrap64 ((j : Int) + 1) = ((j + 1 : Nat) : Int) := by rw [wrap64_id ⟨by omega, by omega⟩]; omega
    have hr : a.length - j = (a.length - (j + 1)) + 1 := by omega
    have hlen : ((a.map fun x => if g > 0 then Int.tdiv x g else 0).take j).length = j := by simp; omega
    rw [vector_Prim.l1, if_pos h1, if_pos (by omega), if_pos h1]
    by_cases hp : g > 0
    · rw [if_pos hp, if_neg (by omega), if_pos (by simp; omega), hw]
      have hs := set_zeros (acc := (a.map fun x => if g > 0 then Int.tdiv x g else 0).take j) (m := a.length - (j + 1)) (Int.tdiv (rd a j) g)
      rw [hlen] at hs
      rw [wrap64_id (tdiv_in (ok64_rd ha (by omega) h1) hp), show ((j : Int)).toNat = j by omega, hr, hs]
      have := ih (n + 1) (j + 1) (by omega) (by omega)
      rw [ht] at this
      simp only [if_pos hp] at this ⊢
      exact this
    · rw [if_neg hp, hw]
      have := ih (n + 1) (j + 1) (by omega) (by omega)
      rw [ht] at this
      rw [hr, List.replicate_succ]
      simp only [if_neg hp] at this ⊢
      simpa using this
theorem vprim_l0 {a : List Int} (ha : ok64 a) (hl : a.length ≤ 1000000) :
    ∀ (d n : Nat) (j g : Int), 0 ≤ j → (a.length : Int) - j = d → d + a.length + 4 ≤ n → 0 ≤ g → g ≤ 9223372036854775807 →
      vector_Prim.l0 n a g a (a.length : Int) j = some (if least ∈ a.drop j.toNat then ([], 3) else (a.map fun x => if gcdL (a.drop j.toNat) g > 0 then Int.tdiv x (gcdL (a.drop j.toNat) g) else 0, 0)) := by
  intro d
  induction d with
  | zero =>
    intro n j g h0 hd hn hg hg'
    obtain ⟨n, rfl⟩ : ∃ m, n = m + 1 := ⟨n - 1, by omega⟩
    simp only [vector_Prim.l0]
    rw [if_neg (by omega), drop_end (by omega), if_pos (by omega), if_pos (by omega)]
    have := vprim_l1 (g := g) ha hl a.length n 0 (by omega) (by omega)
    simp only [List.take_zero, List.nil_append, Nat.sub_zero] at this
    simp only [gcdL, List.not_mem_nil, if_false]
    rw [show ((a.length : Int) : Int).toNat = a.length by omega]
    exact this
  | succ d ih =>
    intro n j g h0 hd hn hg hg'
    obtain ⟨n, rfl⟩ : ∃ m, n = m + 1 + 1 := ⟨n - 2, by omega⟩
    have h1 : j < (a.length : Int) := by omega
    have hx := ok64_rd ha h0 h1
    rw [vector_Prim.l0, if_pos h1, if_pos h0, if_pos h1, drop_rd h0 h1]
    by_cases e : rd a j = -9223372036854775808
    · rw [if_pos e, if_pos (by rw [e]; simp [least])]
    · rw [if_neg e]
      have hb := gcd_bound hg hg' hx e
      have hgc : safeint_Gcd.f g (rd a j) = some ((Int.gcd g (rd a j) : Int), true) := by
        unfold safeint_Gcd.f
        rw [if_pos ⟨⟨by omega, hg'⟩, hx⟩, if_pos hb]
      rw [hgc]
      simp only [Option.bind_some]
      rw [wrap64_id ⟨by omega, by omega⟩, ih (n + 1) (j + 1) _ (by omega) (by omega) (by omega) (by omega) hb]
      have e' : ¬ least = rd a j := fun h => e h.symm
      simp only [List.mem_cons, e', false_or, gcdL]
      rfl
theorem vprim_eq {a : List Int} (ha : ok64 a) (hl : a.length ≤ 1000000) (n : Nat) (hn : 2 * a.length + 4 ≤ n) : vector_Prim.f n a = some (primG a) := by
  unfold vector_Prim.f primG
  rw [vprim_l0 ha hl a.length n 0 0 (by omega) (by omega) (by omega) (by omega) (by omega)]
  simp
theorem mx_abs {x : Int} (hx : in64 x) (hl : x ≠ least) : mx x (wrap64 (-x)) = (x.natAbs : Int) := by
  unfold in64 at hx
  unfold least at hl
  rw [wrap64_id ⟨by omega, by omega⟩]
  unfold mx
  split <;> omega
theorem gcd_natAbs (g x : Int) : Int.gcd g (x.natAbs : Int) = Int.gcd g x := by simp [Int.gcd]
def smallB (a : List Int) : Bool := decide (a.length ≤ 20) && a.all fun x => decide (-1048576 ≤ x ∧ x ≤ 1048576)
theorem small_l0 {a : List Int} (hl : a.length ≤ 1000000) :
    ∀ (d n : Nat) (j : Int), 0 ≤ j → (a.length : Int) - j = d → d + 2 ≤ n → petrinetlaw03_small.l0 n a j = some ((a.drop j.toNat).all fun x => decide (-1048576 ≤ x ∧ x ≤ 1048576)) := by
  intro d
  induction d with
  | zero =>
    intro n j h0 hd hn
    obtain ⟨n, rfl⟩ : ∃ m, n = m + 1 := ⟨n - 1, by omega⟩
    simp only [petrinetlaw03_small.l0]
    rw [if_neg (by omega), drop_end (by omega)]
    simp
  | succ d ih =>
    intro n j h0 hd hn
    obtain ⟨n, rfl⟩ : ∃ m, n = m + 1 + 1 := ⟨n - 2, by omega⟩
    have h1 : j < (a.length : Int) := by omega
    rw [petrinetlaw03_small.l0, if_pos h1, if_pos h0, drop_rd h0 h1]
    by_cases e1 : rd a j < -1048576
    · rw [if_pos e1]
      simp
      omega
    · rw [if_neg e1]
      by_cases e2 : rd a j > 1048576
      · rw [if_pos e2]
        simp
        omega
      · rw [if_neg e2, wrap64_id ⟨by omega, by omega⟩, ih (n + 1) (j + 1) (by omega) (by omega) (by omega)]
        rw [List.all_cons, decide_eq_true (show -1048576 ≤ rd a j ∧ rd a j ≤ 1048576 by omega)]
        simp
theorem small_eq (a : List Int) (n : Nat) (hn : 30 ≤ n) : petrinetlaw03_small.f n a = some (smallB a) := by
  unfold petrinetlaw03_small.f smallB
  by_cases h : (a.length : Int) > 20
  · rw [if_pos h]
    have : ¬ a.length ≤ 20 := by omega
    simp [this]
  · rw [if_neg h, small_l0 (by omega) a.length n 0 (by omega) (by omega) (by omega)]
    have : a.length ≤ 20 := by omega
    simp [this]
theorem small_iff {a : List Int} (h : smallB a = true) : a.length ≤ 20 ∧ ∀ x ∈ a, -1048576 ≤ x ∧ x ≤ 1048576 := by
  unfold smallB at h
  simp at h
  exact h
theorem lgcd_l0 : ∀ (k : Nat) (x y : Int), 0 ≤ x → 0 ≤ y → y.toNat < k → petrinetlaw03_gcd.l0 k x y = some (Int.gcd x y : Int) := by
  intro k
  induction k with
  | zero => intro x y _ _ h; omega
  | succ k ih =>
    intro x y hx hy h
    rw [petrinetlaw03_gcd.l0]
    by_cases hp : y > 0
    · have hm : Int.tmod x y = x % y := Int.tmod_eq_emod_of_nonneg hx
      have h1 : x % y < y := Int.emod_lt_of_pos x hp
      have h2 : 0 ≤ x % y := Int.emod_nonneg x (by omega)
      rw [if_pos hp, if_neg (by omega), hm, ih y (x % y) hy h2 (by omega), gcd_step hx hy]
    · have : y = 0 := by omega
      subst this
      rw [if_neg hp]
      simp
      omega
theorem gcdL_mul (g : Int) (hg : 0 ≤ g) : ∀ (p : List Int) (s : Int), 0 ≤ s → gcdL (p.map (· * g)) (s * g) = gcdL p s * g
  | [], s, _ => rfl
  | x :: p, s, hs => by
    have h : (Int.gcd (s * g) (x * g) : Int) = (Int.gcd s x : Int) * g := by
      rw [Int.gcd_mul_right, Int.natCast_mul, Int.natAbs_of_nonneg hg]
    show gcdL (p.map (· * g)) (Int.gcd (s * g) (x * g) : Int) = gcdL p (Int.gcd s x : Int) * g
    rw [h]
    exact gcdL_mul g hg p _ (by omega)
theorem gcdL_dvd : ∀ (a : List Int) (s : Int), gcdL a s ∣ s ∧ ∀ x ∈ a, gcdL a s ∣ x
  | [], s => ⟨Int.dvd_refl s, fun x hx => by simp at hx⟩
  | y :: a, s => by
    obtain ⟨h1, h2⟩ := gcdL_dvd a (Int.gcd s y : Int)
    have hl : (Int.gcd s y : Int) ∣ s := Int.gcd_dvd_left ..
    have hr : (Int.gcd s y : Int) ∣ y := Int.gcd_dvd_right ..
    refine ⟨Int.dvd_trans h1 hl, fun x hx => ?_⟩
    rcases List.mem_cons.1 hx with rfl | hx
    · exact Int.dvd_trans h1 hr
    · exact h2 x hx
theorem gcdL_le : ∀ (a : List Int) (s m : Int), 0 ≤ s → s ≤ m → (∀ x ∈ a, -m ≤ x ∧ x ≤ m) → gcdL a s ≤ m
  | [], s, m, _, h, _ => h
  | y :: a, s, m, hs, h, hb => by
    refine gcdL_le a _ m (by omega) ?_ (fun x hx => hb x (by simp [hx]))
    have hy := hb y (by simp)
    by_cases hz : y = 0
    · subst hz
      simp
      omega
    · have := gcd_le_right (g := s) hz
      omega
theorem prim_l1 {a p : List Int} {T G : Int} (hl : p.length = a.length) (hs : a.length ≤ 20) (sa : ∀ x ∈ a, -1048576 ≤ x ∧ x ≤ 1048576) (hm : ∀ j : Int, 0 ≤ j → j < (a.length : Int) → rd p j * T = rd a j) (hT : T = 0 ∧ G = 0 ∨ T > 0 ∧ G = 1) :
    ∀ (d n : Nat) (j : Int), 0 ≤ j → (a.length : Int) - j = d → d + 2 ≤ n → petrinetlaw03_VectorPrimitive.l1 n a p G T j = some true := by
  intro d
  induction d with
  | zero =>
    intro n j h0 hd hn
    obtain ⟨n, rfl⟩ : ∃ m, n = m + 1 := ⟨n - 1, by omega⟩
    rw [petrinetlaw03_VectorPrimitive.l1, if_neg (by omega)]
    rcases hT with ⟨rfl, rfl⟩ | ⟨h1, rfl⟩
    · rfl
    · rw [if_neg (by omega), if_pos h1]
      rfl
  | succ d ih =>
    intro n j h0 hd hn
    obtain ⟨n, rfl⟩ : ∃ m, n = m + 1 + 1 := ⟨n - 2, by omega⟩
    have h1 : j < (a.length : Int) := by omega
    have h2 := hm j h0 h1
    have h3 := sa _ (rd_mem h0 h1)
    rw [petrinetlaw03_VectorPrimitive.l1, if_pos h1, if_pos h0, if_pos (by omega), wrap64_id (n := rd p j * T) ⟨by omega, by omega⟩, if_pos h2, wrap64_id ⟨by omega, by omega⟩, ih (n + 1) (j + 1) (by omega) (by omega) (by omega)]
/-- The factor as the law finds it: that of the first element that is not 0. -/
def facT (g : Int) : List Int → Int → Int
  | [], T => T
  | x :: p, T => facT g p (if T = 0 then (if x = 0 then 0 else g) else T)
theorem prim_l0 {a p : List Int} {g : Int} (hg : 0 ≤ g) (hl : p.length = a.length) (hs : a.length ≤ 20) (sa : ∀ x ∈ a, -1048576 ≤ x ∧ x ≤ 1048576) (sp : ∀ x ∈ p, -1048576 ≤ x ∧ x ≤ 1048576)
    (hm : ∀ j : Int, 0 ≤ j → j < (a.length : Int) → rd p j * g = rd a j) (hz : ∀ j : Int, 0 ≤ j → j < (a.length : Int) → (rd p j = 0 ↔ rd a j = 0)) (hT : 0 ≤ facT g p 0 ∧ facT g p 0 ≤ 1048576)
    (hend : ∀ n, 22 ≤ n → petrinetlaw03_VectorPrimitive.l1 n a p (gcdL p 0) (facT g p 0) 0 = some true) :
    ∀ (d n : Nat) (j G T : Int), 0 ≤ j → (a.length : Int) - j = d → d + 1048600 ≤ n → 0 ≤ G → G ≤ 1048576 → gcdL (p.drop j.toNat) G = gcdL p 0 → facT g (p.drop j.toNat) T = facT g p 0 → petrinetlaw03_VectorPrimitive.l0 n a p G T j = some true := by
  intro d
  induction d with
  | zero =>
    intro n j G T h0 hd hn hG hG' e1 e2
    obtain ⟨n, rfl⟩ : ∃ m, n = m + 1 := ⟨n - 1, by omega⟩
    rw [drop_end (by omega)] at e1 e2
    simp only [gcdL, facT] at e1 e2
    subst e1
    subst e2
    rw [petrinetlaw03_VectorPrimitive.l0, if_neg (by omega), if_neg (by omega), if_neg (by omega)]
    exact hend n (by omega)
  | succ d ih =>
    intro n j G T h0 hd hn hG hG' e1 e2
    obtain ⟨n, rfl⟩ : ∃ m, n = m + 1 := ⟨n - 1, by omega⟩
    have h1 : j < (a.length : Int) := by omega
    have h1' : j < (p.length : Int) := by omega
    have xp := sp _ (rd_mem h0 h1')
    have xa := sa _ (rd_mem h0 h1)
    have hzj := hz j h0 h1
    have hmj := hm j h0 h1
    rw [drop_rd h0 h1'] at e1 e2
    simp only [gcdL, facT] at e1 e2
    have hgc : petrinetlaw03_gcd.f n G (mx (rd p j) (wrap64 (-(rd p j)))) = some (Int.gcd G (rd p j) : Int) := by
      rw [mx_abs ⟨by omega, by omega⟩ (by unfold least; omega)]
      unfold petrinetlaw03_gcd.f
      rw [lgcd_l0 n G _ hG (by omega) (by omega), gcd_natAbs]
    have hgb : (Int.gcd G (rd p j) : Int) ≤ 1048576 := gcdL_le [rd p j] G 1048576 hG hG' (fun x hx => by simp at hx; subst hx; exact xp)
    have hw : wrap64 (j + 1) = j + 1 := wrap64_id ⟨by omega, by omega⟩
    rw [petrinetlaw03_VectorPrimitive.l0, if_pos h1, if_pos h0, if_pos h1', hgc, hw]
    simp only [Option.bind_some]
    by_cases ez : rd p j = 0
    · rw [if_pos ez, if_pos (hzj.mp ez), if_neg (by omega), if_neg (by omega)]
      have e2' : facT g (p.drop (j + 1).toNat) T = facT g p 0 := by
        rw [← e2, if_pos ez]
        congr 1
        split <;> omega
      have := ih n (j + 1) _ T (by omega) (by omega) (by omega) (by omega) hgb e1 e2'
      simp only [this, ite_self]
    · rw [if_neg ez, if_neg (fun h => ez (hzj.mpr h)), if_neg (by omega), if_neg (by omega)]
      by_cases et : T = 0
      · rw [if_pos et]
        have hq : wrap64 (Int.tdiv (rd a j) (rd p j)) = g := by
          rw [← hmj, Int.mul_comm, Int.mul_tdiv_cancel _ ez]
          have : g ≤ 1048576 := by
            have h5 : (rd p j * g).natAbs = (rd p j).natAbs * g.natAbs := Int.natAbs_mul ..
            have h6 : 1 * g.natAbs ≤ (rd p j).natAbs * g.natAbs := Nat.mul_le_mul_right _ (by omega)
            omega
          exact wrap64_id ⟨by omega, by omega⟩
        rw [hq]
        exact ih n (j + 1) _ g (by omega) (by omega) (by omega) (by omega) hgb e1 (by rw [← e2, if_pos et, if_neg ez])
      · rw [if_neg et]
        exact ih n (j + 1) _ T (by omega) (by omega) (by omega) (by omega) hgb e1 (by rw [← e2, if_neg et])
theorem facT_zero (g : Int) : ∀ p : List Int, (∀ x ∈ p, x = 0) → facT g p 0 = 0
  | [], _ => rfl
  | x :: p, h => by
    have hx := h x (by simp)
    subst hx
    exact facT_zero g p (fun y hy => h y (by simp [hy]))
theorem facT_keep (g : Int) : ∀ (p : List Int) (T : Int), T ≠ 0 → facT g p T = T
  | [], _, _ => rfl
  | x :: p, T, h => by rw [facT, if_neg h]; exact facT_keep g p T h
theorem facT_some (g : Int) (hg : g ≠ 0) : ∀ p : List Int, (∃ x ∈ p, x ≠ 0) → facT g p 0 = g
  | [], h => by simp at h
  | x :: p, h => by
    rw [facT, if_pos rfl]
    by_cases hx : x = 0
    · rw [if_pos hx]
      obtain ⟨y, hy, hn⟩ := h
      rcases List.mem_cons.1 hy with rfl | hy
      · exact absurd hx hn
      · exact facT_some g hg p ⟨y, hy, hn⟩
    · rw [if_neg hx]
      exact facT_keep g p g hg
theorem gcdL_zero : ∀ p : List Int, (∀ x ∈ p, x = 0) → gcdL p 0 = 0
  | [], _ => rfl
  | x :: p, h => by
    have hx := h x (by simp)
    subst hx
    exact gcdL_zero p (fun y hy => h y (by simp [hy]))
theorem rd_map {f : Int → Int} {a : List Int} {j : Int} (h0 : 0 ≤ j) (h1 : j < (a.length : Int)) : rd (a.map f) j = f (rd a j) := by
  have g1 : j.toNat < a.length := by omega
  simp [rd, List.getD_eq_getElem?_getD, g1]
theorem VectorPrimitive : petrinetlaw03_VectorPrimitive.Pure := by
  intro a _ _ w0
  obtain ⟨K, hK⟩ : ∃ K : Nat, K = 2000000 := ⟨_, rfl⟩
  refine ⟨K, ?_⟩
  obtain ⟨m, hm⟩ : ∃ m, K = m + 40 := ⟨K - 40, by omega⟩
  have hv := lives_eq m
  rw [← hm] at hv
  have ha := ok64_wf w0
  unfold petrinetlaw03_VectorPrimitive.f
  rw [hv]
  simp only [Option.bind_some, if_true]
  rw [small_eq a K (by omega)]
  simp only [Option.bind_some]
  by_cases s0 : smallB a = true
  · obtain ⟨n0, b0⟩ := small_iff s0
    rw [if_pos s0, vprim_eq ha (by omega) K (by omega)]
    simp only [Option.bind_some]
    have hle : ¬ least ∈ a := fun h => by have := b0 _ h; unfold least at this; omega
    unfold primG
    rw [if_neg hle, if_pos rfl, if_pos (by simp)]
    have hg0 := gcdL_nonneg a 0 (Int.le_refl 0)
    obtain ⟨_, hdv⟩ := gcdL_dvd a 0
    have hgm := gcdL_le a 0 1048576 (by omega) (by omega) b0
    have hmul := gcdL_mul (gcdL a 0) hg0 (a.map fun x => if gcdL a 0 > 0 then Int.tdiv x (gcdL a 0) else 0) 0 (by omega)
    obtain ⟨g, hg⟩ : ∃ g, g = gcdL a 0 := ⟨_, rfl⟩
    rw [← hg] at hg0 hdv hgm hmul ⊢
    by_cases hp : g > 0
    · have hf : (fun x : Int => if g > 0 then Int.tdiv x g else 0) = fun x => Int.tdiv x g := by funext x; rw [if_pos hp]
      rw [hf] at hmul ⊢
      have hx : ∀ x ∈ a, Int.tdiv x g * g = x := fun x hx => Int.tdiv_mul_cancel (hdv x hx)
      have hback : (a.map fun x => Int.tdiv x g).map (· * g) = a := by
        rw [List.map_map]
        conv => rhs; rw [← List.map_id a]
        exact List.map_congr_left (fun x h => hx x h)
      rw [hback, Int.zero_mul, ← hg] at hmul
      have hone : gcdL (a.map fun x => Int.tdiv x g) 0 = 1 := by
        have : (gcdL (a.map fun x => Int.tdiv x g) 0 - 1) * g = 0 := by rw [Int.sub_mul]; omega
        rcases Int.mul_eq_zero.1 this with h | h <;> omega
      have hsome : ∃ x ∈ a.map fun x => Int.tdiv x g, x ≠ 0 := by
        refine Classical.byContradiction fun h => ?_
        have := gcdL_zero (a.map fun x => Int.tdiv x g) (fun x hx => Classical.byContradiction fun hn => h ⟨x, hx, hn⟩)
        omega
      have hfac := facT_some g (by omega) _ hsome
      have sp : ∀ x ∈ a.map fun x => Int.tdiv x g, -1048576 ≤ x ∧ x ≤ 1048576 := fun x h => by
        obtain ⟨y, hy, rfl⟩ := List.mem_map.1 h
        have h1 := b0 y hy
        have h2 := hx y hy
        have h5 : (Int.tdiv y g * g).natAbs = (Int.tdiv y g).natAbs * g.natAbs := Int.natAbs_mul ..
        have h6 : (Int.tdiv y g).natAbs * 1 ≤ (Int.tdiv y g).natAbs * g.natAbs := Nat.mul_le_mul_left _ (by omega)
        rw [h2] at h5
        omega
      have hmj : ∀ j : Int, 0 ≤ j → j < (a.length : Int) → rd (a.map fun x => Int.tdiv x g) j * g = rd a j := fun j h0 h1 => by
        rw [rd_map h0 h1]
        exact hx _ (rd_mem h0 h1)
      refine prim_l0 (g := g) hg0 (by simp) n0 b0 sp hmj (fun j h0 h1 => ?_) (by rw [hfac]; omega) (fun n hn => ?_) a.length K 0 0 0 (by omega) (by omega) (by omega) (by omega) (by omega) rfl rfl
      · have := hmj j h0 h1
        constructor
        · intro h
          rw [← this, h, Int.zero_mul]
        · intro h
          rw [h] at this
          rcases Int.mul_eq_zero.1 this with h | h <;> omega
      · rw [hfac, hone]
        exact prim_l1 (by simp) n0 b0 hmj (.inr ⟨hp, rfl⟩) a.length n 0 (by omega) (by omega) (by omega)
    · have hz : g = 0 := by omega
      have hf : (fun x : Int => if g > 0 then Int.tdiv x g else 0) = fun _ => 0 := by funext x; rw [if_neg hp]
      rw [hf]
      have hall : ∀ x ∈ a, x = 0 := fun x hx => by
        have := hdv x hx
        rw [hz] at this
        exact Int.zero_dvd.1 this
      have hz' : ∀ x ∈ a.map fun _ : Int => (0 : Int), x = 0 := fun x hx => by
        obtain ⟨_, _, rfl⟩ := List.mem_map.1 hx
        rfl
      have hfac := facT_zero 0 _ hz'
      have hone := gcdL_zero _ hz'
      have hmj : ∀ j : Int, 0 ≤ j → j < (a.length : Int) → rd (a.map fun _ : Int => (0 : Int)) j * 0 = rd a j := fun j h0 h1 => by
        rw [Int.mul_zero]
        exact (hall _ (rd_mem h0 h1)).symm
      refine prim_l0 (g := 0) (by omega) (by simp) n0 b0 (fun x hx => by rw [hz' x hx]; omega) hmj (fun j h0 h1 => ?_) (by rw [hfac]; omega) (fun n hn => ?_) a.length K 0 0 0 (by omega) (by omega) (by omega) (by omega) (by omega) rfl rfl
      · rw [rd_map h0 h1]
        exact ⟨fun _ => hall _ (rd_mem h0 h1), fun _ => rfl⟩
      · rw [hfac, hone]
        exact prim_l1 (by simp) n0 b0 hmj (.inl ⟨rfl, rfl⟩) a.length n 0 (by omega) (by omega) (by omega)
  · rw [if_neg s0]
end Go.Proofs.Ytojpjknjoikdgaa.Pure
