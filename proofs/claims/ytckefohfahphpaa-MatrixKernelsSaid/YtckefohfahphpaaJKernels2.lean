/- Walks of the program's functions and plain laws, for the statement Kernels, for all inputs that each lemma names. -/
import Derived.Test.YtckefohfahphpaaJKernels0
import Derived.Test.YtckefohfahphpaaJKernels1
section
namespace Go.Proofs.Ytckefohfahphpaa.Z
open Go.RowKit Go.Proofs.YtckefohfahphpaaW.PrintWords Go.Proofs.YtckefohfahphpaaW.PrintLast Go.Proofs.YtckefohfahphpaaW.PrintMore
set_option linter.unusedVariables false
set_option linter.unusedSimpArgs false
def vec (l : List Int) : Vc := fun x => rd l (x : Int)
def rowsV (L : List (List Int)) : Nat → Vc := fun i => vec (rd_L1 L (i : Int))
def spanL (L : List (List Int)) : List Vc := vs (rowsV L) L.length
theorem vec_get {l : List Int} {x : Nat} (h : x < l.length) : vec l x = l[x] := by simp [vec, rd, List.getD_eq_getElem?_getD, h]
theorem vec_out {l : List Int} {x : Nat} (h : l.length ≤ x) : vec l x = 0 := by simp [vec, rd, List.getD_eq_getElem?_getD, h]
theorem vec_rd {l : List Int} {c : Int} (h : 0 ≤ c) : rd l c = vec l c.toNat := by unfold vec; rw [show ((c.toNat : Nat) : Int) = c by omega]
theorem vec_mem {l : List Int} {x : Nat} (h : x < l.length) : vec l x ∈ l := by rw [vec_get h]; exact List.getElem_mem h
theorem mem_vec {l : List Int} {y : Int} (h : y ∈ l) : ∃ x, x < l.length ∧ vec l x = y := by
 obtain ⟨i, hi, e⟩ := List.mem_iff_getElem.mp h
 exact ⟨i, hi, by rw [vec_get hi]; exact e⟩
theorem vec_map {f : Int → Int} (h0 : f 0 = 0) (l : List Int) (x : Nat) : vec (l.map f) x = f (vec l x) := by
 by_cases h : x < l.length
 ·
  rw [vec_get h, vec_get (by simpa using h)]; simp
 ·
  rw [vec_out (by simp; omega), vec_out (by omega), h0]
theorem vec_zip {op : Int → Int → Int} (h0 : op 0 0 = 0) {a b : List Int} (he : a.length = b.length) (x : Nat) : vec (List.zipWith op a b) x = op (vec a x) (vec b x) := by
 by_cases h : x < a.length
 ·
  rw [vec_get h, vec_get (show x < b.length by omega), vec_get (by simp; omega)]; simp
 ·
  rw [vec_out (by simp; omega), vec_out (show a.length ≤ x by omega), vec_out (show b.length ≤ x by omega), h0]
theorem vec_ext {a b : List Int} (he : a.length = b.length) (h : vec a = vec b) : a = b := by
 apply List.ext_getElem he
 intro i h1 h2
 rw [← vec_get h1, ← vec_get h2, h]
def okr (n : Nat) (l : List Int) : Prop := l.length = n ∧ ok64 l
theorem okr_in {n : Nat} {l : List Int} (h : okr n l) (x : Nat) : in64 (vec l x) := by
 by_cases hx : x < l.length
 ·
  exact h.2 _ (vec_mem hx)
 ·
  rw [vec_out (by omega)]; constructor <;> omega
def nl (x : Int) : Prop := -9223372036854775807 ≤ x ∧ x ≤ 9223372036854775807
theorem nl.in64 {x : Int} (h : nl x) : in64 x := ⟨by have := h.1; omega, h.2⟩
theorem nl_of {x : Int} (h : in64 x) (hl : x ≠ least) : nl x := by
 obtain ⟨h1, h2⟩ := h
 unfold least at hl
 exact ⟨by omega, h2⟩
def nlr (n : Nat) (l : List Int) : Prop := l.length = n ∧ ∀ z ∈ l, nl z
theorem nlr_in {n : Nat} {l : List Int} (h : nlr n l) (x : Nat) : nl (vec l x) := by
 by_cases hx : x < l.length
 ·
  exact h.2 _ (vec_mem hx)
 ·
  rw [vec_out (by omega)]; constructor <;> omega
theorem nlr.okr {n : Nat} {l : List Int} (h : nlr n l) : okr n l := ⟨h.1, fun z hz => (h.2 z hz).in64⟩
theorem nlr_of {n : Nat} {l : List Int} (h : okr n l) (hl : ∀ x, nl (vec l x)) : nlr n l := ⟨h.1, fun z hz => by
 obtain ⟨x, _, e⟩ := mem_vec hz
 rw [← e]
 exact hl x⟩
theorem gcdL_greatest {d : Int} : ∀ (a : List Int) (s : Int), d ∣ s → (∀ x ∈ a, d ∣ x) → d ∣ gcdL a s
 | [], _, h, _ => h
 | y :: a, s, h, ha => gcdL_greatest a _ (Int.dvd_coe_gcd h (ha y (by simp))) fun x hx => ha x (by simp [hx])
def big (v : Vc) : Prop := ∃ x, hb 8 < (v x).natAbs
theorem prim_spec {a : List Int} {n : Nat} (ha : okr n a) :
  (primG a = ([], 3) ∧ big (vec a)) ∨ ∃ s, primG a = (s, 0) ∧ okr n s ∧ (∀ x, vec s x ≠ least) ∧ ∃ g : Int, 0 < g ∧ (∀ x, vec a x = g * vec s x) ∧ ((∀ x, vec a x = 0) ∨ Prm (vec s)) := by
 by_cases hl : least ∈ a
 ·
  left
  refine ⟨by unfold primG; rw [if_pos hl], ?_⟩
  obtain ⟨x, _, e⟩ := mem_vec hl
  exact ⟨x, by rw [e, hb8]; decide⟩
 ·
  right
  have hg0 := gcdL_nonneg a 0 (Int.le_refl 0)
  obtain ⟨_, hdv⟩ := gcdL_dvd a 0
  refine ⟨a.map fun x => if gcdL a 0 > 0 then Int.tdiv x (gcdL a 0) else 0, by unfold primG; rw [if_neg hl], ⟨by simp [ha.1], ?_⟩, ?_, ?_⟩
  ·
   intro y hy
   obtain ⟨x, hx, rfl⟩ := List.mem_map.mp hy
   split
   ·
    exact tdiv_in (ha.2 x hx) (by omega)
   ·
    constructor <;> omega
  ·
   intro x
   rw [vec_map (by simp)]
   by_cases hx : x < a.length
   ·
    have hm := vec_mem hx
    have h1 := ha.2 _ hm
    have h2 : vec a x ≠ least := fun e => hl (e ▸ hm)
    split
    ·
     have h3 : (Int.tdiv (vec a x) (gcdL a 0)).natAbs ≤ (vec a x).natAbs := by rw [Int.natAbs_tdiv]; exact Nat.div_le_self _ _
     obtain ⟨h4, h5⟩ := h1
     unfold least at *
     omega
    ·
     unfold least; decide
   ·
    rw [vec_out (by omega)]
    unfold least
    simp
  ·
   by_cases hz : gcdL a 0 > 0
   ·
    refine ⟨gcdL a 0, hz, fun x => ?_, .inr fun d hd => ?_⟩
    ·
     rw [vec_map (by simp), if_pos hz]
     by_cases hx : x < a.length
     ·
      exact (Int.mul_tdiv_cancel' (hdv _ (vec_mem hx))).symm
     ·
      rw [vec_out (by omega)]; simp
    ·
     have h1 : gcdL a 0 * d ∣ gcdL a 0 := by
      refine gcdL_greatest a 0 ⟨0, by simp⟩ fun y hy => ?_
      obtain ⟨x, hx, rfl⟩ := mem_vec hy
      have := hd x
      rw [vec_map (by simp), if_pos hz] at this
      obtain ⟨q, hq⟩ := this
      refine ⟨q, ?_⟩
      rw [Int.mul_assoc, ← hq]
      exact (Int.mul_tdiv_cancel' (hdv _ (vec_mem hx))).symm
     obtain ⟨q, hq⟩ := h1
     refine ⟨q, ?_⟩
     have : gcdL a 0 * (d * q) = gcdL a 0 * 1 := by rw [← Int.mul_assoc, ← hq, Int.mul_one]
     exact (Int.eq_of_mul_eq_mul_left (by omega) this).symm
   ·
    have h0 : gcdL a 0 = 0 := by omega
    have hall : ∀ x, vec a x = 0 := fun x => by
     by_cases hx : x < a.length
     ·
      have := hdv _ (vec_mem hx)
      rw [h0] at this
      exact Int.zero_dvd.mp this
     ·
      exact vec_out (by omega)
    refine ⟨1, by omega, fun x => ?_, .inl hall⟩
    rw [hall x, vec_map (by simp), if_neg hz]
    rfl
theorem zip_cases {P : Int → Int → Bool} {op : Int → Int → Int} {Q : Int → Prop} (hQ : ∀ x y, P x y = true → Q (op x y)) : ∀ (a b acc : List Int), (∀ z ∈ acc, Q z) →
  (zipP P op a b acc = ([], 3) ∧ ∃ x ∈ a, ∃ y ∈ b, P x y = false) ∨ (zipP P op a b acc = (acc ++ List.zipWith op a b, 0) ∧ ∀ z ∈ acc ++ List.zipWith op a b, Q z)
 | x :: a, y :: b, acc, h => by
  rw [zipP]
  by_cases hp : P x y = true
  ·
   rw [if_pos hp]
   rcases zip_cases hQ a b (acc ++ [op x y]) (fun z hz => by
    rcases List.mem_append.mp hz with h1 | h1
    ·
     exact h z h1
    ·
     simp at h1; subst h1; exact hQ x y hp) with ⟨h1, x', hx', y', hy', h2⟩ | ⟨h1, h2⟩
   ·
    exact .inl ⟨h1, x', by simp [hx'], y', by simp [hy'], h2⟩
   ·
    refine .inr ⟨by rw [h1]; simp, fun z hz => h2 z (by simpa using hz)⟩
  ·
   rw [if_neg hp]
   exact .inl ⟨rfl, x, by simp, y, by simp, by simpa using hp⟩
 | [], b, acc, h => .inr ⟨by simp [zipP], by simpa using h⟩
 | x :: a, [], acc, h => .inr ⟨by simp [zipP], by simpa using h⟩
/-- A row cleared in column c by a row v. -/
structure Clr (n c : Nat) (u v w : List Int) : Prop where
 ok : okr n w
 lin : ∃ a b g : Int, 0 < a ∧ 0 < g ∧ ∀ x, g * vec w x = a * vec u x + b * vec v x
 zr : vec w c = 0
 nl : (∀ x, nl (vec u x)) → ∀ x, nl (vec w x)
 pr : (∀ x, vec w x = vec u x) ∨ Prm (vec w) ∨ ∀ x, vec w x = 0
theorem Clr.keep {n c : Nat} {u v : List Int} (h : okr n u) (h0 : vec u c = 0) : Clr n c u v u :=
 ⟨h, ⟨1, 0, 1, by decide, by decide, fun x => by simp⟩, h0, fun h => h, .inl fun _ => rfl⟩
theorem tdiv_gcd {x y : Int} (hy : 0 < y) : 0 < (Int.gcd x y : Int) ∧ (Int.gcd x y : Int) ≤ y ∧ (Int.gcd x y : Int) * Int.tdiv x (Int.gcd x y : Int) = x ∧ (Int.gcd x y : Int) * Int.tdiv y (Int.gcd x y : Int) = y ∧ 0 < Int.tdiv y (Int.gcd x y : Int) ∧ (Int.tdiv y (Int.gcd x y : Int)) ≤ y ∧ (Int.tdiv x (Int.gcd x y : Int)).natAbs ≤ x.natAbs := by
 have h1 : 0 < Int.gcd x y := Int.gcd_pos_of_ne_zero_right x (by omega)
 have h2 : (Int.gcd x y : Int) ≤ y := Int.le_of_dvd hy (Int.gcd_dvd_right ..)
 have h3 : (Int.gcd x y : Int) * Int.tdiv x (Int.gcd x y : Int) = x := Int.mul_tdiv_cancel' (Int.gcd_dvd_left ..)
 have h4 : (Int.gcd x y : Int) * Int.tdiv y (Int.gcd x y : Int) = y := Int.mul_tdiv_cancel' (Int.gcd_dvd_right ..)
 have h5 : (Int.tdiv y (Int.gcd x y : Int)).natAbs ≤ y.natAbs := by rw [Int.natAbs_tdiv]; exact Nat.div_le_self _ _
 have h6 : (Int.tdiv x (Int.gcd x y : Int)).natAbs ≤ x.natAbs := by rw [Int.natAbs_tdiv]; exact Nat.div_le_self _ _
 have h7 : 0 < Int.tdiv y (Int.gcd x y : Int) := by
  apply Classical.byContradiction
  intro hn
  have := Int.mul_nonneg (a := (Int.gcd x y : Int)) (b := -Int.tdiv y (Int.gcd x y : Int)) (by omega) (by omega)
  rw [Int.mul_neg, h4] at this
  omega
 exact ⟨by omega, h2, h3, h4, h7, by omega, h6⟩
theorem clear_spec {K n : Nat} {rows : List (List Int)} {i p c : Nat} (hK : 200 ≤ K) (hn : n ≤ 64) (hi : i < rows.length) (hp : p < rows.length) (hu : okr n (rd_L1 rows i)) (hv : okr n (rd_L1 rows p)) (hc : c < n)
  (hx : vec (rd_L1 rows i) c ≠ 0) (hy : 0 < vec (rd_L1 rows p) c) :
  (∃ s, table_clear.f K rows i p c = some (rows.set i s, 0) ∧ Clr n c (rd_L1 rows i) (rd_L1 rows p) s) ∨ (∃ rows', table_clear.f K rows i p c = some (rows', 3) ∧ (big (vec (rd_L1 rows i)) ∨ big (vec (rd_L1 rows p)))) := by
 unfold table_clear.f
 obtain ⟨u, hue⟩ : ∃ u, u = rd_L1 rows i := ⟨_, rfl⟩
 obtain ⟨v, hve⟩ : ∃ v, v = rd_L1 rows p := ⟨_, rfl⟩
 rw [← hue] at hu hx ⊢
 rw [← hve] at hv hy ⊢
 have hul := hu.1
 have hvl := hv.1
 rw [if_pos ⟨by omega, by omega, by omega, by omega, by omega, by omega, by omega⟩]
 have e1 : rd u (c : Int) = vec u c := rfl
 have e2 : rd v (c : Int) = vec v c := rfl
 rw [e1, e2]
 obtain ⟨x, hxe⟩ : ∃ x, x = vec u c := ⟨_, rfl⟩
 obtain ⟨y, hye⟩ : ∃ y, y = vec v c := ⟨_, rfl⟩
 have hxi : in64 x := hxe ▸ okr_in hu c
 have hyi : in64 y := hye ▸ okr_in hv c
 rw [← hxe] at hx ⊢
 rw [← hye] at hy ⊢
 obtain ⟨g1, g2, g3, g4, g5, g6, g7⟩ := tdiv_gcd (x := x) (y := y) hy
 obtain ⟨g, hge⟩ : ∃ g, g = (Int.gcd x y : Int) := ⟨_, rfl⟩
 unfold safeint_Gcd.f
 rw [if_pos ⟨hxi, hyi⟩]
 have hyu := hyi.2
 rw [if_pos (by omega)]
 simp only [Option.bind_some]
 rw [if_neg (by simp), ← hge]
 rw [← hge] at g1 g2 g3 g4 g5 g6 g7
 obtain ⟨al, hal⟩ : ∃ z, z = Int.tdiv y g := ⟨_, rfl⟩
 obtain ⟨be, hbe⟩ : ∃ z, z = Int.tdiv x g := ⟨_, rfl⟩
 rw [← hbe] at g3 g7 ⊢
 rw [← hal] at g4 g5 g6 ⊢
 obtain ⟨hx1, hx2⟩ := hxi
 obtain ⟨hy1, hy2⟩ := hyi
 have hbx : big (vec u) ∨ x.natAbs ≤ hb 8 := by
  by_cases h : hb 8 < x.natAbs
  ·
   exact .inl ⟨c, by rw [← hxe]; exact h⟩
  ·
   exact .inr (by omega)
 have hby : big (vec v) ∨ y.natAbs ≤ hb 8 := by
  by_cases h : hb 8 < y.natAbs
  ·
   exact .inl ⟨c, by rw [← hye]; exact h⟩
  ·
   exact .inr (by omega)
 by_cases hl : x = -9223372036854775808
 ·
  right
  rw [if_pos hl]
  refine ⟨_, rfl, .inl ⟨c, ?_⟩⟩
  rw [← hxe, hl, hb8]
  decide
 rw [if_neg hl, if_neg (by omega)]
 have w1 : wrap64 al = al := wrap64_id ⟨by omega, by omega⟩
 have w2 : wrap64 be = be := wrap64_id ⟨by omega, by omega⟩
 have w3 : wrap64 (-be) = -be := wrap64_id ⟨by omega, by omega⟩
 rw [w1, w2, w3, vcomb_eq hu.2 hv.2 ⟨by omega, by omega⟩ ⟨by omega, by omega⟩ (by omega), if_pos (by omega)]
 simp only [Option.bind_some]
 have hsmall : ∀ {a b : Int}, a.natAbs ≤ hb 8 → b.natAbs ≤ hb 8 → (a * b).natAbs ≤ 100000000000000000 := by
  intro a b h1 h2
  rw [Int.natAbs_mul]
  refine Nat.le_trans (Nat.mul_le_mul h1 h2) ?_
  rw [hb8]
  decide
 have hnb : ¬ big (vec u) → ¬ big (vec v) → al.natAbs ≤ hb 8 ∧ be.natAbs ≤ hb 8 ∧ ∀ z, (vec u z).natAbs ≤ hb 8 ∧ (vec v z).natAbs ≤ hb 8 := by
  intro h1 h2
  have hbx := hbx.resolve_left h1
  have hby := hby.resolve_left h2
  exact ⟨by omega, by omega, fun z => ⟨Nat.le_of_not_lt fun h => h1 ⟨z, h⟩, Nat.le_of_not_lt fun h => h2 ⟨z, h⟩⟩⟩
 rcases zip_cases (P := combP al (-be)) (op := fun x y => x * al + y * (-be)) (Q := in64) (fun x y h => by
  unfold combP at h
  simp only [Bool.and_eq_true, decide_eq_true_eq] at h
  exact h.2) u v [] (by simp) with ⟨h1, x', hx', y', hy', h2⟩ | ⟨h1, h2⟩
 ·
  right
  rw [h1, if_pos (by decide)]
  refine ⟨_, rfl, ?_⟩
  apply Classical.byContradiction
  intro hno
  have hno1 : ¬ big (vec u) := fun h => hno (.inl h)
  have hno2 : ¬ big (vec v) := fun h => hno (.inr h)
  obtain ⟨b1, b2, b3⟩ := hnb hno1 hno2
  obtain ⟨z1, _, rfl⟩ := mem_vec hx'
  obtain ⟨z2, _, rfl⟩ := mem_vec hy'
  have p1 := hsmall (b3 z1).1 b1
  have p2 := hsmall (a := vec v z2) (b := -be) (b3 z2).2 (by rw [Int.natAbs_neg]; exact b2)
  unfold combP at h2
  rw [decide_eq_true (show in64 (vec u z1 * al) from ⟨by omega, by omega⟩), decide_eq_true (show in64 (vec v z2 * -be) from ⟨by omega, by omega⟩), decide_eq_true (show in64 (vec u z1 * al + vec v z2 * -be) from ⟨by omega, by omega⟩)] at h2
  simp at h2
 ·
  rw [h1, if_neg (by simp)]
  simp only [List.nil_append] at h2 ⊢
  have hrl : okr n (List.zipWith (fun x y => x * al + y * (-be)) u v) := ⟨by simp; omega, h2⟩
  have hrv : ∀ z, vec (List.zipWith (fun x y => x * al + y * (-be)) u v) z = vec u z * al + vec v z * (-be) := fun z => vec_zip (by simp) (by omega) z
  generalize List.zipWith (fun x y => x * al + y * (-be)) u v = r at *
  rw [vprim_eq hrl.2 (by have := hrl.1; omega) K (by have := hrl.1; omega)]
  simp only [Option.bind_some]
  rcases prim_spec hrl with ⟨q1, z, q2⟩ | ⟨s, q1, q2, q3, g', q4, q5, q6⟩
  ·
   right
   rw [q1]
   refine ⟨_, rfl, ?_⟩
   apply Classical.byContradiction
   intro hno
   have hlm : least ∈ r := by
    apply Classical.byContradiction
    intro h
    unfold primG at q1
    rw [if_neg h] at q1
    simp at q1
   obtain ⟨z, _, hz⟩ := mem_vec hlm
   obtain ⟨b1, b2, b3⟩ := hnb (fun h => hno (.inl h)) (fun h => hno (.inr h))
   have p1 := hsmall (b3 z).1 b1
   have p2 := hsmall (a := vec v z) (b := -be) (b3 z).2 (by rw [Int.natAbs_neg]; exact b2)
   rw [hrv] at hz
   unfold least at hz
   omega
  ·
   left
   rw [q1]
   refine ⟨s, by simp, q2, ⟨al, -be, g', g5, q4, fun z => ?_⟩, ?_, fun _ z => nl_of (okr_in q2 z) (q3 z), ?_⟩
   ·
    rw [← q5, hrv, Int.mul_comm al, Int.mul_comm (-be)]
   ·
    have h5 := q5 c
    have h6 : vec u c * al + vec v c * -be = 0 := by
     rw [← hxe, ← hye]
     have : x * al + y * -be = x * al - y * be := by rw [Int.mul_neg]; omega
     rw [this]
     have h7 : g * (x * al - y * be) = 0 := by
      rw [Int.mul_sub, Int.mul_left_comm, g4, Int.mul_left_comm, g3, Int.mul_comm]
      omega
     exact (Int.mul_eq_zero.mp h7).resolve_left (by omega)
    rw [hrv, h6] at h5
    exact (Int.mul_eq_zero.mp h5.symm).resolve_left (by omega)
   ·
    rcases q6 with q6 | q6
    ·
     exact .inr (.inr fun z => by
      have := q5 z
      rw [q6 z] at this
      exact (Int.mul_eq_zero.mp this.symm).resolve_left (by omega))
    ·
     exact .inr (.inl q6)
end Go.Proofs.Ytckefohfahphpaa.Z
end
section
namespace Go.Proofs.Ytckefohfahphpaa.Z
open Go.RowKit Go.Proofs.YtckefohfahphpaaW.PrintWords Go.Proofs.YtckefohfahphpaaW.PrintLast Go.Proofs.YtckefohfahphpaaW.PrintMore
set_option linter.unusedVariables false
set_option linter.unusedSimpArgs false
theorem rdL_set {L : List (List Int)} {i : Nat} {s : List Int} (h : i < L.length) (j : Nat) : rd_L1 (L.set i s) (j : Int) = if j = i then s else rd_L1 L (j : Int) := by
 by_cases e : j = i
 ·
  subst e
  simp [rd_L1, List.getD_eq_getElem?_getD, h]
 ·
  rw [if_neg e]
  simp [rd_L1, List.getD_eq_getElem?_getD, List.getElem?_set_ne (Ne.symm e)]
theorem rdL_out {L : List (List Int)} {j : Nat} (h : L.length ≤ j) : rd_L1 L (j : Int) = [] := by simp [rd_L1, List.getD_eq_getElem?_getD, h]
def good (m n : Nat) (L : List (List Int)) : Prop := L.length = m ∧ ∀ i, i < m → okr n (rd_L1 L (i : Int))
theorem leadAt_spec {m n c : Nat} {L : List (List Int)} (hg : good m n L) (hc : c < n) : ∀ (d k : Nat), k + d = m → ∃ at_, table_leadAt (c : Int) (L.drop k) k = some at_ ∧ k ≤ at_ ∧ at_ ≤ m ∧ (∀ i, k ≤ i → i < at_ → vec (rd_L1 L (i : Int)) c = 0) ∧ (at_ < m → vec (rd_L1 L (at_ : Int)) c ≠ 0) := by
 intro d
 induction d with
 | zero =>
  intro k hk
  refine ⟨k, ?_, by omega, by omega, fun i h1 h2 => by omega, fun h => by omega⟩
  rw [List.drop_of_length_le (by rw [hg.1]; omega)]
  rfl
 | succ d ih =>
  intro k hk
  have hkl : k < L.length := by rw [hg.1]; omega
  have hr := hg.2 k (by omega)
  have hrl := hr.1
  rw [drop_L1 hkl, table_leadAt, if_pos ⟨by omega, by omega⟩]
  have e1 : rd (rd_L1 L (k : Int)) (c : Int) = vec (rd_L1 L (k : Int)) c := rfl
  rw [e1]
  by_cases h0 : vec (rd_L1 L (k : Int)) c = 0
  ·
   rw [if_pos h0]
   obtain ⟨at_, h1, h2, h3, h4, h5⟩ := ih (k + 1) (by omega)
   refine ⟨at_, h1, by omega, h3, fun i h6 h7 => ?_, h5⟩
   by_cases e : i = k
   ·
    rw [e]; exact h0
   ·
    exact h4 i (by omega) h7
  ·
   rw [if_neg h0]
   exact ⟨k, rfl, by omega, by omega, fun i h1 h2 => by omega, fun _ => h0⟩
/-- What bringing row q to place k does. -/
structure Led (m n k q c : Nat) (L M : List (List Int)) : Prop where
 qk : k ≤ q
 qm : q < m
 nq : vec (rd_L1 L (q : Int)) c ≠ 0
 gd : good m n M
 oth : ∀ i, i < m → i ≠ k → rd_L1 M (i : Int) = rd_L1 L ((if i = q then k else i : Nat) : Int)
 lin : ∃ a g : Int, a ≠ 0 ∧ g ≠ 0 ∧ ∀ x, g * vec (rd_L1 M (k : Int)) x = a * vec (rd_L1 L (q : Int)) x
 prm : Prm (vec (rd_L1 M (k : Int)))
 pos : 0 < vec (rd_L1 M (k : Int)) c
 nl : ∀ x, nl (vec (rd_L1 M (k : Int)) x)
theorem lead_spec {K m n c : Nat} {L : List (List Int)} {cols : List Int} (hK : 200 ≤ K) (hm : m ≤ 64) (hn : n ≤ 64) (hg : good m n L) (hc : c < n) (hk : cols.length < m) :
  (∃ M, table_lead.f K L cols c = some ((M, cols ++ [(c : Int)]), true, 0) ∧ ∃ q, Led m n cols.length q c L M) ∨
  (table_lead.f K L cols c = some ((L, cols), false, 0) ∧ ∀ i, cols.length ≤ i → i < m → vec (rd_L1 L (i : Int)) c = 0) ∨
  (∃ M, table_lead.f K L cols c = some ((M, cols), false, 3) ∧ ∃ i, i < m ∧ big (vec (rd_L1 L (i : Int)))) := by
 obtain ⟨k, hke⟩ : ∃ k, k = cols.length := ⟨_, rfl⟩
 have hL := hg.1
 unfold table_lead.f
 rw [if_pos ⟨by omega, by omega, by omega⟩, ← hke]
 obtain ⟨q, h1, h2, h3, h4, h5⟩ := leadAt_spec hg hc (m - k) k (by omega)
 rw [h1]
 simp only [Option.bind_some]
 unfold table_leadTo
 by_cases hq : q = L.length
 ·
  right; left
  rw [if_pos hq]
  exact ⟨rfl, fun i h6 h7 => h4 i h6 (by omega)⟩
 rw [if_neg hq, ← hke]
 have hr := hg.2 q (by omega)
 have hrl := hr.1
 rw [vprim_eq hr.2 (by omega) K (by omega)]
 simp only [Option.bind_some]
 rcases prim_spec hr with ⟨q1, q2⟩ | ⟨s, q1, q2, q3, g, q4, q5, q6⟩
 ·
  right; right
  rw [q1, if_neg (by decide)]
  exact ⟨_, rfl, q, by omega, q2⟩
 rw [q1, if_pos rfl]
 have hsl := q2.1
 rw [if_pos ⟨by omega, by dsimp only; omega⟩]
 have hnq := h5 (by omega)
 have hp : Prm (vec s) := q6.resolve_left fun h => hnq (h c)
 have hs0 : vec s c ≠ 0 := by
  intro h0
  have := q5 c
  rw [h0] at this
  exact hnq (by omega)
 have e1 : rd (s, (0 : Int)).1 (c : Int) = vec s c := rfl
 rw [e1]
 have place : ∀ r : List Int, okr n r → (∀ x, nl (vec r x)) → (∃ a g : Int, a ≠ 0 ∧ g ≠ 0 ∧ ∀ x, g * vec r x = a * vec (rd_L1 L (q : Int)) x) → Prm (vec r) → 0 < vec r c →
   Led m n k q c L (((L.set k (rd_L1 L (q : Int))).set q (rd_L1 L (k : Int))).set k r) := by
  intro r hr1 hr0 hr2 hr3 hr4
  have hMk : rd_L1 (((L.set k (rd_L1 L (q : Int))).set q (rd_L1 L (k : Int))).set k r) (k : Int) = r := by rw [rdL_set (by simp; omega), if_pos rfl]
  have hM : ∀ i, i < m → i ≠ k → rd_L1 (((L.set k (rd_L1 L (q : Int))).set q (rd_L1 L (k : Int))).set k r) (i : Int) = rd_L1 L ((if i = q then k else i : Nat) : Int) := by
   intro i hi hik
   rw [rdL_set (by simp; omega), if_neg hik, rdL_set (by simp; omega)]
   by_cases e : i = q
   ·
    rw [if_pos e, if_pos e]
   ·
    rw [if_neg e, if_neg e, rdL_set (by omega), if_neg hik]
  refine ⟨h2, by omega, hnq, ⟨by simp; omega, fun i hi => ?_⟩, hM, by rw [hMk]; exact hr2, by rw [hMk]; exact hr3, by rw [hMk]; exact hr4, by rw [hMk]; exact hr0⟩
  by_cases e : i = k
  ·
   rw [e, hMk]; exact hr1
  ·
   rw [hM i hi e]
   exact hg.2 _ (by split <;> omega)
 by_cases hneg : vec s c < 0
 ·
  rw [if_pos hneg, vscale_eq q2.2 (by constructor <;> omega) (by omega)]
  simp only [Option.bind_some]
  rcases zip_cases (P := scaleP (-1)) (op := fun x _ => x * (-1)) (Q := in64) (fun x y h => by
   unfold scaleP at h
   simpa using h) s s [] (by simp) with ⟨z1, x', hx', y', hy', z2⟩ | ⟨z1, z2⟩
  ·
   exfalso
   unfold scaleP at z2
   obtain ⟨i, _, rfl⟩ := mem_vec hx'
   have := okr_in q2 i
   have := q3 i
   unfold least at this
   rw [decide_eq_true (show in64 (vec s i * -1) from by unfold in64 at *; omega)] at z2
   simp at z2
  ·
   left
   rw [z1, if_pos rfl]
   simp only [List.nil_append] at z2 ⊢
   have hv : ∀ x, vec (List.zipWith (fun x _ => x * (-1)) s s) x = -vec s x := fun x => by
    rw [vec_zip (op := fun x _ => x * (-1)) (by simp) rfl]
    omega
   refine ⟨_, rfl, q, place _ ⟨by simp; omega, z2⟩ (fun x => by
    rw [hv]
    obtain ⟨n1, n2⟩ := nl_of (okr_in q2 x) (q3 x)
    constructor <;> omega) ⟨-1, g, by decide, by omega, fun x => ?_⟩ ?_ ?_⟩
   ·
    rw [hv, q5, Int.mul_neg]
    omega
   ·
    intro d hd
    refine hp d fun x => ?_
    have := hd x
    rw [hv] at this
    exact Int.dvd_neg.mp this
   ·
    rw [hv]; omega
 ·
  left
  rw [if_neg hneg]
  exact ⟨_, rfl, q, place s q2 (fun x => nl_of (okr_in q2 x) (q3 x)) ⟨1, g, by decide, by omega, fun x => by rw [q5]; omega⟩ hp (by omega)⟩
end Go.Proofs.Ytckefohfahphpaa.Z
end
section
namespace Go.Proofs.Ytckefohfahphpaa.Z
open Go.RowKit Go.Proofs.YtckefohfahphpaaW.PrintWords Go.Proofs.YtckefohfahphpaaW.PrintLast Go.Proofs.YtckefohfahphpaaW.PrintMore
set_option linter.unusedVariables false
set_option linter.unusedSimpArgs false
theorem redclear_spec {K m n p c : Nat} (hK : 200 ≤ K) (hn : n ≤ 64) (hp : p < m) (hc : c < n) : ∀ (d i : Nat) (L : List (List Int)), i + d = m → good m n L → 0 < vec (rd_L1 L (p : Int)) c →
  (∃ M, red_clear K p c d L i = some (M, 0) ∧ good m n M ∧ rd_L1 M (p : Int) = rd_L1 L (p : Int) ∧ (∀ j : Nat, j < i → rd_L1 M (j : Int) = rd_L1 L (j : Int)) ∧ ∀ j : Nat, i ≤ j → j < m → j ≠ p → Clr n c (rd_L1 L (j : Int)) (rd_L1 L (p : Int)) (rd_L1 M (j : Int))) ∨
  (∃ M, red_clear K p c d L i = some (M, 3) ∧ ∃ j : Nat, (i ≤ j ∨ j = p) ∧ j < m ∧ big (vec (rd_L1 L (j : Int)))) := by
 intro d
 induction d with
 | zero =>
  intro i L hi hg hv
  exact .inl ⟨L, rfl, hg, rfl, fun _ _ => rfl, fun j h1 h2 => by omega⟩
 | succ d ih =>
  intro i L hi hg hv
  have hL := hg.1
  have hr := hg.2 i (by omega)
  have hrl := hr.1
  rw [red_clear]
  by_cases hip : i = p
  ·
   rw [if_pos (by omega)]
   rcases ih (i + 1) L (by omega) hg hv with ⟨M, h1, h2, h3, h4, h5⟩ | h
   ·
    exact .inl ⟨M, h1, h2, h3, fun j hj => h4 j (by omega), fun j h6 h7 h8 => h5 j (by omega) h7 h8⟩
   ·
    obtain ⟨M, q1, j, q0, q2, q3⟩ := h
    exact .inr ⟨M, q1, j, by omega, q2, q3⟩
  rw [if_neg (by omega), if_pos ⟨by omega, by omega⟩]
  have e1 : rd (rd_L1 L (i : Int)) (c : Int) = vec (rd_L1 L (i : Int)) c := rfl
  rw [e1]
  by_cases h0 : vec (rd_L1 L (i : Int)) c = 0
  ·
   rw [if_pos h0]
   rcases ih (i + 1) L (by omega) hg hv with ⟨M, h1, h2, h3, h4, h5⟩ | h
   ·
    refine .inl ⟨M, h1, h2, h3, fun j hj => h4 j (by omega), fun j h6 h7 h8 => ?_⟩
    by_cases e : j = i
    ·
     subst e
     rw [h4 j (by omega)]
     exact .keep hr h0
    ·
     exact h5 j (by omega) h7 h8
   ·
    obtain ⟨M, q1, j, q0, q2, q3⟩ := h
    exact .inr ⟨M, q1, j, by omega, q2, q3⟩
  rw [if_neg h0]
  rcases clear_spec (i := i) (p := p) hK hn (by omega) (by omega) hr (hg.2 p hp) hc h0 hv with ⟨s, h1, h2⟩ | ⟨rows', h1, h2⟩
  ·
   rw [h1]
   simp only [Option.bind_some, if_true]
   have hs : ∀ j : Nat, rd_L1 (L.set i s) (j : Int) = if j = i then s else rd_L1 L (j : Int) := rdL_set (by omega)
   have hg' : good m n (L.set i s) := ⟨by simp; omega, fun j hj => by
    rw [hs]
    split
    ·
     exact h2.ok
    ·
     exact hg.2 j hj⟩
   have hsp : rd_L1 (L.set i s) (p : Int) = rd_L1 L (p : Int) := by rw [hs, if_neg (by omega)]
   rcases ih (i + 1) (L.set i s) (by omega) hg' (by rw [hsp]; exact hv) with ⟨M, q1, q2, q3, q4, q5⟩ | ⟨M, q1, j, q0, q2, q3⟩
   ·
    refine .inl ⟨M, q1, q2, by rw [q3, hsp], fun j hj => ?_, fun j h6 h7 h8 => ?_⟩
    ·
     rw [q4 j (by omega), hs, if_neg (by omega)]
    ·
     by_cases e : j = i
     ·
      subst e
      rw [q4 j (by omega), hs, if_pos rfl]
      exact h2
     ·
      have := q5 j (by omega) h7 h8
      rw [hsp, hs, if_neg e] at this
      exact this
   ·
    right
    rw [hs, if_neg (by omega)] at q3
    exact ⟨M, q1, j, by omega, q2, q3⟩
  ·
   rw [h1]
   simp only [Option.bind_some]
   rw [if_neg (by decide)]
   refine .inr ⟨rows', rfl, ?_⟩
   rcases h2 with h2 | h2
   ·
    exact ⟨i, by omega, by omega, h2⟩
   ·
    exact ⟨p, by omega, hp, h2⟩
/-- A state of the program's elimination ahead of column c. -/
structure Sta (a : List (List Int)) (m n : Nat) (L : List (List Int)) (cols : List Int) (p : Nat → Nat) (c : Nat) : Prop where
 gd : good m n L
 cs : ∀ i : Nat, i < cols.length → rd cols (i : Int) = (p i : Int)
 st : Stg (spanL a) m (rowsV L) cols.length p c
 ps : ∀ i, i < cols.length → 0 < rowsV L i (p i)
 nl : ∀ i, i < cols.length → ∀ x, nl (rowsV L i x)
 bd : ∃ R C, Bnd (spanL a) m (rowsV L) cols.length p R C
def tiny (a : List (List Int)) (m : Nat) : Prop := m ≤ 8 ∧ ∀ r ∈ spanL a, ∀ x, (r x).natAbs ≤ 3
theorem Sta.small {a : List (List Int)} {m n : Nat} {L : List (List Int)} {cols : List Int} {p : Nat → Nat} {c : Nat} (h : Sta a m n L cols p c) (ht : tiny a m) {i : Nat} (hi : i < m) : ¬ big (vec (rd_L1 L (i : Int))) := by
 obtain ⟨R, C, hb⟩ := h.bd
 rintro ⟨x, hx⟩
 have := hb.skip h.st ht.1 ht.2 i hi x
 unfold rowsV at this
 omega
theorem rd_snoc (l : List Int) (c : Int) (i : Nat) : rd (l ++ [c]) (i : Int) = if i = l.length then c else rd l (i : Int) := by
 simp only [rd, List.getD_eq_getElem?_getD, Int.toNat_natCast]
 by_cases h : i < l.length
 ·
  rw [if_neg (by omega), List.getElem?_append_left h]
 ·
  rw [List.getElem?_append_right (by omega)]
  by_cases e : i = l.length
  ·
   subst e; simp
  ·
   rw [if_neg e, List.getElem?_eq_none (by simp; omega), List.getElem?_eq_none (by omega)]
theorem pos_of_mul {a b : Int} (ha : 0 < a) (h : 0 < a * b) : 0 < b := by
 apply Classical.byContradiction
 intro hn
 have := Int.mul_nonneg (a := a) (b := -b) (by omega) (by omega)
 rw [Int.mul_neg] at this
 omega
theorem Sta.step {a : List (List Int)} {m n : Nat} {L M N : List (List Int)} {cols : List Int} {p : Nat → Nat} {c q : Nat} (h : Sta a m n L cols p c) (hl : Led m n cols.length q c L M) (hN : good m n N)
  (hk : rd_L1 N (cols.length : Int) = rd_L1 M (cols.length : Int)) (hc : ∀ j : Nat, j < m → j ≠ cols.length → Clr n c (rd_L1 M (j : Int)) (rd_L1 M (cols.length : Int)) (rd_L1 N (j : Int))) :
  Sta a m n N (cols ++ [(c : Int)]) (fun i => if i = cols.length then c else p i) (c + 1) := by
 have hkU : rowsV N cols.length = vec (rd_L1 M (cols.length : Int)) := by unfold rowsV; rw [hk]
 have hs : Stp m cols.length q c (rowsV L) (rowsV N) := by
  refine ⟨hl.qk, hl.qm, hl.nq, ?_, ?_, fun i hi hik => ?_, fun i hi hik => (hc i hi hik).zr, fun i hi hik => ?_⟩
  ·
   rw [hkU]; exact hl.lin
  ·
   rw [hkU]; exact hl.prm
  ·
   obtain ⟨a', b', g', ha, hg, e⟩ := (hc i hi hik).lin
   refine ⟨a', b', g', by omega, by omega, fun x => ?_⟩
   have := e x
   rw [hl.oth i hi hik] at this
   rw [hkU]
   exact this
  ·
   have := (hc i hi hik).pr
   rw [hl.oth i hi hik] at this
   exact this
 obtain ⟨R, C, hb⟩ := h.bd
 have hlen : (cols ++ [(c : Int)]).length = cols.length + 1 := by simp
 refine ⟨hN, fun i hi => ?_, by rw [hlen]; exact h.st.step hs, fun i hi => ?_, fun i hi x => ?_, by rw [hlen]; exact hb.step h.st hs⟩
 ·
  rw [rd_snoc]
  by_cases e : i = cols.length
  ·
   rw [if_pos e, if_pos e]
  ·
   rw [if_neg e, if_neg e]; exact h.cs i (by omega)
 ·
  by_cases e : i = cols.length
  ·
   rw [if_pos e, e, hkU]; exact hl.pos
  ·
   rw [if_neg e]
   have hi' : i < cols.length := by omega
   have hkm := hl.qm
   have hkq := hl.qk
   obtain ⟨a', b', g', ha, hg, e'⟩ := (hc i (by omega) e).lin
   have h1 := e' (p i)
   have h2 := (h.st.ukz hs).2.1 i hi'
   rw [hkU] at h2
   rw [h2, hl.oth i (by omega) e, if_neg (by omega), Int.mul_zero, Int.add_zero] at h1
   have h3 := Int.mul_pos ha (h.ps i hi')
   unfold rowsV at h3
   rw [← h1] at h3
   exact pos_of_mul hg h3
 ·
  by_cases e : i = cols.length
  ·
   rw [e, hkU]; exact hl.nl x
  ·
   have hkm := hl.qm
   have hkq := hl.qk
   refine (hc i (by omega) e).nl (fun x => ?_) x
   rw [hl.oth i (by omega) e, if_neg (by omega)]
   exact h.nl i (by omega) x
theorem redcols_spec {K m n : Nat} {a : List (List Int)} (hK : 200 ≤ K) (hm : m ≤ 64) (hn : n ≤ 64) : ∀ (d c : Nat) (L : List (List Int)) (cols : List Int) (p : Nat → Nat), c + d = n → Sta a m n L cols p c →
  (∃ N cols' p' c', red_cols K d L cols (c : Int) = some ((N, cols'), 0) ∧ Sta a m n N cols' p' c' ∧ c' ≤ n ∧ (cols'.length = m ∨ c' = n)) ∨ (∃ N cols', red_cols K d L cols (c : Int) = some ((N, cols'), 3) ∧ ¬ tiny a m) := by
 intro d
 induction d with
 | zero =>
  intro c L cols p hc hs
  exact .inl ⟨L, cols, p, c, rfl, hs, by omega, .inr (by omega)⟩
 | succ d ih =>
  intro c L cols p hc hs
  have hL := hs.gd.1
  have hkm := hs.st.km
  rw [red_cols]
  by_cases he : cols.length = L.length
  ·
   rw [if_pos he]
   exact .inl ⟨L, cols, p, c, rfl, hs, by omega, .inl (by omega)⟩
  rw [if_neg he]
  rcases lead_spec hK hm hn hs.gd (show c < n by omega) (cols := cols) (by omega) with ⟨M, h1, q, h2⟩ | ⟨h1, h2⟩ | ⟨M, h1, i, h2, h3⟩
  ·
   rw [h1]
   simp only [Option.bind_some, if_true]
   rw [show (((cols ++ [(c : Int)]).length : Int) - 1) = (cols.length : Int) by simp]
   have hM := h2.gd.1
   rcases redclear_spec hK hn (p := cols.length) (by omega) (show c < n by omega) M.length 0 M (by omega) h2.gd h2.pos with ⟨N, r1, r2, r3, r4, r5⟩ | ⟨N, r1, j, r0, r2, r3⟩
   ·
    have r1' : red_clear K (cols.length : Int) (c : Int) M.length M 0 = some (N, 0) := r1
    rw [r1']
    simp only [Option.bind_some, if_true]
    have := ih (c + 1) N (cols ++ [(c : Int)]) _ (by omega) (hs.step h2 r2 r3 fun j h3 h4 => r5 j (by omega) h3 h4)
    exact this
   ·
    have r1' : red_clear K (cols.length : Int) (c : Int) M.length M 0 = some (N, 3) := r1
    rw [r1']
    simp only [Option.bind_some]
    rw [if_neg (by decide)]
    refine .inr ⟨N, _, rfl, fun ht => ?_⟩
    by_cases e : j = cols.length
    ·
     obtain ⟨a', g', ha, hg, e'⟩ := h2.lin
     obtain ⟨x, hx⟩ := r3
     rw [e] at hx
     have := h2.prm.bound ha hg (fun x => (e' x).symm) x
     exact hs.small ht h2.qm ⟨x, by omega⟩
    ·
     rw [h2.oth j r2 e] at r3
     have := h2.qm
     have := h2.qk
     exact hs.small ht (by split <;> omega) r3
  ·
   rw [h1]
   simp only [Option.bind_some, if_true]
   rw [if_neg (by decide)]
   obtain ⟨R, C, hb⟩ := hs.bd
   exact ih (c + 1) L cols p (by omega) ⟨hs.gd, hs.cs, hs.st.skip h2, hs.ps, hs.nl, R, C, hb⟩
  ·
   rw [h1]
   simp only [Option.bind_some]
   rw [if_neg (by decide)]
   exact .inr ⟨M, cols, rfl, fun ht => hs.small ht h2 h3⟩
/-- What the program's elimination comes to. -/
structure Outc (a : List (List Int)) (n : Nat) (E : List (List Int)) (p : Nat → Nat) : Prop where
 ok : ∀ r ∈ E, nlr n r
 pn : ∀ i, i < E.length → p i < n
 fn : Fnl (spanL a) (rowsV E) E.length p
theorem Fnl.congr {A : List Vc} {T T' : Nat → Vc} {k : Nat} {p : Nat → Nat} (h : Fnl A T k p) (e : ∀ i, i < k → T i = T' i) : Fnl A T' k p := by
 have e1 : pairs T p k = pairs T' p k := List.map_congr_left fun i hi => by rw [e i (List.mem_range.mp hi)]
 have e2 : vs T k = vs T' k := List.map_congr_left fun i hi => e i (List.mem_range.mp hi)
 exact ⟨e1 ▸ h.red, fun i hi => e i hi ▸ h.up i hi, e2 ▸ h.dn, fun i hi => e i hi ▸ h.pr i hi⟩
theorem rdL_take {L : List (List Int)} {k i : Nat} (h : i < k) : rd_L1 (L.take k) (i : Int) = rd_L1 L (i : Int) := by
 simp [rd_L1, List.getD_eq_getElem?_getD, List.getElem?_take, h]
theorem good_mem {m n : Nat} {L : List (List Int)} (h : good m n L) {r : List Int} (hr : r ∈ L) : okr n r := by
 obtain ⟨i, hi, e⟩ := List.mem_iff_getElem.mp hr
 have := h.2 i (by rw [← h.1]; exact hi)
 rw [show rd_L1 L (i : Int) = r by simp [rd_L1, List.getD_eq_getElem?_getD, hi, e]] at this
 exact this
/-- What the bound of the rows gives the kernel's vectors. -/
def cram (E : List (List Int)) (p : Nat → Nat) : Prop := (∀ i, i < E.length → ∀ x, (rowsV E i x).natAbs ≤ hb 8) ∧ ∃ D : Int, D ≠ 0 ∧ D.natAbs ≤ hb 8 ∧ ∀ i, i < E.length → ∀ x, rowsV E i (p i) ∣ D * rowsV E i x
theorem reduce_spec {K : Nat} {a : List (List Int)} (hK : 200 ≤ K) (hv : validB a = true) (ha : ∀ r ∈ a, ok64 r) :
  (∃ E cols p, matrix_reduce.f K a = some ((E, cols), 0) ∧ Outc a (rd_L1 a 0).length E p ∧ cols.length = E.length ∧ (∀ i : Nat, i < E.length → rd cols (i : Int) = (p i : Int)) ∧ (tiny a a.length → cram E p)) ∨ (matrix_reduce.f K a = some (([], []), 3) ∧ ¬ tiny a a.length) := by
 obtain ⟨n, h1, h2, h3, h4, h5, h6⟩ := validB_iff.mp hv
 rw [h6]
 have hg : good a.length n a := ⟨rfl, fun i hi => by
  have := rdL_mem (a := a) (j := (i : Int)) (by omega) (by omega)
  exact ⟨h5 _ this, ha _ this⟩⟩
 unfold matrix_reduce.f
 rw [if_pos ⟨by omega, by omega, fun r hr => by rw [h5 r hr]; omega⟩, h6]
 have h0 : Sta a a.length n a [] (fun _ => 0) 0 := ⟨hg, fun i hi => by simp at hi, Stg.start _ _ _, fun i hi => by simp at hi, fun i hi => by simp at hi, [], [], Bnd.start _ _ _⟩
 rcases redcols_spec (K := K) (a := a) hK h2 h4 n 0 a [] _ (by omega) h0 with ⟨N, cols, p, c, r1, r2, r3, r4⟩ | ⟨N, cols, r1, r2⟩
 ·
  left
  have r1' : red_cols K n a [] 0 = some ((N, cols), 0) := r1
  rw [r1']
  simp only [Option.bind_some, if_true]
  have hN := r2.gd.1
  have hkm := r2.st.km
  rw [if_pos (by omega)]
  have hl : (N.take cols.length).length = cols.length := by simp; omega
  refine ⟨_, _, p, rfl, ⟨fun r hr => ?_, fun i hi => ?_, ?_⟩, hl.symm, fun i hi => r2.cs i (by omega), fun ht => ?_⟩
  ·
   obtain ⟨i, hi, e⟩ := List.mem_iff_getElem.mp hr
   have e1 : rd_L1 (N.take cols.length) (i : Int) = r := by rw [← e]; simp only [rd_L1, List.getD_eq_getElem?_getD, Int.toNat_natCast, List.getElem?_eq_getElem hi]; rfl
   have e2 : rowsV N i = vec r := by unfold rowsV; rw [← e1, rdL_take (by omega)]
   exact nlr_of (good_mem r2.gd (List.mem_of_mem_take hr)) fun x => by rw [← e2]; exact r2.nl i (by omega) x
  ·
   have := r2.st.lt i (by omega)
   omega
  ·
   rw [hl]
   refine (r2.st.fnl ?_ r2.ps).congr fun i hi => by unfold rowsV; rw [rdL_take hi]
   rcases r4 with r4 | r4
   ·
    exact .inl r4
   ·
    refine .inr fun i h7 h8 x => ?_
    by_cases hx : x < n
    ·
     exact r2.st.lo i h7 h8 x (by omega)
    ·
     exact vec_out (by have := (r2.gd.2 i h8).1; omega)
  ·
   obtain ⟨R, C, hb⟩ := r2.bd
   have hT : ∀ i, i < cols.length → rowsV (N.take cols.length) i = rowsV N i := fun i hi => by unfold rowsV; rw [rdL_take hi]
   refine ⟨fun i hi x => ?_, det R C, hb.dt, ?_, fun i hi x => ?_⟩
   ·
    rw [hT i (by omega)]
    exact hb.skip r2.st ht.1 ht.2 i (by omega) x
   ·
    have h7 := det_bound R C (fun r hr => ht.2 r (hb.ra r hr)) (by rw [hb.rl, hb.cl])
    have h8 := hb_mono (n := R.length) (m := 8) (by rw [hb.rl]; have := ht.1; omega)
    omega
   ·
    rw [hT i (by omega)]
    obtain ⟨v, D, _, h7, h8, h9⟩ := hb.cramer r2.st (show i < cols.length by omega)
    have h10 : rowsV N i (p i) ∣ D * rowsV N i x := ⟨v x, (h9 x).symm⟩
    rcases Int.natAbs_eq_natAbs_iff.mp h7 with e | e
    ·
     rw [← e]; exact h10
    ·
     rw [show det R C = -D by omega, Int.neg_mul]
     exact Int.dvd_neg.mpr h10
 ·
  right
  have r1' : red_cols K n a [] 0 = some ((N, cols), 3) := r1
  rw [r1']
  simp only [Option.bind_some]
  rw [if_neg (by decide)]
  exact ⟨rfl, r2⟩
end Go.Proofs.Ytckefohfahphpaa.Z
end
section
namespace Go.Proofs.Ytckefohfahphpaa.Z
open Go.RowKit Go.Proofs.YtckefohfahphpaaW.PrintWords Go.Proofs.YtckefohfahphpaaW.PrintLast Go.Proofs.YtckefohfahphpaaW.PrintMore
attribute [local go_sem] max2_int min2_int max_two min_two max_three min_three max_four min_four   -- for this text's walks alone
set_option linter.unusedVariables false
set_option linter.unusedSimpArgs false

/-! ### petrinetref08_times: function 32 -/
mutual
def petrinetref08_times.j0 : Nat → Int → Int → Bool → Option (Int × Bool)
 | 0, _, _, _ => none
 | k + 1, x0, x1, x12 => if x12 = true then (some (0, true)) else (if x0 = (-1) then (petrinetref08_times.j1 k x0 x1 true) else (petrinetref08_times.j1 k x0 x1 (x1 == (-1))))
def petrinetref08_times.j1 : Nat → Int → Int → Bool → Option (Int × Bool)
 | 0, _, _, _ => none
 | k + 1, x0, x1, x18 => if x18 = true then (if x0 = (-9223372036854775808) then (some (0, false)) else (if x1 = (-9223372036854775808) then (some (0, false)) else (some (wrap64 (x0 * x1), true)))) else (if x1 = 0 then (none) else (some (wrap64 (x0 * x1), ((wrap64 (Int.tdiv (wrap64 (x0 * x1)) x1)) == x0))))
end
def petrinetref08_times.f (k : Nat) (a0 : Int) (a1 : Int) : Option (Int × Bool) := if a0 = 0 then (petrinetref08_times.j0 k a0 a1 true) else (petrinetref08_times.j0 k a0 a1 (a1 == 0))
theorem petrinetref08_times.mono_l : ∀ k, (∀ y0 y1 y2, LeO (petrinetref08_times.j0 k y0 y1 y2) (petrinetref08_times.j0 (k + 1) y0 y1 y2)) ∧ (∀ y0 y1 y2, LeO (petrinetref08_times.j1 k y0 y1 y2) (petrinetref08_times.j1 (k + 1) y0 y1 y2))
 | 0 => ⟨fun _ _ _ r h => by simp [petrinetref08_times.j0] at h, fun _ _ _ r h => by simp [petrinetref08_times.j1] at h⟩
 | k + 1 => by
  obtain ⟨ih0, ih1⟩ := petrinetref08_times.mono_l k
  refine ⟨?_, ?_⟩
  ·
   intro y0 y1 y2
   unfold petrinetref08_times.j0
   repeat' first
   | (with_reducible exact ih0 _ _ _)
   | (with_reducible exact ih1 _ _ _)
   | (with_reducible exact LeO.refl _)
   | (with_reducible exact LeO.none _)
   | (with_reducible refine LeO.ite ?_ ?_)
   | (with_reducible refine LeO.bind ?_ (fun _ => ?_))
   | exact ih0 _ _ _
   | exact ih1 _ _ _
   | exact LeO.none _
   | refine LeO.ite ?_ ?_
   | refine LeO.bind ?_ (fun _ => ?_)
  ·
   intro y0 y1 y2
   unfold petrinetref08_times.j1
   repeat' first
   | (with_reducible exact ih0 _ _ _)
   | (with_reducible exact ih1 _ _ _)
   | (with_reducible exact LeO.refl _)
   | (with_reducible exact LeO.none _)
   | (with_reducible refine LeO.ite ?_ ?_)
   | (with_reducible refine LeO.bind ?_ (fun _ => ?_))
   | exact ih0 _ _ _
   | exact ih1 _ _ _
   | exact LeO.none _
   | refine LeO.ite ?_ ?_
   | refine LeO.bind ?_ (fun _ => ?_)
theorem petrinetref08_times.mono : ∀ a0 a1 k, LeO (petrinetref08_times.f k a0 a1) (petrinetref08_times.f (k + 1) a0 a1) := by
 intro a0 a1 k
 obtain ⟨ih0, ih1⟩ := petrinetref08_times.mono_l k
 unfold petrinetref08_times.f
 repeat' first
   | (with_reducible exact ih0 _ _ _)
   | (with_reducible exact ih1 _ _ _)
   | (with_reducible exact LeO.refl _)
   | (with_reducible exact LeO.none _)
   | (with_reducible refine LeO.ite ?_ ?_)
   | (with_reducible refine LeO.bind ?_ (fun _ => ?_))
   | exact ih0 _ _ _
   | exact ih1 _ _ _
   | exact LeO.none _
   | refine LeO.ite ?_ ?_
   | refine LeO.bind ?_ (fun _ => ?_)
set_option maxHeartbeats 8000000 in
set_option maxRecDepth 100000 in
theorem petrinetref08_times.calls (k : Nat) (a0 : Int) (a1 : Int) (r1 : Int) (r2 : Bool) (w : World) (h : petrinetref08_times.f k a0 a1 = some (r1, r2)) :
  Calls Try.prog 32 #[.int .i64 a0, .int .i64 a1] w fun e w' => e = .returned (.tuple #[.int .i64 r1, .bool r2]) ∧ Drawn0 w w' := by
 have H : (if a0 = 0 then (petrinetref08_times.j0 k a0 a1 true) else (petrinetref08_times.j0 k a0 a1 (a1 == 0))) = some (r1, r2) := h
 clear h
 have HC3 := Aside0.mk H
 clear H
 go_enter Try.func32, Try.ntmps32
 go_upto_region 1 with (fail)
 repeat (go_quiet (fail); go_upto_region 1 with (fail))
 go_cut [12] (fun v12 wc => ∃ (kq : Nat) (x12_2 : Bool), v12 = .bool x12_2 ∧ Aside0 (petrinetref08_times.j0 kq a0 a1 x12_2 = some (r1, r2)) ∧ Aside0 (kq ≤ k) ∧ Drawn0 w wc)
 case first =>
  have H := HC3.out; clear HC3; by_cases c4 : a0 = 0
  ·
   rw [if_pos c4] at H; have c4b0 : (a0 == 0) = true := beq_iff_eq.mpr c4; have c4b1 : (a0 != 0) = false := bne_eq_false_iff_eq.mpr c4; clear c4; (first | rw [c4b0] | (simp only [i64_w, i32_w]; rw [c4b0]) | skip); have H' := Aside0.mk H; clear H; go_wp2
   repeat (go_quiet (fail); try go_wp2)
   go_meet
   case rel => exact ⟨_, (true), (by first | rfl | (simp; done) | (simp [*]; done)), H', ⟨by first | omega | exact Nat.le_refl _⟩, by repeat (first | exact Drawn0.refl _ | apply Drawn0.step)⟩
  ·
   rw [if_neg c4] at H; have c4b0 : (a0 == 0) = false := beq_eq_false_iff_ne.mpr c4; have c4b1 : (a0 != 0) = true := bne_iff_ne.mpr c4; (first | rw [c4b0] | (simp only [i64_w, i32_w]; rw [c4b0]) | skip); have H' := Aside0.mk H; clear H; go_wp2
   repeat (go_quiet (fail); try go_wp2)
   go_meet
   case rel => exact ⟨_, ((a1 == 0)), (by first | rfl | (simp; done) | (simp [*]; done)), H', ⟨by first | omega | exact Nat.le_refl _⟩, by repeat (first | exact Drawn0.refl _ | apply Drawn0.step)⟩
 case rest =>
  clear HC3; (try clear p2); (try clear c3); (try clear c4); (try clear c4b0); (try clear c4b1); obtain ⟨kq, x12_2, rfl, HA, HJ2, ⟨mc2, rfl⟩⟩ := hcut
  cases kq with
  | zero => exact absurd HA.out (by simp [petrinetref08_times.j0])
  | succ kj2 =>
   have H := HA.out; clear HA; simp only [petrinetref08_times.j0] at H; by_cases c5 : x12_2 = true
   ·
    subst c5; (have H1 : (some (0, true)) = some (r1, r2) := by rw [if_pos rfl] at H; exact H); clear H; have H := H1; clear H1; simp only [Option.some.injEq, Prod.mk.injEq] at H; obtain ⟨rfl, rfl⟩ := H; go_wp2
    repeat (go_quiet (fail); try go_wp2)
    go_ret2; (exact ⟨by first | rfl | (simp; done) | (simp [*]; done), by repeat (first | exact Drawn0.refl _ | apply Drawn0.step)⟩)
   ·
    replace c5 := Bool.eq_false_iff.mpr c5; subst c5; (have H1 : (if a0 = (-1) then (petrinetref08_times.j1 kj2 a0 a1 true) else (petrinetref08_times.j1 kj2 a0 a1 (a1 == (-1)))) = some (r1, r2) := by rw [if_neg (show ¬ (false = true) by decide)] at H; exact H); clear H; have H := H1; clear H1; have HC6 := Aside0.mk H; clear H; go_upto_region 3 with (fail)
    repeat (go_quiet (fail); go_upto_region 3 with (fail))
    go_cut [18] (fun v18 wc => ∃ (kq : Nat) (x18_5 : Bool), v18 = .bool x18_5 ∧ Aside0 (petrinetref08_times.j1 kq a0 a1 x18_5 = some (r1, r2)) ∧ Aside0 (kq ≤ kj2) ∧ Drawn0 w wc)
    case first =>
     have H := HC6.out; clear HC6; by_cases c7 : a0 = (-1)
     ·
      rw [if_pos c7] at H; have c7b0 : (a0 == (-1)) = true := beq_iff_eq.mpr c7; have c7b1 : (a0 != (-1)) = false := bne_eq_false_iff_eq.mpr c7; clear c7; (first | rw [c7b0] | (simp only [i64_w, i32_w]; rw [c7b0]) | skip); have H' := Aside0.mk H; clear H; go_wp2
      repeat (go_quiet (fail); try go_wp2)
      go_meet
      case rel => exact ⟨_, (true), (by first | rfl | (simp; done) | (simp [*]; done)), H', ⟨by have := HJ2.out; first | omega | exact Nat.le_refl _⟩, by repeat (first | exact Drawn0.refl _ | apply Drawn0.step)⟩
     ·
      rw [if_neg c7] at H; have c7b0 : (a0 == (-1)) = false := beq_eq_false_iff_ne.mpr c7; have c7b1 : (a0 != (-1)) = true := bne_iff_ne.mpr c7; (first | rw [c7b0] | (simp only [i64_w, i32_w]; rw [c7b0]) | skip); have H' := Aside0.mk H; clear H; go_wp2
      repeat (go_quiet (fail); try go_wp2)
      go_meet
      case rel => exact ⟨_, ((a1 == (-1))), (by first | rfl | (simp; done) | (simp [*]; done)), H', ⟨by have := HJ2.out; first | omega | exact Nat.le_refl _⟩, by repeat (first | exact Drawn0.refl _ | apply Drawn0.step)⟩
    case rest =>
     clear HC6; (try clear c2); (try clear p2); (try clear c3); (try clear c4); (try clear c4b0); (try clear c4b1); (try clear c5); (try clear c7); (try clear c7b0); (try clear c7b1); (try clear p2); obtain ⟨kq, x18_5, rfl, HA, HJ5, ⟨mc5, rfl⟩⟩ := hcut
     cases kq with
     | zero => exact absurd HA.out (by simp [petrinetref08_times.j1])
     | succ kj5 =>
      have H := HA.out; clear HA; simp only [petrinetref08_times.j1] at H; by_cases c8 : x18_5 = true
      ·
       subst c8; (have H1 : (if a0 = (-9223372036854775808) then (some (0, false)) else (if a1 = (-9223372036854775808) then (some (0, false)) else (some (wrap64 (a0 * a1), true)))) = some (r1, r2) := by rw [if_pos rfl] at H; exact H); clear H; have H := H1; clear H1; by_cases c9 : a0 = (-9223372036854775808)
       ·
        rw [if_pos c9] at H; have c9b0 : (a0 == (-9223372036854775808)) = true := beq_iff_eq.mpr c9; have c9b1 : (a0 != (-9223372036854775808)) = false := bne_eq_false_iff_eq.mpr c9; clear c9; simp only [Option.some.injEq, Prod.mk.injEq] at H; obtain ⟨rfl, rfl⟩ := H; go_wp2
        repeat (go_quiet (fail); try go_wp2)
        go_ret2; (exact ⟨by first | rfl | (simp; done) | (simp [*]; done), by repeat (first | exact Drawn0.refl _ | apply Drawn0.step)⟩)
       ·
        rw [if_neg c9] at H; have c9b0 : (a0 == (-9223372036854775808)) = false := beq_eq_false_iff_ne.mpr c9; have c9b1 : (a0 != (-9223372036854775808)) = true := bne_iff_ne.mpr c9; by_cases c10 : a1 = (-9223372036854775808)
        ·
         rw [if_pos c10] at H; have c10b0 : (a1 == (-9223372036854775808)) = true := beq_iff_eq.mpr c10; have c10b1 : (a1 != (-9223372036854775808)) = false := bne_eq_false_iff_eq.mpr c10; clear c10; simp only [Option.some.injEq, Prod.mk.injEq] at H; obtain ⟨rfl, rfl⟩ := H; go_wp2
         repeat (go_quiet (fail); try go_wp2)
         go_ret2; (exact ⟨by first | rfl | (simp; done) | (simp [*]; done), by repeat (first | exact Drawn0.refl _ | apply Drawn0.step)⟩)
        ·
         rw [if_neg c10] at H; have c10b0 : (a1 == (-9223372036854775808)) = false := beq_eq_false_iff_ne.mpr c10; have c10b1 : (a1 != (-9223372036854775808)) = true := bne_iff_ne.mpr c10; simp only [Option.some.injEq, Prod.mk.injEq] at H; obtain ⟨rfl, rfl⟩ := H; go_wp2
         repeat (go_quiet (fail); try go_wp2)
         go_ret2; (exact ⟨by first | rfl | (simp; done) | (simp [*]; done), by repeat (first | exact Drawn0.refl _ | apply Drawn0.step)⟩)
      ·
       replace c8 := Bool.eq_false_iff.mpr c8; subst c8; (have H1 : (if a1 = 0 then (none) else (some (wrap64 (a0 * a1), ((wrap64 (Int.tdiv (wrap64 (a0 * a1)) a1)) == a0)))) = some (r1, r2) := by rw [if_neg (show ¬ (false = true) by decide)] at H; exact H); clear H; have H := H1; clear H1; by_cases c11 : a1 = 0
       ·
        rw [if_pos c11] at H; (exact absurd H (by simp))
       ·
        rw [if_neg c11] at H; have c11b0 : (a1 == 0) = false := beq_eq_false_iff_ne.mpr c11; have c11b1 : (a1 != 0) = true := bne_iff_ne.mpr c11; simp only [Option.some.injEq, Prod.mk.injEq] at H; obtain ⟨rfl, rfl⟩ := H; go_wp2
        repeat (go_quiet (fail); try go_wp2)
        go_ret2; (exact ⟨by first | rfl | (simp; done) | (simp [*]; done), by repeat (first | exact Drawn0.refl _ | apply Drawn0.step)⟩)

end Go.Proofs.Ytckefohfahphpaa.Z
end
section
namespace Go.Proofs.Ytckefohfahphpaa.Z
open Go.RowKit Go.Proofs.YtckefohfahphpaaW.PrintWords Go.Proofs.YtckefohfahphpaaW.PrintLast Go.Proofs.YtckefohfahphpaaW.PrintMore
attribute [local go_sem] max2_int min2_int max_two min_two max_three min_three max_four min_four   -- for this text's walks alone
set_option linter.unusedVariables false
set_option linter.unusedSimpArgs false

/-! ### petrinetref08_plus: function 44 -/
def petrinetref08_plus.j0 : Nat → Int → Int → Int → Bool → Option (Int × Bool)
 | 0, _, _, _, _ => none
 | k + 1, x0, x1, x6, x15 => if x15 = true then (some (x6, decide (x6 ≥ 0))) else (if x0 < 0 then (if x1 < 0 then (some (x6, decide (x6 < 0))) else (some (x6, true))) else (some (x6, true)))
def petrinetref08_plus.f (k : Nat) (a0 : Int) (a1 : Int) : Option (Int × Bool) := if a0 ≥ 0 then (petrinetref08_plus.j0 k a0 a1 (wrap64 (a0 + a1)) (decide (a1 ≥ 0))) else (petrinetref08_plus.j0 k a0 a1 (wrap64 (a0 + a1)) false)
theorem petrinetref08_plus.mono_l : ∀ k, (∀ y0 y1 y2 y3, LeO (petrinetref08_plus.j0 k y0 y1 y2 y3) (petrinetref08_plus.j0 (k + 1) y0 y1 y2 y3))
 | 0 => fun _ _ _ _ r h => by simp [petrinetref08_plus.j0] at h
 | k + 1 => by
  have ih0 := petrinetref08_plus.mono_l k
  ·
   intro y0 y1 y2 y3
   unfold petrinetref08_plus.j0
   repeat' first
   | (with_reducible exact ih0 _ _ _ _)
   | (with_reducible exact LeO.refl _)
   | (with_reducible exact LeO.none _)
   | (with_reducible refine LeO.ite ?_ ?_)
   | (with_reducible refine LeO.bind ?_ (fun _ => ?_))
   | exact ih0 _ _ _ _
   | exact LeO.none _
   | refine LeO.ite ?_ ?_
   | refine LeO.bind ?_ (fun _ => ?_)
theorem petrinetref08_plus.mono : ∀ a0 a1 k, LeO (petrinetref08_plus.f k a0 a1) (petrinetref08_plus.f (k + 1) a0 a1) := by
 intro a0 a1 k
 have ih0 := petrinetref08_plus.mono_l k
 unfold petrinetref08_plus.f
 repeat' first
   | (with_reducible exact ih0 _ _ _ _)
   | (with_reducible exact LeO.refl _)
   | (with_reducible exact LeO.none _)
   | (with_reducible refine LeO.ite ?_ ?_)
   | (with_reducible refine LeO.bind ?_ (fun _ => ?_))
   | exact ih0 _ _ _ _
   | exact LeO.none _
   | refine LeO.ite ?_ ?_
   | refine LeO.bind ?_ (fun _ => ?_)
set_option maxHeartbeats 8000000 in
set_option maxRecDepth 100000 in
theorem petrinetref08_plus.calls (k : Nat) (a0 : Int) (a1 : Int) (r1 : Int) (r2 : Bool) (w : World) (h : petrinetref08_plus.f k a0 a1 = some (r1, r2)) :
  Calls Try.prog 44 #[.int .i64 a0, .int .i64 a1] w fun e w' => e = .returned (.tuple #[.int .i64 r1, .bool r2]) ∧ Drawn0 w w' := by
 have H : (if a0 ≥ 0 then (petrinetref08_plus.j0 k a0 a1 (wrap64 (a0 + a1)) (decide (a1 ≥ 0))) else (petrinetref08_plus.j0 k a0 a1 (wrap64 (a0 + a1)) false)) = some (r1, r2) := h
 clear h
 have HC3 := Aside0.mk H
 clear H
 go_enter Try.func44, Try.ntmps44
 go_upto_region 2 with (fail)
 go_cut [15] (fun v15 wc => ∃ (kq : Nat) (x15_2 : Bool), v15 = .bool x15_2 ∧ Aside0 (petrinetref08_plus.j0 kq a0 a1 (wrap64 (a0 + a1)) x15_2 = some (r1, r2)) ∧ Aside0 (kq ≤ k) ∧ Drawn0 w wc)
 case first =>
  have H := HC3.out; clear HC3; by_cases c4 : a0 ≥ 0
  ·
   rw [if_pos c4] at H; have c4b0 : decide (0 ≤ a0) = true := decide_eq_true c4; clear c4; (first | rw [c4b0] | (simp only [i64_w, i32_w]; rw [c4b0]) | skip); have H' := Aside0.mk H; clear H; go_wp2; go_meet
   case rel => exact ⟨_, (decide (a1 ≥ 0)), (by first | rfl | (simp; done) | (simp [*]; done)), H', ⟨by first | omega | exact Nat.le_refl _⟩, by repeat (first | exact Drawn0.refl _ | apply Drawn0.step)⟩
  ·
   rw [if_neg c4] at H; have c4b0 : decide (0 ≤ a0) = false := decide_eq_false c4; clear c4; (first | rw [c4b0] | (simp only [i64_w, i32_w]; rw [c4b0]) | skip); have H' := Aside0.mk H; clear H; go_wp2; go_meet
   case rel => exact ⟨_, (false), (by first | rfl | (simp; done) | (simp [*]; done)), H', ⟨by first | omega | exact Nat.le_refl _⟩, by repeat (first | exact Drawn0.refl _ | apply Drawn0.step)⟩
 case rest =>
  clear HC3; (try clear p2); (try clear c4); (try clear c4b0); obtain ⟨kq, x15_2, rfl, HA, HJ2, ⟨mc2, rfl⟩⟩ := hcut
  cases kq with
  | zero => exact absurd HA.out (by simp [petrinetref08_plus.j0])
  | succ kj2 =>
   have H := HA.out; clear HA; simp only [petrinetref08_plus.j0] at H; by_cases c5 : x15_2 = true
   ·
    subst c5; (have H1 : (some ((wrap64 (a0 + a1)), decide ((wrap64 (a0 + a1)) ≥ 0))) = some (r1, r2) := by rw [if_pos rfl] at H; exact H); clear H; have H := H1; clear H1; simp only [Option.some.injEq, Prod.mk.injEq] at H; obtain ⟨rfl, rfl⟩ := H; go_wp2; go_ret2; (exact ⟨by first | rfl | (simp; done) | (simp [*]; done), by repeat (first | exact Drawn0.refl _ | apply Drawn0.step)⟩)
   ·
    replace c5 := Bool.eq_false_iff.mpr c5; subst c5; (have H1 : (if a0 < 0 then (if a1 < 0 then (some ((wrap64 (a0 + a1)), decide ((wrap64 (a0 + a1)) < 0))) else (some ((wrap64 (a0 + a1)), true))) else (some ((wrap64 (a0 + a1)), true))) = some (r1, r2) := by rw [if_neg (show ¬ (false = true) by decide)] at H; exact H); clear H; have H := H1; clear H1; by_cases c6 : a0 < 0
    ·
     rw [if_pos c6] at H; have c6b0 : decide (a0 < 0) = true := decide_eq_true c6; clear c6; by_cases c7 : a1 < 0
     ·
      rw [if_pos c7] at H; have c7b0 : decide (a1 < 0) = true := decide_eq_true c7; clear c7; simp only [Option.some.injEq, Prod.mk.injEq] at H; obtain ⟨rfl, rfl⟩ := H; go_wp2; go_ret2; (exact ⟨by first | rfl | (simp; done) | (simp [*]; done), by repeat (first | exact Drawn0.refl _ | apply Drawn0.step)⟩)
     ·
      rw [if_neg c7] at H; have c7b0 : decide (a1 < 0) = false := decide_eq_false c7; clear c7; simp only [Option.some.injEq, Prod.mk.injEq] at H; obtain ⟨rfl, rfl⟩ := H; go_wp2; go_ret2; (exact ⟨by first | rfl | (simp; done) | (simp [*]; done), by repeat (first | exact Drawn0.refl _ | apply Drawn0.step)⟩)
    ·
     rw [if_neg c6] at H; have c6b0 : decide (a0 < 0) = false := decide_eq_false c6; clear c6; simp only [Option.some.injEq, Prod.mk.injEq] at H; obtain ⟨rfl, rfl⟩ := H; go_wp2; go_ret2; (exact ⟨by first | rfl | (simp; done) | (simp [*]; done), by repeat (first | exact Drawn0.refl _ | apply Drawn0.step)⟩)

end Go.Proofs.Ytckefohfahphpaa.Z
end
section
namespace Go.Proofs.Ytckefohfahphpaa.Z
open Go.RowKit Go.Proofs.YtckefohfahphpaaW.PrintWords Go.Proofs.YtckefohfahphpaaW.PrintLast Go.Proofs.YtckefohfahphpaaW.PrintMore
attribute [local go_sem] max2_int min2_int max_two min_two max_three min_three max_four min_four   -- for this text's walks alone
set_option linter.unusedVariables false
set_option linter.unusedSimpArgs false

/-! ### petrinetref08_common: function 31 -/
def petrinetref08_common.l0 : Nat → Int → Int → Option (Int)
 | 0, _, _ => none
 | k + 1, x0, x1 => if x1 = 0 then (if x0 < 0 then (some (wrap64 (-x0))) else (some x0)) else (petrinetref08_common.l0 k x1 (Int.tmod x0 x1))
def petrinetref08_common.f (k : Nat) (a0 : Int) (a1 : Int) : Option (Int) := petrinetref08_common.l0 k a0 a1
theorem petrinetref08_common.mono_l : ∀ k, (∀ y0 y1, LeO (petrinetref08_common.l0 k y0 y1) (petrinetref08_common.l0 (k + 1) y0 y1))
 | 0 => fun _ _ r h => by simp [petrinetref08_common.l0] at h
 | k + 1 => by
  have ih0 := petrinetref08_common.mono_l k
  ·
   intro y0 y1
   unfold petrinetref08_common.l0
   repeat' first
   | (with_reducible exact ih0 _ _)
   | (with_reducible exact LeO.refl _)
   | (with_reducible exact LeO.none _)
   | (with_reducible refine LeO.ite ?_ ?_)
   | (with_reducible refine LeO.bind ?_ (fun _ => ?_))
   | exact ih0 _ _
   | exact LeO.none _
   | refine LeO.ite ?_ ?_
   | refine LeO.bind ?_ (fun _ => ?_)
theorem petrinetref08_common.mono : ∀ a0 a1 k, LeO (petrinetref08_common.f k a0 a1) (petrinetref08_common.f (k + 1) a0 a1) := by
 intro a0 a1 k
 have ih0 := petrinetref08_common.mono_l k
 unfold petrinetref08_common.f
 repeat' first
   | (with_reducible exact ih0 _ _)
   | (with_reducible exact LeO.refl _)
   | (with_reducible exact LeO.none _)
   | (with_reducible refine LeO.ite ?_ ?_)
   | (with_reducible refine LeO.bind ?_ (fun _ => ?_))
   | exact ih0 _ _
   | exact LeO.none _
   | refine LeO.ite ?_ ?_
   | refine LeO.bind ?_ (fun _ => ?_)
set_option maxHeartbeats 8000000 in
set_option maxRecDepth 100000 in
theorem petrinetref08_common.calls (k : Nat) (a0 : Int) (a1 : Int) (r : Int) (w : World) (h : petrinetref08_common.f k a0 a1 = some r) :
  Calls Try.prog 31 #[.int .i64 a0, .int .i64 a1] w fun e w' => e = .returned (.int .i64 r) ∧ Drawn0 w w' := by
 have H : (petrinetref08_common.l0 k a0 a1) = some r := h
 clear h
 have H' := Aside0.mk H
 clear H
 go_enter Try.func31, Try.ntmps31
 go_wp2
 repeat (go_quiet (fail); try go_wp2)
 go_loopg [0, 1] k (fun kq v0 v1 w' => ∃ (x0_1 : Int) (x1_1 : Int), v0 = .int .i64 x0_1 ∧ v1 = .int .i64 x1_1 ∧ Aside0 (petrinetref08_common.l0 kq x0_1 x1_1 = some r) ∧ Aside0 (kq ≤ k) ∧ Drawn0 w w')
 case atStart => exact ⟨(a0), (a1), (by first | rfl | (simp; done) | (simp [*]; done)), (by first | rfl | (simp; done) | (simp [*]; done)), H', ⟨Nat.le_refl _⟩, by repeat (first | exact Drawn0.refl _ | apply Drawn0.step)⟩
 case round =>
  clear H'; (try clear p2); obtain ⟨x0_1, x1_1, rfl, rfl, HA, HK1, ⟨m1, rfl⟩⟩ := hrel
  cases gk with
  | zero => exact absurd HA.out (by simp [petrinetref08_common.l0])
  | succ k1 =>
   have H := HA.out; clear HA; simp only [petrinetref08_common.l0] at H; by_cases c3 : x1_1 = 0
   ·
    rw [if_pos c3] at H; have c3b0 : (x1_1 == 0) = true := beq_iff_eq.mpr c3; have c3b1 : (x1_1 != 0) = false := bne_eq_false_iff_eq.mpr c3; clear c3; by_cases c4 : x0_1 < 0
    ·
     rw [if_pos c4] at H; have c4b0 : decide (x0_1 < 0) = true := decide_eq_true c4; clear c4; obtain rfl := Option.some.inj H; go_wp2
     repeat (go_quiet (fail); try go_wp2)
     go_ret; (exact ⟨by first | rfl | (simp; done) | (simp [*]; done), by repeat (first | exact Drawn0.refl _ | apply Drawn0.step)⟩)
    ·
     rw [if_neg c4] at H; have c4b0 : decide (x0_1 < 0) = false := decide_eq_false c4; clear c4; obtain rfl := Option.some.inj H; go_wp2
     repeat (go_quiet (fail); try go_wp2)
     go_ret; (exact ⟨by first | rfl | (simp; done) | (simp [*]; done), by repeat (first | exact Drawn0.refl _ | apply Drawn0.step)⟩)
   ·
    rw [if_neg c3] at H; have c3b0 : (x1_1 == 0) = false := beq_eq_false_iff_ne.mpr c3; have c3b1 : (x1_1 != 0) = true := bne_iff_ne.mpr c3; have H' := Aside0.mk H; clear H; go_wp2
    repeat (go_quiet (fail); try go_wp2)
    go_roundg k1
    case measure => have := HK1.out; omega
    case rel => exact ⟨(x1_1), (Int.tmod x0_1 x1_1), (by first | rfl | (simp; done) | (simp [*]; done)), (by first | rfl | (simp; done) | (simp [*]; done)), H', ⟨by have := HK1.out; omega⟩, by repeat (first | exact Drawn0.refl _ | apply Drawn0.step)⟩

end Go.Proofs.Ytckefohfahphpaa.Z
end
section
namespace Go.Proofs.Ytckefohfahphpaa.Z
open Go.RowKit Go.Proofs.YtckefohfahphpaaW.PrintWords Go.Proofs.YtckefohfahphpaaW.PrintLast Go.Proofs.YtckefohfahphpaaW.PrintMore
set_option linter.unusedVariables false
set_option linter.unusedSimpArgs false
theorem rcommon_l0 : ∀ (k : Nat) (x y : Int), nl x → nl y → y.natAbs < k → petrinetref08_common.l0 k x y = some (Int.gcd x y : Int) := by
 intro k
 induction k with
 | zero => intro x y _ _ h; omega
 | succ k ih =>
  intro x y hx hy h
  rw [petrinetref08_common.l0]
  by_cases h0 : y = 0
  ·
   subst h0
   rw [if_pos rfl]
   by_cases hn : x < 0
   ·
    rw [if_pos hn, wrap64_id ⟨by have := hx.2; omega, by have := hx.1; omega⟩]
    simp [Int.gcd]
    omega
   ·
    rw [if_neg hn]
    simp [Int.gcd]
    omega
  ·
   rw [if_neg h0]
   have h1 : (Int.tmod x y).natAbs = x.natAbs % y.natAbs := Int.natAbs_tmod x y
   have h2 : x.natAbs % y.natAbs < y.natAbs := Nat.mod_lt _ (by omega)
   obtain ⟨hy1, hy2⟩ := hy
   rw [ih y (Int.tmod x y) ⟨hy1, hy2⟩ ⟨by omega, by omega⟩ (by omega)]
   congr 2
   unfold Int.gcd
   rw [h1, Nat.gcd_comm, ← Nat.gcd_rec, Nat.gcd_comm]
theorem rcommon_eq {k : Nat} {x y : Int} (hx : nl x) (hy : nl y) (hk : 9223372036854775808 ≤ k) : petrinetref08_common.f k x y = some (Int.gcd x y : Int) :=
 rcommon_l0 k x y hx hy (by obtain ⟨h1, h2⟩ := hy; omega)
theorem wrap64_mod (x : Int) : ∃ q : Int, wrap64 x = x - 18446744073709551616 * q ∧ in64 (wrap64 x) := by
 unfold wrap64
 refine ⟨(x + 9223372036854775808) / 18446744073709551616, ?_, ?_⟩
 ·
  have := Int.emod_add_mul_ediv (x + 9223372036854775808) 18446744073709551616
  omega
 ·
  have h1 := Int.emod_nonneg (x + 9223372036854775808) (show (18446744073709551616 : Int) ≠ 0 by decide)
  have h2 := Int.emod_lt_of_pos (x + 9223372036854775808) (show (0 : Int) < 18446744073709551616 by decide)
  constructor <;> omega
theorem rtimes_eq {k : Nat} {a b : Int} (ha : in64 a) (hb : in64 b) (hk : 3 ≤ k) : ∃ z, petrinetref08_times.f k a b = some (z, decide (in64 (a * b))) ∧ (in64 (a * b) → z = a * b) := by
 obtain ⟨k, rfl⟩ : ∃ m, k = m + 2 := ⟨k - 2, by omega⟩
 unfold petrinetref08_times.f
 by_cases a0 : a = 0
 ·
  subst a0
  rw [if_pos rfl, petrinetref08_times.j0, if_pos rfl]
  have : in64 (0 * b) := by rw [Int.zero_mul]; constructor <;> omega
  exact ⟨0, by rw [decide_eq_true this], fun _ => by simp⟩
 rw [if_neg a0, petrinetref08_times.j0]
 by_cases b0 : b = 0
 ·
  subst b0
  have : in64 (a * 0) := by rw [Int.mul_zero]; constructor <;> omega
  exact ⟨0, by rw [decide_eq_true this]; simp, fun _ => by simp⟩
 rw [if_neg (by simp [b0])]
 obtain ⟨ha1, ha2⟩ := ha
 obtain ⟨hb1, hb2⟩ := hb
 by_cases hm : a = -1 ∨ b = -1
 ·
  have e : (if a = -1 then petrinetref08_times.j1 (k + 1) a b true else petrinetref08_times.j1 (k + 1) a b (b == -1)) = petrinetref08_times.j1 (k + 1) a b true := by
   by_cases h : a = -1
   ·
    rw [if_pos h]
   ·
    rw [if_neg h]
    have : b = -1 := hm.resolve_left h
    rw [this]
    rfl
  rw [e, petrinetref08_times.j1, if_pos rfl]
  have hp : a * b = -b ∨ a * b = -a := by
   rcases hm with h | h
   ·
    left; rw [h]; omega
   ·
    right; rw [h]; omega
  by_cases c1 : a = -9223372036854775808
  ·
   rw [if_pos c1]
   have hb' : b = -1 := hm.resolve_left (by omega)
   have : ¬ in64 (a * b) := by rw [c1, hb']; intro h; have := h.2; omega
   exact ⟨0, by rw [decide_eq_false this], fun h => absurd h this⟩
  rw [if_neg c1]
  by_cases c2 : b = -9223372036854775808
  ·
   rw [if_pos c2]
   have ha' : a = -1 := hm.resolve_right (by omega)
   have : ¬ in64 (a * b) := by rw [c2, ha']; intro h; have := h.2; omega
   exact ⟨0, by rw [decide_eq_false this], fun h => absurd h this⟩
  rw [if_neg c2]
  have : in64 (a * b) := by
   rcases hp with h | h <;> rw [h] <;> constructor <;> omega
  exact ⟨_, by rw [decide_eq_true this], fun _ => wrap64_id this⟩
 ·
  have hm1 : a ≠ -1 := fun h => hm (.inl h)
  have hm2 : b ≠ -1 := fun h => hm (.inr h)
  rw [if_neg hm1, petrinetref08_times.j1, if_neg (by simp [hm2]), if_neg b0]
  obtain ⟨q, hq, hp⟩ := wrap64_mod (a * b)
  have hd : in64 (Int.tdiv (wrap64 (a * b)) b) := by
   have h1 : (Int.tdiv (wrap64 (a * b)) b).natAbs = (wrap64 (a * b)).natAbs / b.natAbs := Int.natAbs_tdiv _ _
   have h2 : (wrap64 (a * b)).natAbs / b.natAbs ≤ (wrap64 (a * b)).natAbs / 2 ∨ b = 1 := by
    by_cases h : b = 1
    ·
     exact .inr h
    ·
     exact .inl (Nat.div_le_div_left (by omega) (by omega))
   obtain ⟨p1, p2⟩ := hp
   rcases h2 with h2 | h2
   ·
    constructor <;> omega
   ·
    subst h2; rw [Int.tdiv_one]; exact ⟨p1, p2⟩
  rw [wrap64_id hd]
  by_cases hi : in64 (a * b)
  ·
   rw [wrap64_id hi, decide_eq_true hi]
   refine ⟨_, ?_, fun _ => rfl⟩
   rw [Int.mul_tdiv_cancel _ b0]
   simp
  ·
   refine ⟨wrap64 (a * b), ?_, fun h => absurd h hi⟩
   rw [decide_eq_false hi]
   congr 2
   rw [beq_eq_false_iff_ne]
   intro he
   apply hi
   have h1 := Int.tmod_add_mul_tdiv (wrap64 (a * b)) b
   rw [he] at h1
   have h2 : (Int.tmod (wrap64 (a * b)) b).natAbs = (wrap64 (a * b)).natAbs % b.natAbs := Int.natAbs_tmod _ _
   have h3 : (wrap64 (a * b)).natAbs % b.natAbs < b.natAbs := Nat.mod_lt _ (by omega)
   rw [Int.mul_comm b a] at h1
   have h4 : q = 0 := by omega
   rw [h4] at hq
   simp at hq
   rw [← hq]
   exact hp
theorem rplus_eq {k : Nat} {a b : Int} (ha : in64 a) (hb : in64 b) (hk : 2 ≤ k) : ∃ z, petrinetref08_plus.f k a b = some (z, decide (in64 (a + b))) ∧ (in64 (a + b) → z = a + b) := by
 obtain ⟨k, rfl⟩ : ∃ m, k = m + 1 := ⟨k - 1, by omega⟩
 obtain ⟨ha1, ha2⟩ := ha
 obtain ⟨hb1, hb2⟩ := hb
 refine ⟨wrap64 (a + b), ?_, fun h => wrap64_id h⟩
 unfold petrinetref08_plus.f
 by_cases h1 : a ≥ 0
 ·
  rw [if_pos h1, petrinetref08_plus.j0]
  by_cases h2 : b ≥ 0
  ·
   rw [decide_eq_true h2, if_pos rfl]
   congr 2
   rw [decide_eq_decide]
   unfold wrap64 in64
   omega
  ·
   rw [decide_eq_false h2, if_neg (by decide), if_neg (by omega), decide_eq_true (show in64 (a + b) from ⟨by omega, by omega⟩)]
 ·
  rw [if_neg h1, petrinetref08_plus.j0, if_neg (by decide), if_pos (by omega)]
  by_cases h2 : b < 0
  ·
   rw [if_pos h2]
   congr 2
   rw [decide_eq_decide]
   unfold wrap64 in64
   omega
  ·
   rw [if_neg h2, decide_eq_true (show in64 (a + b) from ⟨by omega, by omega⟩)]
end Go.Proofs.Ytckefohfahphpaa.Z
end
section
namespace Go.Proofs.Ytckefohfahphpaa.Z
open Go.RowKit Go.Proofs.YtckefohfahphpaaW.PrintWords Go.Proofs.YtckefohfahphpaaW.PrintLast Go.Proofs.YtckefohfahphpaaW.PrintMore
attribute [local go_sem] max2_int min2_int max_two min_two max_three min_three max_four min_four   -- for this text's walks alone
set_option linter.unusedVariables false
set_option linter.unusedSimpArgs false

/-! ### matrix_Rank: function 16, by hand -/
def matrix_Rank.f (k : Nat) (a : List (List Int)) : Option (Int × Int) := (matrix_Valid.f k a).bind fun v => if v = true then (matrix_reduce.f k a).bind fun r => some ((r.1.2.length : Int), r.2) else some (0, 2)
theorem matrix_Rank.mono (a : List (List Int)) (k : Nat) : LeO (matrix_Rank.f k a) (matrix_Rank.f (k + 1) a) := by
 unfold matrix_Rank.f
 exact LeO.bind (matrix_Valid.mono _ _) (fun _ => LeO.ite (LeO.bind (matrix_reduce.mono _ _) (fun _ => LeO.refl _)) (LeO.refl _))
set_option maxHeartbeats 8000000 in
set_option maxRecDepth 100000 in
theorem matrix_Rank.calls (k : Nat) (A0 : Option Addr) (c0 : Nat) (l0 : List (List Int)) (r1 : Int) (r2 : Int) (w : World) (hr0 : Kd.C (Kd.slice 2 (Kd.int .i64)) w A0 l0.length l0) (hc0 : l0.length ≤ c0) (h : matrix_Rank.f k l0 = some (r1, r2)) :
  Calls Try.prog 16 #[.slice A0 l0.length c0] w fun e w' => e = .returned (.tuple #[.int .i64 r1, .int .i64 r2]) ∧ Below w.heap.size w w' := by
 unfold matrix_Rank.f at h
 obtain ⟨v, hv, h⟩ := Option.bind_eq_some_iff.mp h
 have HV := Aside0.mk hv
 have HR := Aside0.mk hr0
 have HC := Aside0.mk hc0
 cases v
 ·
  have hE : (0 : Int) = r1 ∧ (2 : Int) = r2 := by simpa using h
  obtain ⟨rfl, rfl⟩ := hE
  clear hr0 hc0 h hv
  go_enter Try.func16, Try.ntmps16
  go_wp2_with (fail)
  refine (matrix_Valid.calls k _ _ l0 false _ HR.out HC.out HV.out).mono ?_
  rintro e w1 ⟨rfl, hd⟩
  have HD := Aside0.mk hd
  clear hd
  go_wp2
  go_ret2
  exact ⟨rfl, HD.out.below⟩
 ·
  simp only [if_true] at h
  obtain ⟨⟨⟨rows, cols⟩, e2⟩, hred, h⟩ := Option.bind_eq_some_iff.mp h
  have HRED := Aside0.mk hred
  obtain ⟨rfl, rfl⟩ : (cols.length : Int) = r1 ∧ e2 = r2 := by simpa using h
  clear hr0 hc0 hv hred h
  by_cases he : e2 = 0
  ·
   subst he
   go_enter Try.func16, Try.ntmps16
   go_wp2_with (fail)
   refine (matrix_Valid.calls k _ _ l0 true _ HR.out HC.out HV.out).mono ?_
   rintro e w1 ⟨rfl, hd⟩
   have HD := Aside0.mk hd.below
   clear hd
   go_wp2_with (fail)
   refine (matrix_reduce.calls k _ _ l0 rows cols 0 _ (Kd.C_below HR.out HD.out) HC.out HRED.out).mono ?_
   rintro e3 w3 ⟨p, rfl, hB, hz⟩
   obtain ⟨cv, rv, rfl, hT⟩ := hz rfl
   have HB := Aside0.mk (below_step HD.out hB)
   obtain ⟨Ac, cc, rfl⟩ := Kd.R_slice hT.col
   have hc1 := hT.c0
   clear hB hz hT
   go_wp2_with (fail)
   refine (pivots_rank.calls _ Ac cols.length cc _ hc1).mono ?_
   rintro e5 w5 ⟨rfl, hw⟩
   have hw := hw.symm
   subst hw
   go_wp2
   go_ret2
   exact ⟨rfl, HB.out⟩
  ·
   obtain ⟨rfl, rfl⟩ := reduce_bad HRED.out he
   have he3 : (e2 == 0) = false := beq_eq_false_iff_ne.mpr he
   have he4 : (e2 != 0) = true := bne_iff_ne.mpr he
   go_enter Try.func16, Try.ntmps16
   go_wp2_with (fail)
   refine (matrix_Valid.calls k _ _ l0 true _ HR.out HC.out HV.out).mono ?_
   rintro e w1 ⟨rfl, hd⟩
   have HD := Aside0.mk hd.below
   clear hd
   go_wp2_with (fail)
   refine (matrix_reduce.calls k _ _ l0 _ _ e2 _ (Kd.C_below HR.out HD.out) HC.out HRED.out).mono ?_
   rintro e3 w3 ⟨p, rfl, hB, hz⟩
   have HB := Aside0.mk (below_step HD.out hB)
   clear hB hz
   go_wp2
   go_ret2
   exact ⟨rfl, HB.out⟩

end Go.Proofs.Ytckefohfahphpaa.Z
end
section
namespace Go.Proofs.Ytckefohfahphpaa.Z
open Go.RowKit Go.Proofs.YtckefohfahphpaaW.PrintWords Go.Proofs.YtckefohfahphpaaW.PrintLast Go.Proofs.YtckefohfahphpaaW.PrintMore
set_option linter.unusedVariables false
set_option linter.unusedSimpArgs false
theorem tdiv_abs (x y : Int) : (Int.tdiv x y).natAbs ≤ x.natAbs := by rw [Int.natAbs_tdiv]; exact Nat.div_le_self _ _
theorem rd_vec (l : List Int) (x : Nat) : rd l (x : Int) = vec l x := rfl
theorem wsucc {i : Nat} (h : i ≤ 100000) : wrap64 ((i : Int) + 1) = ((i + 1 : Nat) : Int) := by rw [wrap64_small (by omega) (by omega)]; omega
theorem vec_cons0 (x : Int) (a : List Int) : vec (x :: a) 0 = x := by simp [vec, rd]
theorem vec_consS (x : Int) (a : List Int) (i : Nat) : vec (x :: a) (i + 1) = vec a i := by simp [vec, rd]
theorem mech_eq {K : Nat} {a : List (List Int)} (hK : 300 ≤ K) : matrix_Echelon.f K a = if validB a = true then (matrix_reduce.f K a).bind fun r => some (r.1.1, r.2) else some ([], 2) := by
 unfold matrix_Echelon.f
 rw [mvalid_eq a K (by omega)]
 rfl
theorem mrank_eq {K : Nat} {a : List (List Int)} (hK : 300 ≤ K) : matrix_Rank.f K a = if validB a = true then (matrix_reduce.f K a).bind fun r => some ((r.1.2.length : Int), r.2) else some (0, 2) := by
 unfold matrix_Rank.f
 rw [mvalid_eq a K (by omega)]
 rfl
theorem Fnl.inc {A : List Vc} {T : Nat → Vc} {k : Nat} {p : Nat → Nat} (h : Fnl A T k p) {i j : Nat} (hij : i < j) (hj : j < k) : p i < p j := by
 have := List.pairwise_iff_getElem.mp h.red.inc i j (by simp [pairs]; omega) (by simp [pairs]; omega) hij
 simpa [pairs] using this
theorem Outc.len {a : List (List Int)} {n : Nat} {E : List (List Int)} {p : Nat → Nat} (h : Outc a n E p) : E.length ≤ n := by
 have hp : ∀ i, i < E.length → i ≤ p i := by
  intro i
  induction i with
  | zero => intro _; omega
  | succ i ih =>
   intro hi
   have h1 := ih (by omega)
   have h2 := h.fn.inc (show i < i + 1 by omega) hi
   omega
 by_cases h0 : E.length = 0
 ·
  omega
 ·
  have h1 := hp (E.length - 1) (by omega)
  have h2 := h.pn (E.length - 1) (by omega)
  omega
theorem Outc.same {a : List (List Int)} {n : Nat} {E F : List (List Int)} {p q : Nat → Nat} (hE : Outc a n E p) (hF : Outc a n F q) : E = F := by
 obtain ⟨h1, h2⟩ := hE.fn.uniq hF.fn (fun v hv => .mem hv) (fun v hv => .mem hv)
 apply List.ext_getElem h1
 intro i hi hi'
 have h3 := (h2 i hi).2
 have e1 : rd_L1 E (i : Int) = E[i] := by simp [rd_L1, List.getD_eq_getElem?_getD, hi]
 have e2 : rd_L1 F (i : Int) = F[i] := by simp [rd_L1, List.getD_eq_getElem?_getD, hi']
 unfold rowsV at h3
 rw [e1, e2] at h3
 exact vec_ext (by rw [(hE.ok _ (List.getElem_mem hi)).1, (hF.ok _ (List.getElem_mem hi')).1]) h3
end Go.Proofs.Ytckefohfahphpaa.Z
end
section
namespace Go.Proofs.Ytckefohfahphpaa.Z
open Go.RowKit Go.Proofs.YtckefohfahphpaaW.PrintWords Go.Proofs.YtckefohfahphpaaW.PrintLast Go.Proofs.YtckefohfahphpaaW.PrintMore
attribute [local go_sem] max2_int min2_int max_two min_two max_three min_three max_four min_four   -- for this text's walks alone
set_option linter.unusedVariables false
set_option linter.unusedSimpArgs false

/-! ### petrinetref08_primitive: function 33 -/
mutual
def petrinetref08_primitive.l0 : Nat → List Int → Int → Int → Int → Option (List Int × Bool)
 | 0, _, _, _, _ => none
 | k + 1, x0, x4, x5, x6 => if x6 < (x0.length : Int) then (if 0 ≤ x6 then (if (rd x0 x6) = (-9223372036854775808) then (some (([] : List Int), false)) else ((petrinetref08_common.f k x4 (rd x0 x6)).bind fun t297 => (if x5 = 0 then (petrinetref08_primitive.j1 k x0 t297 x5 x6 ((rd x0 x6) != 0)) else (petrinetref08_primitive.j1 k x0 t297 x5 x6 false)))) else (none)) else (petrinetref08_primitive.l1 k x0 x4 x5 ([] : List Int) 0)
def petrinetref08_primitive.j1 : Nat → List Int → Int → Int → Int → Bool → Option (List Int × Bool)
 | 0, _, _, _, _, _ => none
 | k + 1, x0, x4, x5, x6, x34 => if x34 = true then (if 0 ≤ x6 then (if x6 < (x0.length : Int) then (if (rd x0 x6) < 0 then (petrinetref08_primitive.l0 k x0 x4 (-1) (wrap64 (x6 + 1))) else (petrinetref08_primitive.l0 k x0 x4 1 (wrap64 (x6 + 1)))) else (none)) else (none)) else (petrinetref08_primitive.l0 k x0 x4 x5 (wrap64 (x6 + 1)))
def petrinetref08_primitive.l1 : Nat → List Int → Int → Int → List Int → Int → Option (List Int × Bool)
 | 0, _, _, _, _, _ => none
 | k + 1, x0, x4, x5, x7, x8 => if x8 < (x0.length : Int) then (if x4 = 0 then (if x7.length < 17592186044416 then (petrinetref08_primitive.l1 k x0 x4 x5 (x7 ++ [0]) (wrap64 (x8 + 1))) else (none)) else (if 0 ≤ x8 then (if x7.length < 17592186044416 then (petrinetref08_primitive.l1 k x0 x4 x5 (x7 ++ [wrap64 (x5 * (wrap64 (Int.tdiv (rd x0 x8) x4)))]) (wrap64 (x8 + 1))) else (none)) else (none))) else (some (x7, true))
end
def petrinetref08_primitive.f (k : Nat) (l0 : List Int) : Option (List Int × Bool) := petrinetref08_primitive.l0 k l0 0 0 0
theorem petrinetref08_primitive.mono_l : ∀ k, (∀ y0 y1 y2 y3, LeO (petrinetref08_primitive.l0 k y0 y1 y2 y3) (petrinetref08_primitive.l0 (k + 1) y0 y1 y2 y3)) ∧ (∀ y0 y1 y2 y3 y4, LeO (petrinetref08_primitive.j1 k y0 y1 y2 y3 y4) (petrinetref08_primitive.j1 (k + 1) y0 y1 y2 y3 y4)) ∧ (∀ y0 y1 y2 y3 y4, LeO (petrinetref08_primitive.l1 k y0 y1 y2 y3 y4) (petrinetref08_primitive.l1 (k + 1) y0 y1 y2 y3 y4))
 | 0 => ⟨fun _ _ _ _ r h => by simp [petrinetref08_primitive.l0] at h, fun _ _ _ _ _ r h => by simp [petrinetref08_primitive.j1] at h, fun _ _ _ _ _ r h => by simp [petrinetref08_primitive.l1] at h⟩
 | k + 1 => by
  obtain ⟨ih0, ih1, ih2⟩ := petrinetref08_primitive.mono_l k
  refine ⟨?_, ?_, ?_⟩
  ·
   intro y0 y1 y2 y3
   unfold petrinetref08_primitive.l0
   repeat' first
   | (with_reducible exact ih0 _ _ _ _)
   | (with_reducible exact ih1 _ _ _ _ _)
   | (with_reducible exact ih2 _ _ _ _ _)
   | (with_reducible exact petrinetref08_common.mono _ _ _)
   | (with_reducible exact LeO.refl _)
   | (with_reducible exact LeO.none _)
   | (with_reducible refine LeO.ite ?_ ?_)
   | (with_reducible refine LeO.bind ?_ (fun _ => ?_))
   | exact ih0 _ _ _ _
   | exact ih1 _ _ _ _ _
   | exact ih2 _ _ _ _ _
   | exact petrinetref08_common.mono _ _ _
   | exact LeO.none _
   | refine LeO.ite ?_ ?_
   | refine LeO.bind ?_ (fun _ => ?_)
  ·
   intro y0 y1 y2 y3 y4
   unfold petrinetref08_primitive.j1
   repeat' first
   | (with_reducible exact ih0 _ _ _ _)
   | (with_reducible exact ih1 _ _ _ _ _)
   | (with_reducible exact ih2 _ _ _ _ _)
   | (with_reducible exact petrinetref08_common.mono _ _ _)
   | (with_reducible exact LeO.refl _)
   | (with_reducible exact LeO.none _)
   | (with_reducible refine LeO.ite ?_ ?_)
   | (with_reducible refine LeO.bind ?_ (fun _ => ?_))
   | exact ih0 _ _ _ _
   | exact ih1 _ _ _ _ _
   | exact ih2 _ _ _ _ _
   | exact petrinetref08_common.mono _ _ _
   | exact LeO.none _
   | refine LeO.ite ?_ ?_
   | refine LeO.bind ?_ (fun _ => ?_)
  ·
   intro y0 y1 y2 y3 y4
   unfold petrinetref08_primitive.l1
   repeat' first
   | (with_reducible exact ih0 _ _ _ _)
   | (with_reducible exact ih1 _ _ _ _ _)
   | (with_reducible exact ih2 _ _ _ _ _)
   | (with_reducible exact petrinetref08_common.mono _ _ _)
   | (with_reducible exact LeO.refl _)
   | (with_reducible exact LeO.none _)
   | (with_reducible refine LeO.ite ?_ ?_)
   | (with_reducible refine LeO.bind ?_ (fun _ => ?_))
   | exact ih0 _ _ _ _
   | exact ih1 _ _ _ _ _
   | exact ih2 _ _ _ _ _
   | exact petrinetref08_common.mono _ _ _
   | exact LeO.none _
   | refine LeO.ite ?_ ?_
   | refine LeO.bind ?_ (fun _ => ?_)
theorem petrinetref08_primitive.mono : ∀ a0 k, LeO (petrinetref08_primitive.f k a0) (petrinetref08_primitive.f (k + 1) a0) := by
 intro a0 k
 obtain ⟨ih0, ih1, ih2⟩ := petrinetref08_primitive.mono_l k
 unfold petrinetref08_primitive.f
 repeat' first
   | (with_reducible exact ih0 _ _ _ _)
   | (with_reducible exact ih1 _ _ _ _ _)
   | (with_reducible exact ih2 _ _ _ _ _)
   | (with_reducible exact petrinetref08_common.mono _ _ _)
   | (with_reducible exact LeO.refl _)
   | (with_reducible exact LeO.none _)
   | (with_reducible refine LeO.ite ?_ ?_)
   | (with_reducible refine LeO.bind ?_ (fun _ => ?_))
   | exact ih0 _ _ _ _
   | exact ih1 _ _ _ _ _
   | exact ih2 _ _ _ _ _
   | exact petrinetref08_common.mono _ _ _
   | exact LeO.none _
   | refine LeO.ite ?_ ?_
   | refine LeO.bind ?_ (fun _ => ?_)
set_option maxHeartbeats 8000000 in
set_option maxRecDepth 100000 in
theorem petrinetref08_primitive.calls (k : Nat) (A0 : Option Addr) (c0 : Nat) (l0 : List Int) (r1 : List Int) (r2 : Bool) (w : World) (hr0 : Kd.C (Kd.int .i64) w A0 l0.length l0) (hc0 : l0.length ≤ c0) (h : petrinetref08_primitive.f k l0 = some (r1, r2)) :
  Calls Try.prog 33 #[.slice A0 l0.length c0] w fun e w' => ∃ v0_ : Value, e = .returned (.tuple #[v0_, .bool r2]) ∧ Kd.R (Kd.int .i64) 2 w' w.heap.size (fun _ => True) v0_ r1 ∧ Below w.heap.size w w' := by
 have HR0 := Aside0.mk hr0
 have HC0 := Aside0.mk hc0
 clear hr0 hc0
 have HB := Aside0.mk (Below.refl w.heap.size w)
 have H : (petrinetref08_primitive.l0 k l0 0 0 0) = some (r1, r2) := h
 clear h
 have H' := Aside0.mk H
 clear H
 go_enter Try.func33, Try.ntmps33
 go_wp2
 go_loopg [4, 5, 6] k (fun kq v4 v5 v6 w' => ∃ (x4_1 : Int) (x5_1 : Int) (x6_1 : Int), v4 = .int .i64 x4_1 ∧ v5 = .int .i64 x5_1 ∧ v6 = .int .i64 x6_1 ∧ Aside0 (petrinetref08_primitive.l0 kq l0 x4_1 x5_1 x6_1 = some (r1, r2)) ∧ Aside0 (kq ≤ k) ∧ Aside0 (Below w.heap.size w w'))
 case atStart => exact ⟨(0), (0), (0), (by first | rfl | (simp; done) | (simp [*]; done)), (by first | rfl | (simp; done) | (simp [*]; done)), (by first | rfl | (simp; done) | (simp [*]; done)), H', ⟨Nat.le_refl _⟩, ⟨by repeat (first | (with_reducible first | exact HB.out | apply below_alloc | apply pw_below_drewN | apply below_drew1) | exact HB.out)⟩⟩
 case round =>
  clear H'; obtain ⟨x4_1, x5_1, x6_1, rfl, rfl, rfl, HA, HK1, HB⟩ := hrel
  cases gk with
  | zero => exact absurd HA.out (by simp [petrinetref08_primitive.l0])
  | succ k1 =>
   have H := HA.out; clear HA; simp only [petrinetref08_primitive.l0] at H; by_cases c2 : x6_1 < (l0.length : Int)
   ·
    rw [if_pos c2] at H; have c2b0 : decide (x6_1 < (l0.length : Int)) = true := decide_eq_true c2; clear c2; by_cases c3 : 0 ≤ x6_1
    ·
     rw [if_pos c3] at H; have c3b0 : decide (0 ≤ x6_1) = true := decide_eq_true c3; clear c3; by_cases c4 : (rd l0 x6_1) = (-9223372036854775808)
     ·
      rw [if_pos c4] at H; have c4b0 : ((rd l0 x6_1) == (-9223372036854775808)) = true := beq_iff_eq.mpr c4; have c4b1 : ((rd l0 x6_1) != (-9223372036854775808)) = false := bne_eq_false_iff_eq.mpr c4; clear c4; simp only [Option.some.injEq, Prod.mk.injEq] at H; obtain ⟨rfl, rfl⟩ := H; (have p295 : 0 ≤ (x6_1 : Int) := of_decide_eq_true (by first | (with_reducible assumption) | assumption)); (have q295 : x6_1 < (l0.length : Int) := of_decide_eq_true (by first | (with_reducible assumption) | assumption)); obtain ⟨ad295, e295, hx295_0⟩ := Kd.at_int HR0.out x6_1 p295 q295
      cases e295
      replace hx295_0 := (HB.out.cell (World.block_lt_of_cell? w _ hx295_0)).trans hx295_0; replace p295 := eq_true p295; replace q295 := eq_true q295; go_wp2; go_ret2; (exact ⟨_, by first | rfl | (simp [errW_none, errW_some] <;> rfl) | (simp [*, errW_none, errW_some] <;> rfl), by first | exact Kd.R_nil _ _ _ _ _ | exact Kd.N_nil _ _ _ _ _ | exact Kd.V_nil _ _ _ _ _ | exact Kd.Q_nil _ _ _ _ _ | exact Kd.S_nil _ _ _ _ _, by repeat (first | (with_reducible first | exact HB.out | apply below_alloc | apply pw_below_drewN | apply below_drew1) | exact HB.out)⟩)
     ·
      rw [if_neg c4] at H; have c4b0 : ((rd l0 x6_1) == (-9223372036854775808)) = false := beq_eq_false_iff_ne.mpr c4; have c4b1 : ((rd l0 x6_1) != (-9223372036854775808)) = true := bne_iff_ne.mpr c4; replace H := Option.bind_eq_some_iff.mp H; obtain ⟨t297, A50, H⟩ := H; replace H : (if x5_1 = 0 then (petrinetref08_primitive.j1 k1 l0 t297 x5_1 x6_1 ((rd l0 x6_1) != 0)) else (petrinetref08_primitive.j1 k1 l0 t297 x5_1 x6_1 false)) = some (r1, r2) := H; have A5 := Aside0.mk A50; clear A50; have HC6 := Aside0.mk H; clear H; (have p295 : 0 ≤ (x6_1 : Int) := of_decide_eq_true (by first | (with_reducible assumption) | assumption)); (have q295 : x6_1 < (l0.length : Int) := of_decide_eq_true (by first | (with_reducible assumption) | assumption)); obtain ⟨ad295, e295, hx295_0⟩ := Kd.at_int HR0.out x6_1 p295 q295
      cases e295
      replace hx295_0 := (HB.out.cell (World.block_lt_of_cell? w _ hx295_0)).trans hx295_0; replace p295 := eq_true p295; replace q295 := eq_true q295; (have p296 : 0 ≤ (x6_1 : Int) := of_decide_eq_true (by first | (with_reducible assumption) | assumption)); (have q296 : x6_1 < (l0.length : Int) := of_decide_eq_true (by first | (with_reducible assumption) | assumption)); obtain ⟨ad296, e296, hx296_0⟩ := Kd.at_int HR0.out x6_1 p296 q296; (obtain rfl : ad295 = ad296 := (by injection e296)); replace hx296_0 := (HB.out.cell (World.block_lt_of_cell? w _ hx296_0)).trans hx296_0; replace p296 := eq_true p296; replace q296 := eq_true q296; (go_upto_region 9 with (first | ((with_reducible refine gate_callee (f := 31) rfl ?_); refine goesL_ (some 25) rfl rfl Try.func31 (by kernel_rfl) rfl #[.int .i64 x4_1, .int .i64 (rd l0 x6_1)] rfl (by (try simp only [List.map_toArray, List.map_cons, List.map_nil]); first | done | rfl | (simp only [List.length_drop, List.length_take]; rfl)) ?_; (with_reducible refine (petrinetref08_common.calls k1 x4_1 (rd l0 x6_1) t297 _ A5.out).mono ?_); rintro e w' ⟨rfl, ⟨nd, rfl⟩⟩; refine ⟨_, rfl, ?_⟩))); (try simp only [Act.put, List.setIfInBounds_toArray, List.set_cons_zero, List.set_cons_succ]); (go_cut [34] (fun v34 wc => ∃ (kq : Nat) (x34_5 : Bool), v34 = .bool x34_5 ∧ Aside0 (petrinetref08_primitive.j1 kq l0 t297 x5_1 x6_1 x34_5 = some (r1, r2)) ∧ Aside0 (kq ≤ k1) ∧ Aside0 (Below w.heap.size w wc)))
      case first =>
       have H := HC6.out; clear HC6; by_cases c7 : x5_1 = 0
       ·
        rw [if_pos c7] at H; have c7b0 : (x5_1 == 0) = true := beq_iff_eq.mpr c7; have c7b1 : (x5_1 != 0) = false := bne_eq_false_iff_eq.mpr c7; clear c7; (first | rw [c7b0] | (simp only [i64_w, i32_w]; rw [c7b0]) | skip); have H' := Aside0.mk H; clear H; (have p298 : 0 ≤ (x6_1 : Int) := of_decide_eq_true (by first | (with_reducible assumption) | assumption)); (have q298 : x6_1 < (l0.length : Int) := of_decide_eq_true (by first | (with_reducible assumption) | assumption)); obtain ⟨ad298, e298, hx298_0⟩ := Kd.at_int HR0.out x6_1 p298 q298; (obtain rfl : ad295 = ad298 := (by injection e298)); replace hx298_0 := (HB.out.cell (World.block_lt_of_cell? w _ hx298_0)).trans hx298_0; replace p298 := eq_true p298; replace q298 := eq_true q298; go_wp2; go_meet
        case rel => exact ⟨_, (((rd l0 x6_1) != 0)), (by first | rfl | (simp; done) | (simp [*]; done)), H', ⟨by have := HK1.out; first | omega | exact Nat.le_refl _⟩, ⟨by repeat (first | (with_reducible first | exact HB.out | apply below_alloc | apply pw_below_drewN | apply below_drew1) | exact HB.out)⟩⟩
       ·
        rw [if_neg c7] at H; have c7b0 : (x5_1 == 0) = false := beq_eq_false_iff_ne.mpr c7; have c7b1 : (x5_1 != 0) = true := bne_iff_ne.mpr c7; (first | rw [c7b0] | (simp only [i64_w, i32_w]; rw [c7b0]) | skip); have H' := Aside0.mk H; clear H; go_wp2; go_meet
        case rel => exact ⟨_, (false), (by first | rfl | (simp; done) | (simp [*]; done)), H', ⟨by have := HK1.out; first | omega | exact Nat.le_refl _⟩, ⟨by repeat (first | (with_reducible first | exact HB.out | apply below_alloc | apply pw_below_drewN | apply below_drew1) | exact HB.out)⟩⟩
      case rest =>
       clear HC6; (try clear c2); (try clear c2b0); (try clear p2); (try clear q2); (try clear hx2); (try clear c3); (try clear c3b0); (try clear c4); (try clear c4b0); (try clear c4b1); (try clear c7); (try clear c7b0); (try clear c7b1); (try clear hx295_0); (try clear hx296_0); (try clear hx298_0); (try clear p295); (try clear p296); (try clear p298); (try clear q295); (try clear q296); (try clear q298); obtain ⟨kq, x34_5, rfl, HA, HJ5, HB⟩ := hcut
       cases kq with
       | zero => exact absurd HA.out (by simp [petrinetref08_primitive.j1])
       | succ kj5 =>
        have H := HA.out; clear HA; simp only [petrinetref08_primitive.j1] at H; by_cases c8 : x34_5 = true
        ·
         subst c8; (have H1 : (if 0 ≤ x6_1 then (if x6_1 < (l0.length : Int) then (if (rd l0 x6_1) < 0 then (petrinetref08_primitive.l0 kj5 l0 t297 (-1) (wrap64 (x6_1 + 1))) else (petrinetref08_primitive.l0 kj5 l0 t297 1 (wrap64 (x6_1 + 1)))) else (none)) else (none)) = some (r1, r2) := by rw [if_pos rfl] at H; exact H); clear H; have H := H1; clear H1; by_cases c9 : 0 ≤ x6_1
         ·
          rw [if_pos c9] at H; have c9b0 : decide (0 ≤ x6_1) = true := decide_eq_true c9; clear c9; by_cases c10 : x6_1 < (l0.length : Int)
          ·
           rw [if_pos c10] at H; have c10b0 : decide (x6_1 < (l0.length : Int)) = true := decide_eq_true c10; clear c10; by_cases c11 : (rd l0 x6_1) < 0
           ·
            rw [if_pos c11] at H; have c11b0 : decide ((rd l0 x6_1) < 0) = true := decide_eq_true c11; clear c11; have H' := Aside0.mk H; clear H; (have p299 : 0 ≤ (x6_1 : Int) := of_decide_eq_true (by first | (with_reducible assumption) | assumption)); (have q299 : x6_1 < (l0.length : Int) := of_decide_eq_true (by first | (with_reducible assumption) | assumption)); obtain ⟨ad299, e299, hx299_0⟩ := Kd.at_int HR0.out x6_1 p299 q299; (obtain rfl : ad295 = ad299 := (by injection e299)); replace hx299_0 := (HB.out.cell (World.block_lt_of_cell? w _ hx299_0)).trans hx299_0; replace p299 := eq_true p299; replace q299 := eq_true q299; go_wp2; go_roundg kj5
            case measure => have := HK1.out; have := HJ5.out; omega
            case rel => exact ⟨(t297), ((-1)), (wrap64 (x6_1 + 1)), (by first | rfl | (simp; done) | (simp [*]; done)), (by first | rfl | (simp; done) | (simp [*]; done)), (by first | rfl | (simp; done) | (simp [*]; done)), H', ⟨by have := HK1.out; have := HJ5.out; omega⟩, ⟨by repeat (first | (with_reducible first | exact HB.out | apply below_alloc | apply pw_below_drewN | apply below_drew1) | exact HB.out)⟩⟩
           ·
            rw [if_neg c11] at H; have c11b0 : decide ((rd l0 x6_1) < 0) = false := decide_eq_false c11; clear c11; have H' := Aside0.mk H; clear H; (have p299 : 0 ≤ (x6_1 : Int) := of_decide_eq_true (by first | (with_reducible assumption) | assumption)); (have q299 : x6_1 < (l0.length : Int) := of_decide_eq_true (by first | (with_reducible assumption) | assumption)); obtain ⟨ad299, e299, hx299_0⟩ := Kd.at_int HR0.out x6_1 p299 q299; (obtain rfl : ad295 = ad299 := (by injection e299)); replace hx299_0 := (HB.out.cell (World.block_lt_of_cell? w _ hx299_0)).trans hx299_0; replace p299 := eq_true p299; replace q299 := eq_true q299; go_wp2; go_roundg kj5
            case measure => have := HK1.out; have := HJ5.out; omega
            case rel => exact ⟨(t297), (1), (wrap64 (x6_1 + 1)), (by first | rfl | (simp; done) | (simp [*]; done)), (by first | rfl | (simp; done) | (simp [*]; done)), (by first | rfl | (simp; done) | (simp [*]; done)), H', ⟨by have := HK1.out; have := HJ5.out; omega⟩, ⟨by repeat (first | (with_reducible first | exact HB.out | apply below_alloc | apply pw_below_drewN | apply below_drew1) | exact HB.out)⟩⟩
          ·
           rw [if_neg c10] at H; (exact absurd H (by simp))
         ·
          rw [if_neg c9] at H; (exact absurd H (by simp))
        ·
         replace c8 := Bool.eq_false_iff.mpr c8; subst c8; (have H1 : (petrinetref08_primitive.l0 kj5 l0 t297 x5_1 (wrap64 (x6_1 + 1))) = some (r1, r2) := by rw [if_neg (show ¬ (false = true) by decide)] at H; exact H); clear H; have H := H1; clear H1; have H' := Aside0.mk H; clear H; go_wp2; go_roundg kj5
         case measure => have := HK1.out; have := HJ5.out; omega
         case rel => exact ⟨(t297), (x5_1), (wrap64 (x6_1 + 1)), (by first | rfl | (simp; done) | (simp [*]; done)), (by first | rfl | (simp; done) | (simp [*]; done)), (by first | rfl | (simp; done) | (simp [*]; done)), H', ⟨by have := HK1.out; have := HJ5.out; omega⟩, ⟨by repeat (first | (with_reducible first | exact HB.out | apply below_alloc | apply pw_below_drewN | apply below_drew1) | exact HB.out)⟩⟩
    ·
     rw [if_neg c3] at H; (exact absurd H (by simp))
   ·
    rw [if_neg c2] at H; have c2b0 : decide (x6_1 < (l0.length : Int)) = false := decide_eq_false c2; clear c2; have H' := Aside0.mk H; clear H; go_wp2
    go_loopg [7, 8] k1 (fun kq v7 v8 w' => ∃ (x7_2 : List Int) (x8_2 : Int), v8 = .int .i64 x8_2 ∧ Aside0 (petrinetref08_primitive.l1 kq l0 x4_1 x5_1 x7_2 x8_2 = some (r1, r2)) ∧ Aside0 (kq ≤ k1) ∧ Aside0 (Kd.R (Kd.int .i64) 2 w' w.heap.size (fun _ => True) v7 x7_2) ∧ Aside0 (Below w.heap.size w w'))
    case atStart => exact ⟨(([] : List Int)), (0), (by first | rfl | (simp; done) | (simp [*]; done)), H', ⟨Nat.le_refl _⟩, ⟨by first | exact Kd.R_nil _ _ _ _ _ | exact Kd.N_nil _ _ _ _ _ | exact Kd.V_nil _ _ _ _ _ | exact Kd.Q_nil _ _ _ _ _ | exact Kd.S_nil _ _ _ _ _⟩, ⟨by repeat (first | (with_reducible first | exact HB.out | apply below_alloc | apply pw_below_drewN | apply below_drew1) | exact HB.out)⟩⟩
    case round =>
     clear H'; (try clear c1); (try clear c2); (try clear c2b0); (try clear p2); (try clear q2); (try clear hx2); (try clear c3); (try clear c3b0); (try clear c4); (try clear c4b0); (try clear c4b1); (try clear p6); (try clear c7); (try clear c7b0); (try clear c7b1); (try clear c8); (try clear c9); (try clear c9b0); (try clear c10); (try clear c10b0); (try clear c11); (try clear c11b0); (try clear hx295_0); (try clear hx296_0); (try clear hx298_0); (try clear hx299_0); (try clear p2); (try clear p295); (try clear p296); (try clear p298); (try clear p299); (try clear q2); (try clear q295); (try clear q296); (try clear q298); (try clear q299); obtain ⟨x7_2, x8_2, rfl, HA, HK2, HO_7, HB⟩ := hrel
     cases gk with
     | zero => exact absurd HA.out (by simp [petrinetref08_primitive.l1])
     | succ k2 =>
      have H := HA.out; clear HA; simp only [petrinetref08_primitive.l1] at H; by_cases c12 : x8_2 < (l0.length : Int)
      ·
       rw [if_pos c12] at H; have c12b0 : decide (x8_2 < (l0.length : Int)) = true := decide_eq_true c12; clear c12; by_cases c13 : x4_1 = 0
       ·
        rw [if_pos c13] at H; have c13b0 : (x4_1 == 0) = true := beq_iff_eq.mpr c13; have c13b1 : (x4_1 != 0) = false := bne_eq_false_iff_eq.mpr c13; clear c13; by_cases c14 : x7_2.length < 17592186044416
        ·
         rw [if_pos c14] at H; have LMc14 := Aside0.mk c14; clear c14; obtain ⟨y300, hy300⟩ : ∃ y_ : List Int, y_ = (x7_2 ++ [0]) := ⟨_, rfl⟩; (replace H : (petrinetref08_primitive.l1 k2 l0 x4_1 x5_1 y300 (wrap64 (x8_2 + 1))) = some (r1, r2) := by first | (rw [hy300]; with_reducible exact H) | (have H2_ := (Option.bind_some _ _).symm.trans H; rw [hy300]; with_reducible exact H2_) | (have H2_ := (Option.bind_some _ _).symm.trans H; with_reducible exact H2_) | with_reducible exact H | (rw [hy300]; exact H) | exact H); have Ny300 := Aside0.mk hy300; clear hy300; have H' := Aside0.mk H; clear H; (go_wp2_with (first | ((with_reducible refine gate_builtin (b := .append) (xs := #[.tmp 48, .tmp 49]) rfl ?_); at_builtin; refine Kd.R_append (Kd.int .i64) (w0 := w) w.heap.size rfl (.tmp 48) (.tmp 49) 33 2 (.int .i64 0) 8 rfl Try.underlying33 info2 rfl (by decide) (by omega) u7 x7_2 0 [.int .i64 0] (fun _ => True) (fun _ => False) rfl rfl ?aP (fun _ hk => hk.elim) ?aF ?aO ?aB ?aS ?aL ?_; (case aP => exact rfl); (case aB => exact (by repeat (first | (with_reducible first | exact HB.out | apply below_alloc | apply pw_below_drewN | apply below_drew1) | exact HB.out))); (case aF => exact (fun _ _ => trivial)); (case aO => exact (by (with_reducible repeat (first | apply Kd.R_alloc | apply Kd.R_drewN | apply Kd.R_drew)); exact HO_7.out)); (case aS => exact (below_size (by repeat (first | (with_reducible first | exact HB.out | apply below_alloc | apply pw_below_drewN | apply below_drew1) | exact HB.out)))); (case aL => have := LMc14.out; omega); intro v301 w15 ho hb hg hat; rw [← Ny300.out] at ho; have n0_ := Aside0.mk (hb); have n1_ := Aside0.mk (ho); clear HB; clear HO_7; have HB := n0_; have HO302 := n1_; clear n0_ n1_; clear ho hb hg hat))); go_roundg k2
         case measure => have := HK1.out; have := HK2.out; omega
         case rel => exact ⟨(y300), (wrap64 (x8_2 + 1)), (by first | rfl | (simp; done) | (simp [*]; done)), H', ⟨by have := HK1.out; have := HK2.out; omega⟩, ⟨by (with_reducible repeat (first | apply Kd.R_alloc | apply Kd.R_drewN | apply Kd.R_drew)); exact HO302.out⟩, ⟨by repeat (first | (with_reducible first | exact HB.out | apply below_alloc | apply pw_below_drewN | apply below_drew1) | exact HB.out)⟩⟩
        ·
         rw [if_neg c14] at H; (exact absurd H (by simp))
       ·
        rw [if_neg c13] at H; have c13b0 : (x4_1 == 0) = false := beq_eq_false_iff_ne.mpr c13; have c13b1 : (x4_1 != 0) = true := bne_iff_ne.mpr c13; by_cases c16 : 0 ≤ x8_2
        ·
         rw [if_pos c16] at H; have c16b0 : decide (0 ≤ x8_2) = true := decide_eq_true c16; clear c16; by_cases c17 : x7_2.length < 17592186044416
         ·
          rw [if_pos c17] at H; have LMc17 := Aside0.mk c17; clear c17; obtain ⟨y304, hy304⟩ : ∃ y_ : List Int, y_ = (x7_2 ++ [wrap64 (x5_1 * (wrap64 (Int.tdiv (rd l0 x8_2) x4_1)))]) := ⟨_, rfl⟩; (replace H : (petrinetref08_primitive.l1 k2 l0 x4_1 x5_1 y304 (wrap64 (x8_2 + 1))) = some (r1, r2) := by first | (rw [hy304]; with_reducible exact H) | (have H2_ := (Option.bind_some _ _).symm.trans H; rw [hy304]; with_reducible exact H2_) | (have H2_ := (Option.bind_some _ _).symm.trans H; with_reducible exact H2_) | with_reducible exact H | (rw [hy304]; exact H) | exact H); have Ny304 := Aside0.mk hy304; clear hy304; have H' := Aside0.mk H; clear H; (have p303 : 0 ≤ (x8_2 : Int) := of_decide_eq_true (by first | (with_reducible assumption) | assumption)); (have q303 : x8_2 < (l0.length : Int) := of_decide_eq_true (by first | (with_reducible assumption) | assumption)); obtain ⟨ad303, e303, hx303_0⟩ := Kd.at_int HR0.out x8_2 p303 q303
          cases e303
          replace hx303_0 := (HB.out.cell (World.block_lt_of_cell? w _ hx303_0)).trans hx303_0; replace p303 := eq_true p303; replace q303 := eq_true q303; (go_wp2_with (first | ((with_reducible refine gate_builtin (b := .append) (xs := #[.tmp 51, .tmp 60]) rfl ?_); at_builtin; refine Kd.R_append (Kd.int .i64) (w0 := w) w.heap.size rfl (.tmp 51) (.tmp 60) 33 2 (.int .i64 0) 8 rfl Try.underlying33 info2 rfl (by decide) (by omega) u7 x7_2 (wrap64 (x5_1 * (wrap64 (Int.tdiv (rd l0 x8_2) x4_1)))) [.int .i64 (wrap64 (x5_1 * (wrap64 (Int.tdiv (rd l0 x8_2) x4_1))))] (fun _ => True) (fun _ => False) rfl rfl ?aP (fun _ hk => hk.elim) ?aF ?aO ?aB ?aS ?aL ?_; (case aP => exact rfl); (case aB => exact (by repeat (first | (with_reducible first | exact HB.out | apply below_alloc | apply pw_below_drewN | apply below_drew1) | exact HB.out))); (case aF => exact (fun _ _ => trivial)); (case aO => exact (by (with_reducible repeat (first | apply Kd.R_alloc | apply Kd.R_drewN | apply Kd.R_drew)); exact HO_7.out)); (case aS => exact (below_size (by repeat (first | (with_reducible first | exact HB.out | apply below_alloc | apply pw_below_drewN | apply below_drew1) | exact HB.out)))); (case aL => have := LMc17.out; omega); intro v305 w18 ho hb hg hat; rw [← Ny304.out] at ho; have n0_ := Aside0.mk (hb); have n1_ := Aside0.mk (ho); clear HB; clear HO_7; have HB := n0_; have HO306 := n1_; clear n0_ n1_; clear ho hb hg hat))); go_roundg k2
          case measure => have := HK1.out; have := HK2.out; omega
          case rel => exact ⟨(y304), (wrap64 (x8_2 + 1)), (by first | rfl | (simp; done) | (simp [*]; done)), H', ⟨by have := HK1.out; have := HK2.out; omega⟩, ⟨by (with_reducible repeat (first | apply Kd.R_alloc | apply Kd.R_drewN | apply Kd.R_drew)); exact HO306.out⟩, ⟨by repeat (first | (with_reducible first | exact HB.out | apply below_alloc | apply pw_below_drewN | apply below_drew1) | exact HB.out)⟩⟩
         ·
          rw [if_neg c17] at H; (exact absurd H (by simp))
        ·
         rw [if_neg c16] at H; (exact absurd H (by simp))
      ·
       rw [if_neg c12] at H; have c12b0 : decide (x8_2 < (l0.length : Int)) = false := decide_eq_false c12; clear c12; simp only [Option.some.injEq, Prod.mk.injEq] at H; obtain ⟨rfl, rfl⟩ := H; go_wp2; go_ret2; (exact ⟨_, by first | rfl | (simp [errW_none, errW_some] <;> rfl) | (simp [*, errW_none, errW_some] <;> rfl), by (with_reducible repeat (first | apply Kd.R_alloc | apply Kd.R_drewN | apply Kd.R_drew)); exact HO_7.out, by repeat (first | (with_reducible first | exact HB.out | apply below_alloc | apply pw_below_drewN | apply below_drew1) | exact HB.out)⟩)

end Go.Proofs.Ytckefohfahphpaa.Z
end
section
namespace Go.Proofs.Ytckefohfahphpaa.Z
open Go.RowKit Go.Proofs.YtckefohfahphpaaW.PrintWords Go.Proofs.YtckefohfahphpaaW.PrintLast Go.Proofs.YtckefohfahphpaaW.PrintMore
set_option linter.unusedVariables false
set_option linter.unusedSimpArgs false
def sgnL : List Int → Int → Int
 | [], s => s
 | x :: a, s => sgnL a (if s = 0 then (if x = 0 then 0 else if x < 0 then -1 else 1) else s)
theorem sgnL_keep {s : Int} (h : s ≠ 0) : ∀ a, sgnL a s = s
 | [] => rfl
 | x :: a => by rw [sgnL, if_neg h]; exact sgnL_keep h a
theorem sgnL_range : ∀ (a : List Int) (s : Int), (s = 0 ∨ s = 1 ∨ s = -1) → (sgnL a s = 0 ∨ sgnL a s = 1 ∨ sgnL a s = -1)
 | [], _, h => h
 | x :: a, s, h => by
  rw [sgnL]
  refine sgnL_range a _ ?_
  split
  ·
   split
   ·
    exact .inl rfl
   ·
    split
    ·
     exact .inr (.inr rfl)
    ·
     exact .inr (.inl rfl)
  ·
   exact h
theorem sgnL_first : ∀ (a : List Int) (c : Nat), (∀ x, x < c → vec a x = 0) → vec a c ≠ 0 → sgnL a 0 = if vec a c < 0 then -1 else 1
 | [], c, _, h => absurd (vec_out (Nat.zero_le c)) h
 | y :: a, 0, _, h => by
  rw [vec_cons0] at h ⊢
  rw [sgnL, if_pos rfl, if_neg h]
  by_cases hn : y < 0
  ·
   rw [if_pos hn]; exact sgnL_keep (by decide) a
  ·
   rw [if_neg hn]; exact sgnL_keep (by decide) a
 | y :: a, c + 1, h0, h => by
  have hy := h0 0 (by omega)
  rw [vec_cons0] at hy
  rw [vec_consS] at h ⊢
  rw [sgnL, if_pos rfl, if_pos hy]
  exact sgnL_first a c (fun x hx => by have := h0 (x + 1) (by omega); rwa [vec_consS] at this) h
def nrm (l : List Int) : Prop := ∀ c, (∀ x, x < c → vec l x = 0) → vec l c ≠ 0 → 0 < vec l c
def prF (g s x : Int) : Int := if g = 0 then 0 else s * Int.tdiv x g
theorem drop_vec {l : List Int} {i : Nat} (h : i < l.length) : l.drop i = vec l i :: l.drop (i + 1) := by
 rw [List.drop_eq_getElem_cons h, vec_get h]
theorem rprm_l1 {l : List Int} {g s : Int} (hl : l.length ≤ 100) (hr : ∀ z ∈ l, nl z) (hs : s = 0 ∨ s = 1 ∨ s = -1) : ∀ (d i k : Nat) (acc : List Int), i + d = l.length → acc.length ≤ i → d + 1 ≤ k →
  petrinetref08_primitive.l1 k l g s acc (i : Int) = some (acc ++ (l.drop i).map (prF g s), true) := by
 intro d
 induction d with
 | zero =>
  intro i k acc hi ha hk
  obtain ⟨k, rfl⟩ : ∃ m, k = m + 1 := ⟨k - 1, by omega⟩
  rw [petrinetref08_primitive.l1, if_neg (by omega), List.drop_of_length_le (by omega)]
  simp
 | succ d ih =>
  intro i k acc hi ha hk
  obtain ⟨k, rfl⟩ : ∃ m, k = m + 1 := ⟨k - 1, by omega⟩
  have hil : i < l.length := by omega
  have e1 : rd l (i : Int) = vec l i := rfl
  obtain ⟨n1, n2⟩ := hr _ (vec_mem hil)
  have e2 : wrap64 ((i : Int) + 1) = ((i + 1 : Nat) : Int) := by rw [wrap64_small (by omega) (by omega)]; omega
  rw [petrinetref08_primitive.l1, if_pos (by omega), drop_vec hil, e2, e1]
  by_cases hg : g = 0
  ·
   rw [if_pos hg, if_pos (by omega), ih (i + 1) k _ (by omega) (by simp; omega) (by omega)]
   simp [prF, hg]
  ·
   have t1 := tdiv_abs (vec l i) g
   have w1 : wrap64 (Int.tdiv (vec l i) g) = Int.tdiv (vec l i) g := wrap64_id ⟨by omega, by omega⟩
   have w2 : wrap64 (s * Int.tdiv (vec l i) g) = s * Int.tdiv (vec l i) g := by
    rcases hs with h | h | h <;> rw [h] <;> refine wrap64_id ⟨?_, ?_⟩ <;> omega
   rw [if_neg hg, if_pos (by omega), if_pos (by omega), w1, w2, ih (i + 1) k _ (by omega) (by simp; omega) (by omega)]
   simp [prF, hg]
theorem gcd_nl {x y : Int} (hx : nl x) (hy : nl y) : nl (Int.gcd x y : Int) := by
 obtain ⟨a1, a2⟩ := hx
 obtain ⟨b1, b2⟩ := hy
 by_cases h : y = 0
 ·
  subst h; simp [Int.gcd]; constructor <;> omega
 ·
  have := gcd_le_right (g := x) h
  constructor <;> omega
theorem rprm_l0 {l : List Int} (hl : l.length ≤ 100) (hr : ∀ z ∈ l, nl z) : ∀ (d i k : Nat) (g s : Int), i + d = l.length → nl g → 9223372036854775808 ≤ k →
  petrinetref08_primitive.l0 (k + 2 * d + 1) l g s (i : Int) = petrinetref08_primitive.l1 k l (gcdL (l.drop i) g) (sgnL (l.drop i) s) [] 0 := by
 intro d
 induction d with
 | zero =>
  intro i k g s hi hg hk
  rw [petrinetref08_primitive.l0, if_neg (by omega), List.drop_of_length_le (by omega)]
  rfl
 | succ d ih =>
  intro i k g s hi hg hk
  have hil : i < l.length := by omega
  have e1 : rd l (i : Int) = vec l i := rfl
  have hn := hr _ (vec_mem hil)
  have e2 : wrap64 ((i : Int) + 1) = ((i + 1 : Nat) : Int) := by rw [wrap64_small (by omega) (by omega)]; omega
  have hc := rcommon_eq (k := k + 2 * (d + 1)) hg hn (by omega)
  have hne : vec l i ≠ -9223372036854775808 := by have := hn.1; omega
  rw [petrinetref08_primitive.l0, if_pos (by omega), if_pos (by omega), e1, if_neg hne, hc]
  simp only [Option.bind_some]
  have key := ih (i + 1) k (Int.gcd g (vec l i) : Int)
  have eg : gcdL (l.drop i) g = gcdL (l.drop (i + 1)) (Int.gcd g (vec l i) : Int) := by rw [drop_vec hil]; rfl
  have es : sgnL (l.drop i) s = sgnL (l.drop (i + 1)) (if s = 0 then (if vec l i = 0 then 0 else if vec l i < 0 then -1 else 1) else s) := by rw [drop_vec hil]; rfl
  rw [eg, es]
  have ek : k + 2 * (d + 1) = (k + 2 * d + 1) + 1 := by omega
  by_cases hs : s = 0
  ·
   rw [if_pos hs, ek, petrinetref08_primitive.j1, if_pos hs]
   by_cases h0 : vec l i = 0
   ·
    rw [if_neg (by simp [h0]), if_pos h0, e2, hs]
    exact key 0 (by omega) (gcd_nl hg hn) hk
   ·
    rw [if_pos (by simp [h0]), if_pos (by omega), if_pos (by omega), if_neg h0, e1, e2]
    by_cases hneg : vec l i < 0
    ·
     rw [if_pos hneg, if_pos hneg]
     exact key (-1) (by omega) (gcd_nl hg hn) hk
    ·
     rw [if_neg hneg, if_neg hneg]
     exact key 1 (by omega) (gcd_nl hg hn) hk
  ·
   rw [if_neg hs, ek, petrinetref08_primitive.j1, if_neg (by decide), if_neg hs, e2]
   exact key s (by omega) (gcd_nl hg hn) hk
theorem rprm_bad {l : List Int} (hr : ∀ z ∈ l, in64 z) (hl : l.length ≤ 100) : ∀ (d i k : Nat) (g s : Int), i + d = l.length → nl g → 9223372036854775808 + 2 * d + 2 ≤ k → least ∈ l.drop i →
  petrinetref08_primitive.l0 k l g s (i : Int) = some ([], false) := by
 intro d
 induction d with
 | zero =>
  intro i k g s hi hg hk hm
  rw [List.drop_of_length_le (by omega)] at hm
  simp at hm
 | succ d ih =>
  intro i k g s hi hg hk hm
  obtain ⟨k, rfl⟩ : ∃ m, k = m + 2 := ⟨k - 2, by omega⟩
  have hil : i < l.length := by omega
  have e1 : rd l (i : Int) = vec l i := rfl
  have e2 : wrap64 ((i : Int) + 1) = ((i + 1 : Nat) : Int) := by rw [wrap64_small (by omega) (by omega)]; omega
  rw [petrinetref08_primitive.l0, if_pos (by omega), if_pos (by omega), e1]
  by_cases hne : vec l i = -9223372036854775808
  ·
   rw [if_pos hne]
  ·
   rw [if_neg hne]
   obtain ⟨n1, n2⟩ := hr _ (vec_mem hil)
   have hn : nl (vec l i) := ⟨by omega, n2⟩
   rw [rcommon_eq (k := k + 1) hg hn (by omega)]
   simp only [Option.bind_some]
   have hm' : least ∈ l.drop (i + 1) := by
    rw [drop_vec hil] at hm
    rcases List.mem_cons.mp hm with h | h
    ·
     exact absurd h.symm hne
    ·
     exact h
   have key := fun s => ih (i + 1) k (Int.gcd g (vec l i) : Int) s (by omega) (gcd_nl hg hn) (by omega) hm'
   split
   ·
    rw [petrinetref08_primitive.j1, e2, e1]
    split
    ·
     rw [if_pos (by omega), if_pos (by omega)]
     split
     ·
      exact key _
     ·
      exact key _
    ·
     exact key _
   ·
    rw [petrinetref08_primitive.j1, if_neg (by decide), e2]
    exact key _
theorem rprm_spec {k n : Nat} {l : List Int} (hl : okr n l) (hn : n ≤ 64) (hk : 9223372036854775808 + 300 ≤ k) :
  (∃ s, petrinetref08_primitive.f k l = some (s, false)) ∨ ∃ s, petrinetref08_primitive.f k l = some (s, true) ∧ nlr n s ∧ nrm s ∧ ∃ σ g : Int, σ ≠ 0 ∧ 0 < g ∧ (∀ x, σ * vec l x = g * vec s x) ∧ ((∀ x, vec l x = 0) ∨ Prm (vec s)) := by
 have hll := hl.1
 unfold petrinetref08_primitive.f
 by_cases hm : least ∈ l
 ·
  left
  exact ⟨[], rprm_bad hl.2 (by omega) l.length 0 k 0 0 (by omega) ⟨by omega, by omega⟩ (by omega) (by simpa using hm)⟩
 ·
  right
  have hr : ∀ z ∈ l, nl z := fun z hz => by
   obtain ⟨h1, h2⟩ := hl.2 z hz
   have : z ≠ least := fun e => hm (e ▸ hz)
   unfold least at this
   exact ⟨by omega, h2⟩
  obtain ⟨k', rfl⟩ : ∃ m, k = m + 2 * l.length + 1 := ⟨k - 2 * l.length - 1, by omega⟩
  have h1 := rprm_l0 (by omega) hr l.length 0 k' 0 0 (by omega) ⟨by omega, by omega⟩ (by omega)
  have hsr := sgnL_range l 0 (.inl rfl)
  have h2 := rprm_l1 (g := gcdL l 0) (s := sgnL l 0) (by omega) hr hsr l.length 0 k' [] (by omega) (by simp) (by omega)
  simp only [List.drop_zero, List.nil_append] at h1 h2
  refine ⟨l.map (prF (gcdL l 0) (sgnL l 0)), by rw [← h2]; exact h1, ?_⟩
  rcases prim_spec hl with ⟨q1, _⟩ | ⟨s0, q1, q2, q3, g, q4, q5, q6⟩
  ·
   unfold primG at q1
   rw [if_neg hm] at q1
   simp at q1
  ·
   have hs0 : s0 = l.map fun x => if gcdL l 0 > 0 then Int.tdiv x (gcdL l 0) else 0 := by
    unfold primG at q1
    rw [if_neg hm] at q1
    simpa using q1.symm
   have hg0 := gcdL_nonneg l 0 (Int.le_refl 0)
   have hv : ∀ x, vec (l.map (prF (gcdL l 0) (sgnL l 0))) x = sgnL l 0 * vec s0 x := fun x => by
    rw [vec_map (f := prF (gcdL l 0) (sgnL l 0)) (by unfold prF; simp), hs0, vec_map (f := fun x => if gcdL l 0 > 0 then Int.tdiv x (gcdL l 0) else 0) (by simp)]
    unfold prF
    by_cases h : gcdL l 0 = 0
    ·
     rw [if_pos h, if_neg (by omega)]; simp
    ·
     rw [if_neg h, if_pos (by omega)]
   have hlen : (l.map (prF (gcdL l 0) (sgnL l 0))).length = n := by simp; omega
   generalize l.map (prF (gcdL l 0) (sgnL l 0)) = s at hv hlen
   have hnl : nlr n s := ⟨hlen, fun z hz => by
    obtain ⟨x, _, rfl⟩ := mem_vec hz
    have h3 := okr_in q2 x
    have h4 := q3 x
    unfold least at h4
    obtain ⟨h5, h6⟩ := h3
    rw [hv]
    rcases hsr with h | h | h <;> rw [h] <;> constructor <;> omega⟩
   have hzero : ∀ x, vec l x = 0 → vec s0 x = 0 := fun x h => by
    have := q5 x
    rw [h] at this
    exact (Int.mul_eq_zero.mp this.symm).resolve_left (by omega)
   refine ⟨hnl, fun c h3 h4 => ?_, ?_⟩
   ·
    rw [hv] at h4 ⊢
    have hc0 : vec s0 c ≠ 0 := fun h => h4 (by rw [h]; simp)
    have hσ : sgnL l 0 ≠ 0 := fun h => h4 (by rw [h]; simp)
    have hlc : vec l c ≠ 0 := fun h => hc0 (hzero c h)
    have h5 := sgnL_first l c (fun x hx => by
     have := h3 x hx
     rw [hv] at this
     have := (Int.mul_eq_zero.mp this).resolve_left hσ
     rw [q5, this]; simp) hlc
    rw [h5]
    have h6 := q5 c
    by_cases hneg : vec l c < 0
    ·
     rw [if_pos hneg]
     have : 0 < -vec s0 c := pos_of_mul q4 (by rw [Int.mul_neg]; omega)
     omega
    ·
     rw [if_neg hneg]
     have : 0 < vec s0 c := pos_of_mul q4 (by omega)
     omega
   ·
    rcases q6 with q6 | q6
    ·
     refine ⟨1, 1, by decide, by decide, fun x => ?_, .inl q6⟩
     rw [hv, hzero x (q6 x), q6 x]
     simp
    ·
     have hσ : sgnL l 0 ≠ 0 := by
      have hex : ∃ c, vec l c ≠ 0 := by
       apply Classical.byContradiction
       intro hno
       have h7 : ∀ x, vec s0 x = 0 := fun x => hzero x (Classical.byContradiction fun h => hno ⟨x, h⟩)
       have := q6 2 fun x => by rw [h7]; exact ⟨0, rfl⟩
       exact absurd this (by decide)
      obtain ⟨c, hc⟩ := hex
      obtain ⟨c, hc, hmin⟩ : ∃ c, vec l c ≠ 0 ∧ ∀ x, x < c → vec l x = 0 := by
       induction c using Nat.strongRecOn with
       | _ c ih =>
        by_cases h : ∃ x, x < c ∧ vec l x ≠ 0
        ·
         obtain ⟨x, h1, h2⟩ := h
         exact ih x h1 h2
        ·
         exact ⟨c, hc, fun x hx => Classical.byContradiction fun hn => h ⟨x, hx, hn⟩⟩
      rw [sgnL_first l c hmin hc]
      split <;> decide
     refine ⟨sgnL l 0, g, hσ, q4, fun x => ?_, .inr fun d hd => q6 d fun x => ?_⟩
     ·
      rw [hv, q5]
      exact Int.mul_left_comm _ _ _
     ·
      have := hd x
      rw [hv] at this
      rcases hsr with h | h | h
      ·
       exact absurd h hσ
      ·
       rw [h] at this; simpa using this
      ·
       rw [h] at this
       have h8 : -1 * vec s0 x = -vec s0 x := by omega
       rw [h8] at this
       exact Int.dvd_neg.mp this
end Go.Proofs.Ytckefohfahphpaa.Z
end
section
namespace Go.Proofs.Ytckefohfahphpaa.Z
open Go.RowKit Go.Proofs.YtckefohfahphpaaW.PrintWords Go.Proofs.YtckefohfahphpaaW.PrintLast Go.Proofs.YtckefohfahphpaaW.PrintMore
attribute [local go_sem] max2_int min2_int max_two min_two max_three min_three max_four min_four   -- for this text's walks alone
set_option linter.unusedVariables false
set_option linter.unusedSimpArgs false

/-! ### petrinetref08_clear: function 34 -/
mutual
def petrinetref08_clear.l0 : Nat → List Int → List Int → Int → Int → List Int → Int → Option (List Int × Bool)
 | 0, _, _, _, _, _, _ => none
 | k + 1, x0, x1, x9, x10, x11, x12 => if x12 < (x0.length : Int) then (if 0 ≤ x12 then ((petrinetref08_times.f k x9 (rd x0 x12)).bind fun bt317 => (if x12 < (x1.length : Int) then ((petrinetref08_times.f k x10 (rd x1 x12)).bind fun bt320 => (if bt317.2 = true then (if bt320.2 = true then (petrinetref08_clear.j1 k x0 x1 x9 x10 x11 x12 bt317.1 bt320.1 (bt320.1 == (-9223372036854775808))) else (petrinetref08_clear.j1 k x0 x1 x9 x10 x11 x12 bt317.1 bt320.1 true)) else (petrinetref08_clear.j1 k x0 x1 x9 x10 x11 x12 bt317.1 bt320.1 true))) else (none))) else (none)) else ((petrinetref08_primitive.f k x11).bind fun bt312 => (some (bt312.1, bt312.2)))
def petrinetref08_clear.j1 : Nat → List Int → List Int → Int → Int → List Int → Int → Int → Int → Bool → Option (List Int × Bool)
 | 0, _, _, _, _, _, _, _, _, _ => none
 | k + 1, x0, x1, x9, x10, x11, x12, x13, x15, x73 => if x73 = true then (some (([] : List Int), false)) else ((petrinetref08_plus.f k x13 (wrap64 (-x15))).bind fun bt322 => (if bt322.2 = true then (if x11.length < 17592186044416 then (petrinetref08_clear.l0 k x0 x1 x9 x10 (x11 ++ [bt322.1]) (wrap64 (x12 + 1))) else (none)) else (some (([] : List Int), false))))
end
def petrinetref08_clear.f (k : Nat) (l0 : List Int) (l1 : List Int) (a2 : Int) : Option (List Int × Bool) := if 0 ≤ a2 then (if a2 < (l1.length : Int) then (if a2 < (l0.length : Int) then ((petrinetref08_common.f k (rd l1 a2) (rd l0 a2)).bind fun t309 => (if t309 = 0 then (none) else (petrinetref08_clear.l0 k l0 l1 (wrap64 (Int.tdiv (rd l1 a2) t309)) (wrap64 (Int.tdiv (rd l0 a2) t309)) ([] : List Int) 0))) else (none)) else (none)) else (none)
theorem petrinetref08_clear.mono_l : ∀ k, (∀ y0 y1 y2 y3 y4 y5, LeO (petrinetref08_clear.l0 k y0 y1 y2 y3 y4 y5) (petrinetref08_clear.l0 (k + 1) y0 y1 y2 y3 y4 y5)) ∧ (∀ y0 y1 y2 y3 y4 y5 y6 y7 y8, LeO (petrinetref08_clear.j1 k y0 y1 y2 y3 y4 y5 y6 y7 y8) (petrinetref08_clear.j1 (k + 1) y0 y1 y2 y3 y4 y5 y6 y7 y8))
 | 0 => ⟨fun _ _ _ _ _ _ r h => by simp [petrinetref08_clear.l0] at h, fun _ _ _ _ _ _ _ _ _ r h => by simp [petrinetref08_clear.j1] at h⟩
 | k + 1 => by
  obtain ⟨ih0, ih1⟩ := petrinetref08_clear.mono_l k
  refine ⟨?_, ?_⟩
  ·
   intro y0 y1 y2 y3 y4 y5
   unfold petrinetref08_clear.l0
   repeat' first
   | (with_reducible exact ih0 _ _ _ _ _ _)
   | (with_reducible exact ih1 _ _ _ _ _ _ _ _ _)
   | (with_reducible exact petrinetref08_common.mono _ _ _)
   | (with_reducible exact petrinetref08_plus.mono _ _ _)
   | (with_reducible exact petrinetref08_primitive.mono _ _)
   | (with_reducible exact petrinetref08_times.mono _ _ _)
   | (with_reducible exact LeO.refl _)
   | (with_reducible exact LeO.none _)
   | (with_reducible refine LeO.ite ?_ ?_)
   | (with_reducible refine LeO.bind ?_ (fun _ => ?_))
   | exact ih0 _ _ _ _ _ _
   | exact ih1 _ _ _ _ _ _ _ _ _
   | exact petrinetref08_common.mono _ _ _
   | exact petrinetref08_plus.mono _ _ _
   | exact petrinetref08_primitive.mono _ _
   | exact petrinetref08_times.mono _ _ _
   | exact LeO.none _
   | refine LeO.ite ?_ ?_
   | refine LeO.bind ?_ (fun _ => ?_)
  ·
   intro y0 y1 y2 y3 y4 y5 y6 y7 y8
   unfold petrinetref08_clear.j1
   repeat' first
   | (with_reducible exact ih0 _ _ _ _ _ _)
   | (with_reducible exact ih1 _ _ _ _ _ _ _ _ _)
   | (with_reducible exact petrinetref08_common.mono _ _ _)
   | (with_reducible exact petrinetref08_plus.mono _ _ _)
   | (with_reducible exact petrinetref08_primitive.mono _ _)
   | (with_reducible exact petrinetref08_times.mono _ _ _)
   | (with_reducible exact LeO.refl _)
   | (with_reducible exact LeO.none _)
   | (with_reducible refine LeO.ite ?_ ?_)
   | (with_reducible refine LeO.bind ?_ (fun _ => ?_))
   | exact ih0 _ _ _ _ _ _
   | exact ih1 _ _ _ _ _ _ _ _ _
   | exact petrinetref08_common.mono _ _ _
   | exact petrinetref08_plus.mono _ _ _
   | exact petrinetref08_primitive.mono _ _
   | exact petrinetref08_times.mono _ _ _
   | exact LeO.none _
   | refine LeO.ite ?_ ?_
   | refine LeO.bind ?_ (fun _ => ?_)
theorem petrinetref08_clear.mono : ∀ a0 a1 a2 k, LeO (petrinetref08_clear.f k a0 a1 a2) (petrinetref08_clear.f (k + 1) a0 a1 a2) := by
 intro a0 a1 a2 k
 obtain ⟨ih0, ih1⟩ := petrinetref08_clear.mono_l k
 unfold petrinetref08_clear.f
 repeat' first
   | (with_reducible exact ih0 _ _ _ _ _ _)
   | (with_reducible exact ih1 _ _ _ _ _ _ _ _ _)
   | (with_reducible exact petrinetref08_common.mono _ _ _)
   | (with_reducible exact petrinetref08_plus.mono _ _ _)
   | (with_reducible exact petrinetref08_primitive.mono _ _)
   | (with_reducible exact petrinetref08_times.mono _ _ _)
   | (with_reducible exact LeO.refl _)
   | (with_reducible exact LeO.none _)
   | (with_reducible refine LeO.ite ?_ ?_)
   | (with_reducible refine LeO.bind ?_ (fun _ => ?_))
   | exact ih0 _ _ _ _ _ _
   | exact ih1 _ _ _ _ _ _ _ _ _
   | exact petrinetref08_common.mono _ _ _
   | exact petrinetref08_plus.mono _ _ _
   | exact petrinetref08_primitive.mono _ _
   | exact petrinetref08_times.mono _ _ _
   | exact LeO.none _
   | refine LeO.ite ?_ ?_
   | refine LeO.bind ?_ (fun _ => ?_)
set_option maxHeartbeats 8000000 in
set_option maxRecDepth 100000 in
theorem petrinetref08_clear.calls (k : Nat) (A0 : Option Addr) (c0 : Nat) (l0 : List Int) (A1 : Option Addr) (c1 : Nat) (l1 : List Int) (a2 : Int) (r1 : List Int) (r2 : Bool) (w : World) (hr0 : Kd.C (Kd.int .i64) w A0 l0.length l0) (hc0 : l0.length ≤ c0) (hr1 : Kd.C (Kd.int .i64) w A1 l1.length l1) (hc1 : l1.length ≤ c1) (h : petrinetref08_clear.f k l0 l1 a2 = some (r1, r2)) :
  Calls Try.prog 34 #[.slice A0 l0.length c0, .slice A1 l1.length c1, .int .i64 a2] w fun e w' => ∃ v0_ : Value, e = .returned (.tuple #[v0_, .bool r2]) ∧ Kd.R (Kd.int .i64) 2 w' w.heap.size (fun _ => True) v0_ r1 ∧ Below w.heap.size w w' := by
 have HR0 := Aside0.mk hr0
 have HC0 := Aside0.mk hc0
 clear hr0 hc0
 have HR1 := Aside0.mk hr1
 have HC1 := Aside0.mk hc1
 clear hr1 hc1
 have HB := Aside0.mk (Below.refl w.heap.size w)
 have H : (if 0 ≤ a2 then (if a2 < (l1.length : Int) then (if a2 < (l0.length : Int) then ((petrinetref08_common.f k (rd l1 a2) (rd l0 a2)).bind fun t309 => (if t309 = 0 then (none) else (petrinetref08_clear.l0 k l0 l1 (wrap64 (Int.tdiv (rd l1 a2) t309)) (wrap64 (Int.tdiv (rd l0 a2) t309)) ([] : List Int) 0))) else (none)) else (none)) else (none)) = some (r1, r2) := h
 clear h
 by_cases c4 : 0 ≤ a2
 ·
  rw [if_pos c4] at H; have c4b0 : decide (0 ≤ a2) = true := decide_eq_true c4; clear c4; by_cases c5 : a2 < (l1.length : Int)
  ·
   rw [if_pos c5] at H; have c5b0 : decide (a2 < (l1.length : Int)) = true := decide_eq_true c5; clear c5; by_cases c6 : a2 < (l0.length : Int)
   ·
    rw [if_pos c6] at H; have c6b0 : decide (a2 < (l0.length : Int)) = true := decide_eq_true c6; clear c6; replace H := Option.bind_eq_some_iff.mp H; obtain ⟨t309, A70, H⟩ := H; replace H : (if t309 = 0 then (none) else (petrinetref08_clear.l0 k l0 l1 (wrap64 (Int.tdiv (rd l1 a2) t309)) (wrap64 (Int.tdiv (rd l0 a2) t309)) ([] : List Int) 0)) = some (r1, r2) := H; have A7 := Aside0.mk A70; clear A70; by_cases c8 : t309 = 0
    ·
     rw [if_pos c8] at H; (exact absurd H (by simp))
    ·
     rw [if_neg c8] at H; have c8b0 : (t309 == 0) = false := beq_eq_false_iff_ne.mpr c8; have c8b1 : (t309 != 0) = true := bne_iff_ne.mpr c8; have H' := Aside0.mk H; clear H; (have p307 : 0 ≤ (a2 : Int) := of_decide_eq_true (by first | (with_reducible assumption) | assumption)); (have q307 : a2 < (l1.length : Int) := of_decide_eq_true (by first | (with_reducible assumption) | assumption)); obtain ⟨ad307, e307, hx307_0⟩ := Kd.at_int HR1.out a2 p307 q307
     cases e307
     replace p307 := eq_true p307; replace q307 := eq_true q307; (have p308 : 0 ≤ (a2 : Int) := of_decide_eq_true (by first | (with_reducible assumption) | assumption)); (have q308 : a2 < (l0.length : Int) := of_decide_eq_true (by first | (with_reducible assumption) | assumption)); obtain ⟨ad308, e308, hx308_0⟩ := Kd.at_int HR0.out a2 p308 q308
     cases e308
     replace p308 := eq_true p308; replace q308 := eq_true q308
     go_enter Try.func34, Try.ntmps34
     go_wp2_with (first | (go_at_call 31; (with_reducible refine (petrinetref08_common.calls k (rd l1 a2) (rd l0 a2) t309 _ A7.out).mono ?_); rintro e w' ⟨rfl, ⟨nd, rfl⟩⟩; (try first | exact ⟨rfl, _, World.drewN_drewN _ _ _⟩ | exact ⟨rfl, _, Eq.trans (World.drewN_drewN _ _ _) (congrArg (World.drewN _) (Nat.add_assoc _ _ _))⟩); have p310 : 0 ≤ (a2 : Int) := of_decide_eq_true (by first | (with_reducible assumption) | assumption); have q310 : a2 < (l1.length : Int) := of_decide_eq_true (by first | (with_reducible assumption) | assumption); obtain ⟨ad310, e310, hx310_0⟩ := Kd.at_int HR1.out a2 p310 q310; obtain rfl : ad307 = ad310 := (by injection e310); replace p310 := eq_true p310; replace q310 := eq_true q310; have p311 : 0 ≤ (a2 : Int) := of_decide_eq_true (by first | (with_reducible assumption) | assumption); have q311 : a2 < (l0.length : Int) := of_decide_eq_true (by first | (with_reducible assumption) | assumption); obtain ⟨ad311, e311, hx311_0⟩ := Kd.at_int HR0.out a2 p311 q311; obtain rfl : ad308 = ad311 := (by injection e311); replace p311 := eq_true p311; replace q311 := eq_true q311))
     repeat (go_quiet (first | (go_at_call 31; (with_reducible refine (petrinetref08_common.calls k (rd l1 a2) (rd l0 a2) t309 _ A7.out).mono ?_); rintro e w' ⟨rfl, ⟨nd, rfl⟩⟩; (try first | exact ⟨rfl, _, World.drewN_drewN _ _ _⟩ | exact ⟨rfl, _, Eq.trans (World.drewN_drewN _ _ _) (congrArg (World.drewN _) (Nat.add_assoc _ _ _))⟩); have p310 : 0 ≤ (a2 : Int) := of_decide_eq_true (by first | (with_reducible assumption) | assumption); have q310 : a2 < (l1.length : Int) := of_decide_eq_true (by first | (with_reducible assumption) | assumption); obtain ⟨ad310, e310, hx310_0⟩ := Kd.at_int HR1.out a2 p310 q310; obtain rfl : ad307 = ad310 := (by injection e310); replace p310 := eq_true p310; replace q310 := eq_true q310; have p311 : 0 ≤ (a2 : Int) := of_decide_eq_true (by first | (with_reducible assumption) | assumption); have q311 : a2 < (l0.length : Int) := of_decide_eq_true (by first | (with_reducible assumption) | assumption); obtain ⟨ad311, e311, hx311_0⟩ := Kd.at_int HR0.out a2 p311 q311; obtain rfl : ad308 = ad311 := (by injection e311); replace p311 := eq_true p311; replace q311 := eq_true q311)); try go_wp2_with (first | (go_at_call 31; (with_reducible refine (petrinetref08_common.calls k (rd l1 a2) (rd l0 a2) t309 _ A7.out).mono ?_); rintro e w' ⟨rfl, ⟨nd, rfl⟩⟩; (try first | exact ⟨rfl, _, World.drewN_drewN _ _ _⟩ | exact ⟨rfl, _, Eq.trans (World.drewN_drewN _ _ _) (congrArg (World.drewN _) (Nat.add_assoc _ _ _))⟩); have p310 : 0 ≤ (a2 : Int) := of_decide_eq_true (by first | (with_reducible assumption) | assumption); have q310 : a2 < (l1.length : Int) := of_decide_eq_true (by first | (with_reducible assumption) | assumption); obtain ⟨ad310, e310, hx310_0⟩ := Kd.at_int HR1.out a2 p310 q310; obtain rfl : ad307 = ad310 := (by injection e310); replace p310 := eq_true p310; replace q310 := eq_true q310; have p311 : 0 ≤ (a2 : Int) := of_decide_eq_true (by first | (with_reducible assumption) | assumption); have q311 : a2 < (l0.length : Int) := of_decide_eq_true (by first | (with_reducible assumption) | assumption); obtain ⟨ad311, e311, hx311_0⟩ := Kd.at_int HR0.out a2 p311 q311; obtain rfl : ad308 = ad311 := (by injection e311); replace p311 := eq_true p311; replace q311 := eq_true q311)))
     go_loopg [11, 12] k (fun kq v11 v12 w' => ∃ (x11_1 : List Int) (x12_1 : Int), v12 = .int .i64 x12_1 ∧ Aside0 (petrinetref08_clear.l0 kq l0 l1 (wrap64 (Int.tdiv (rd l1 a2) t309)) (wrap64 (Int.tdiv (rd l0 a2) t309)) x11_1 x12_1 = some (r1, r2)) ∧ Aside0 (kq ≤ k) ∧ Aside0 (Kd.R (Kd.int .i64) 2 w' w.heap.size (fun _ => True) v11 x11_1) ∧ Aside0 (Below w.heap.size w w'))
     case atStart => exact ⟨(([] : List Int)), (0), (by first | rfl | (simp; done) | (simp [*]; done)), H', ⟨Nat.le_refl _⟩, ⟨by first | exact Kd.R_nil _ _ _ _ _ | exact Kd.N_nil _ _ _ _ _ | exact Kd.V_nil _ _ _ _ _ | exact Kd.Q_nil _ _ _ _ _ | exact Kd.S_nil _ _ _ _ _⟩, ⟨by repeat (first | (with_reducible first | exact HB.out | apply below_alloc | apply pw_below_drewN | apply below_drew1) | exact HB.out)⟩⟩
     case round =>
      clear H'; (try clear c1); (try clear p2); (try clear c3); (try clear p3); (try clear q3); (try clear hx3); (try clear c4); (try clear c4b0); (try clear c5); (try clear c5b0); (try clear c6); (try clear c6b0); (try clear p6); (try clear c8); (try clear c8b0); (try clear c8b1); (try clear hx307_0); (try clear hx308_0); (try clear hx310_0); (try clear hx311_0); (try clear p307); (try clear p308); (try clear p310); (try clear p311); (try clear q307); (try clear q308); (try clear q310); (try clear q311); obtain ⟨x11_1, x12_1, rfl, HA, HK1, HO_11, HB⟩ := hrel
      cases gk with
      | zero => exact absurd HA.out (by simp [petrinetref08_clear.l0])
      | succ k1 =>
       have H := HA.out; clear HA; simp only [petrinetref08_clear.l0] at H; by_cases c9 : x12_1 < (l0.length : Int)
       ·
        rw [if_pos c9] at H; have c9b0 : decide (x12_1 < (l0.length : Int)) = true := decide_eq_true c9; clear c9; by_cases c10 : 0 ≤ x12_1
        ·
         rw [if_pos c10] at H; have c10b0 : decide (0 ≤ x12_1) = true := decide_eq_true c10; clear c10; replace H := Option.bind_eq_some_iff.mp H; obtain ⟨⟨t317, t318⟩, A110, H⟩ := H; (replace H : (if x12_1 < (l1.length : Int) then ((petrinetref08_times.f k1 (wrap64 (Int.tdiv (rd l0 a2) t309)) (rd l1 x12_1)).bind fun bt320 => (if t318 = true then (if bt320.2 = true then (petrinetref08_clear.j1 k1 l0 l1 (wrap64 (Int.tdiv (rd l1 a2) t309)) (wrap64 (Int.tdiv (rd l0 a2) t309)) x11_1 x12_1 t317 bt320.1 (bt320.1 == (-9223372036854775808))) else (petrinetref08_clear.j1 k1 l0 l1 (wrap64 (Int.tdiv (rd l1 a2) t309)) (wrap64 (Int.tdiv (rd l0 a2) t309)) x11_1 x12_1 t317 bt320.1 true)) else (petrinetref08_clear.j1 k1 l0 l1 (wrap64 (Int.tdiv (rd l1 a2) t309)) (wrap64 (Int.tdiv (rd l0 a2) t309)) x11_1 x12_1 t317 bt320.1 true))) else (none)) = some (r1, r2) := H); have A11 := Aside0.mk A110; clear A110; by_cases c12 : x12_1 < (l1.length : Int)
         ·
          rw [if_pos c12] at H; have c12b0 : decide (x12_1 < (l1.length : Int)) = true := decide_eq_true c12; clear c12; replace H := Option.bind_eq_some_iff.mp H; obtain ⟨⟨t320, t321⟩, A130, H⟩ := H; replace H : (if t318 = true then (if t321 = true then (petrinetref08_clear.j1 k1 l0 l1 (wrap64 (Int.tdiv (rd l1 a2) t309)) (wrap64 (Int.tdiv (rd l0 a2) t309)) x11_1 x12_1 t317 t320 (t320 == (-9223372036854775808))) else (petrinetref08_clear.j1 k1 l0 l1 (wrap64 (Int.tdiv (rd l1 a2) t309)) (wrap64 (Int.tdiv (rd l0 a2) t309)) x11_1 x12_1 t317 t320 true)) else (petrinetref08_clear.j1 k1 l0 l1 (wrap64 (Int.tdiv (rd l1 a2) t309)) (wrap64 (Int.tdiv (rd l0 a2) t309)) x11_1 x12_1 t317 t320 true)) = some (r1, r2) := H; have A13 := Aside0.mk A130; clear A130; have HC14 := Aside0.mk H; clear H; (have p316 : 0 ≤ (x12_1 : Int) := of_decide_eq_true (by first | (with_reducible assumption) | assumption)); (have q316 : x12_1 < (l0.length : Int) := of_decide_eq_true (by first | (with_reducible assumption) | assumption)); obtain ⟨ad316, e316, hx316_0⟩ := Kd.at_int HR0.out x12_1 p316 q316; (obtain rfl : ad308 = ad316 := (by injection e316)); replace hx316_0 := (HB.out.cell (World.block_lt_of_cell? w _ hx316_0)).trans hx316_0; replace p316 := eq_true p316; replace q316 := eq_true q316; (go_upto_region 9 with (first | (go_at_call 32; (with_reducible refine (petrinetref08_times.calls k1 (wrap64 (Int.tdiv (rd l1 a2) t309)) (rd l0 x12_1) t317 t318 _ A11.out).mono ?_); rintro e w' ⟨rfl, ⟨nd, rfl⟩⟩; (try first | exact ⟨rfl, _, World.drewN_drewN _ _ _⟩ | exact ⟨rfl, _, Eq.trans (World.drewN_drewN _ _ _) (congrArg (World.drewN _) (Nat.add_assoc _ _ _))⟩); have p319 : 0 ≤ (x12_1 : Int) := of_decide_eq_true (by first | (with_reducible assumption) | assumption); have q319 : x12_1 < (l1.length : Int) := of_decide_eq_true (by first | (with_reducible assumption) | assumption); obtain ⟨ad319, e319, hx319_0⟩ := Kd.at_int HR1.out x12_1 p319 q319; obtain rfl : ad307 = ad319 := (by injection e319); replace hx319_0 := (HB.out.cell (World.block_lt_of_cell? w _ hx319_0)).trans hx319_0; replace p319 := eq_true p319; replace q319 := eq_true q319) | (go_at_call 32; (with_reducible refine (petrinetref08_times.calls k1 (wrap64 (Int.tdiv (rd l0 a2) t309)) (rd l1 x12_1) t320 t321 _ A13.out).mono ?_); rintro e w' ⟨rfl, ⟨nd, rfl⟩⟩; (try first | exact ⟨rfl, _, World.drewN_drewN _ _ _⟩ | exact ⟨rfl, _, Eq.trans (World.drewN_drewN _ _ _) (congrArg (World.drewN _) (Nat.add_assoc _ _ _))⟩)))); (try simp only [Act.put, List.setIfInBounds_toArray, List.set_cons_zero, List.set_cons_succ]); (go_cut [73] (fun v73 wc => ∃ (kq : Nat) (x73_13 : Bool), v73 = .bool x73_13 ∧ Aside0 (petrinetref08_clear.j1 kq l0 l1 (wrap64 (Int.tdiv (rd l1 a2) t309)) (wrap64 (Int.tdiv (rd l0 a2) t309)) x11_1 x12_1 t317 t320 x73_13 = some (r1, r2)) ∧ Aside0 (kq ≤ k1) ∧ Aside0 (Kd.R (Kd.int .i64) 2 wc w.heap.size (fun _ => True) u11 x11_1) ∧ Aside0 (Below w.heap.size w wc)))
          case first =>
           have H := HC14.out; clear HC14; by_cases c15 : t318 = true
           ·
            subst c15; (have H1 : (if t321 = true then (petrinetref08_clear.j1 k1 l0 l1 (wrap64 (Int.tdiv (rd l1 a2) t309)) (wrap64 (Int.tdiv (rd l0 a2) t309)) x11_1 x12_1 t317 t320 (t320 == (-9223372036854775808))) else (petrinetref08_clear.j1 k1 l0 l1 (wrap64 (Int.tdiv (rd l1 a2) t309)) (wrap64 (Int.tdiv (rd l0 a2) t309)) x11_1 x12_1 t317 t320 true)) = some (r1, r2) := by rw [if_pos rfl] at H; exact H); clear H; have H := H1; clear H1; by_cases c16 : t321 = true
            ·
             subst c16; (have H1 : (petrinetref08_clear.j1 k1 l0 l1 (wrap64 (Int.tdiv (rd l1 a2) t309)) (wrap64 (Int.tdiv (rd l0 a2) t309)) x11_1 x12_1 t317 t320 (t320 == (-9223372036854775808))) = some (r1, r2) := by rw [if_pos rfl] at H; exact H); clear H; have H := H1; clear H1; have H' := Aside0.mk H; clear H; go_wp2; go_meet
             case rel => exact ⟨_, ((t320 == (-9223372036854775808))), (by first | rfl | (simp; done) | (simp [*]; done)), H', ⟨by have := HK1.out; first | omega | exact Nat.le_refl _⟩, ⟨by (with_reducible repeat (first | apply Kd.R_alloc | apply Kd.R_drewN | apply Kd.R_drew)); exact HO_11.out⟩, ⟨by repeat (first | (with_reducible first | exact HB.out | apply below_alloc | apply pw_below_drewN | apply below_drew1) | exact HB.out)⟩⟩
            ·
             replace c16 := Bool.eq_false_iff.mpr c16; subst c16; (have H1 : (petrinetref08_clear.j1 k1 l0 l1 (wrap64 (Int.tdiv (rd l1 a2) t309)) (wrap64 (Int.tdiv (rd l0 a2) t309)) x11_1 x12_1 t317 t320 true) = some (r1, r2) := by rw [if_neg (show ¬ (false = true) by decide)] at H; exact H); clear H; have H := H1; clear H1; have H' := Aside0.mk H; clear H; go_wp2; go_meet
             case rel => exact ⟨_, (true), (by first | rfl | (simp; done) | (simp [*]; done)), H', ⟨by have := HK1.out; first | omega | exact Nat.le_refl _⟩, ⟨by (with_reducible repeat (first | apply Kd.R_alloc | apply Kd.R_drewN | apply Kd.R_drew)); exact HO_11.out⟩, ⟨by repeat (first | (with_reducible first | exact HB.out | apply below_alloc | apply pw_below_drewN | apply below_drew1) | exact HB.out)⟩⟩
           ·
            replace c15 := Bool.eq_false_iff.mpr c15; subst c15; (have H1 : (petrinetref08_clear.j1 k1 l0 l1 (wrap64 (Int.tdiv (rd l1 a2) t309)) (wrap64 (Int.tdiv (rd l0 a2) t309)) x11_1 x12_1 t317 t320 true) = some (r1, r2) := by rw [if_neg (show ¬ (false = true) by decide)] at H; exact H); clear H; have H := H1; clear H1; have H' := Aside0.mk H; clear H; go_wp2; go_meet
            case rel => exact ⟨_, (true), (by first | rfl | (simp; done) | (simp [*]; done)), H', ⟨by have := HK1.out; first | omega | exact Nat.le_refl _⟩, ⟨by (with_reducible repeat (first | apply Kd.R_alloc | apply Kd.R_drewN | apply Kd.R_drew)); exact HO_11.out⟩, ⟨by repeat (first | (with_reducible first | exact HB.out | apply below_alloc | apply pw_below_drewN | apply below_drew1) | exact HB.out)⟩⟩
          case rest =>
           clear HC14; (try clear c1); (try clear p2); (try clear c3); (try clear p3); (try clear q3); (try clear hx3); (try clear c4); (try clear c4b0); (try clear c5); (try clear c5b0); (try clear c6); (try clear c6b0); (try clear p6); (try clear c8); (try clear c8b0); (try clear c8b1); (try clear c9); (try clear c9b0); (try clear c10); (try clear c10b0); (try clear c12); (try clear c12b0); (try clear c15); (try clear c16); (try clear hx307_0); (try clear hx308_0); (try clear hx310_0); (try clear hx311_0); (try clear hx316_0); (try clear hx319_0); (try clear p2); (try clear p3); (try clear p307); (try clear p308); (try clear p310); (try clear p311); (try clear p316); (try clear p319); (try clear p6); (try clear q3); (try clear q307); (try clear q308); (try clear q310); (try clear q311); (try clear q316); (try clear q319); obtain ⟨kq, x73_13, rfl, HA, HJ13, HO_11, HB⟩ := hcut
           cases kq with
           | zero => exact absurd HA.out (by simp [petrinetref08_clear.j1])
           | succ kj13 =>
            have H := HA.out; clear HA; simp only [petrinetref08_clear.j1] at H; by_cases c17 : x73_13 = true
            ·
             subst c17; (have H1 : (some (([] : List Int), false)) = some (r1, r2) := by rw [if_pos rfl] at H; exact H); clear H; have H := H1; clear H1; simp only [Option.some.injEq, Prod.mk.injEq] at H; obtain ⟨rfl, rfl⟩ := H; go_wp2; go_ret2; (exact ⟨_, by first | rfl | (simp [errW_none, errW_some] <;> rfl) | (simp [*, errW_none, errW_some] <;> rfl), by first | exact Kd.R_nil _ _ _ _ _ | exact Kd.N_nil _ _ _ _ _ | exact Kd.V_nil _ _ _ _ _ | exact Kd.Q_nil _ _ _ _ _ | exact Kd.S_nil _ _ _ _ _, by repeat (first | (with_reducible first | exact HB.out | apply below_alloc | apply pw_below_drewN | apply below_drew1) | exact HB.out)⟩)
            ·
             replace c17 := Bool.eq_false_iff.mpr c17; subst c17; (have H1 : ((petrinetref08_plus.f kj13 t317 (wrap64 (-t320))).bind fun bt322 => (if bt322.2 = true then (if x11_1.length < 17592186044416 then (petrinetref08_clear.l0 kj13 l0 l1 (wrap64 (Int.tdiv (rd l1 a2) t309)) (wrap64 (Int.tdiv (rd l0 a2) t309)) (x11_1 ++ [bt322.1]) (wrap64 (x12_1 + 1))) else (none)) else (some (([] : List Int), false)))) = some (r1, r2) := by rw [if_neg (show ¬ (false = true) by decide)] at H; exact H); clear H; have H := H1; clear H1; replace H := Option.bind_eq_some_iff.mp H; obtain ⟨⟨t322, t323⟩, A180, H⟩ := H; replace H : (if t323 = true then (if x11_1.length < 17592186044416 then (petrinetref08_clear.l0 kj13 l0 l1 (wrap64 (Int.tdiv (rd l1 a2) t309)) (wrap64 (Int.tdiv (rd l0 a2) t309)) (x11_1 ++ [t322]) (wrap64 (x12_1 + 1))) else (none)) else (some (([] : List Int), false))) = some (r1, r2) := H; have A18 := Aside0.mk A180; clear A180; by_cases c19 : t323 = true
             ·
              subst c19; (have H1 : (if x11_1.length < 17592186044416 then (petrinetref08_clear.l0 kj13 l0 l1 (wrap64 (Int.tdiv (rd l1 a2) t309)) (wrap64 (Int.tdiv (rd l0 a2) t309)) (x11_1 ++ [t322]) (wrap64 (x12_1 + 1))) else (none)) = some (r1, r2) := by rw [if_pos rfl] at H; exact H); clear H; have H := H1; clear H1; by_cases c20 : x11_1.length < 17592186044416
              ·
               rw [if_pos c20] at H; have LMc20 := Aside0.mk c20; clear c20; obtain ⟨y324, hy324⟩ : ∃ y_ : List Int, y_ = (x11_1 ++ [t322]) := ⟨_, rfl⟩; (replace H : (petrinetref08_clear.l0 kj13 l0 l1 (wrap64 (Int.tdiv (rd l1 a2) t309)) (wrap64 (Int.tdiv (rd l0 a2) t309)) y324 (wrap64 (x12_1 + 1))) = some (r1, r2) := by first | (rw [hy324]; with_reducible exact H) | (have H2_ := (Option.bind_some _ _).symm.trans H; rw [hy324]; with_reducible exact H2_) | (have H2_ := (Option.bind_some _ _).symm.trans H; with_reducible exact H2_) | with_reducible exact H | (rw [hy324]; exact H) | exact H); have Ny324 := Aside0.mk hy324; clear hy324; have H' := Aside0.mk H; clear H; (go_wp2_with (first | (go_at_call 44; (with_reducible refine (petrinetref08_plus.calls kj13 t317 (wrap64 (-t320)) t322 true _ A18.out).mono ?_); rintro e w' ⟨rfl, ⟨nd, rfl⟩⟩; (try first | exact ⟨rfl, _, World.drewN_drewN _ _ _⟩ | exact ⟨rfl, _, Eq.trans (World.drewN_drewN _ _ _) (congrArg (World.drewN _) (Nat.add_assoc _ _ _))⟩)) | ((with_reducible refine gate_builtin (b := .append) (xs := #[.tmp 83, .tmp 85]) rfl ?_); at_builtin; refine Kd.R_append (Kd.int .i64) (w0 := w) w.heap.size rfl (.tmp 83) (.tmp 85) 33 2 (.int .i64 0) 8 rfl Try.underlying33 info2 rfl (by decide) (by omega) u11 x11_1 t322 [.int .i64 t322] (fun _ => True) (fun _ => False) rfl rfl ?aP (fun _ hk => hk.elim) ?aF ?aO ?aB ?aS ?aL ?_; (case aP => exact rfl); (case aB => exact (by repeat (first | (with_reducible first | exact HB.out | apply below_alloc | apply pw_below_drewN | apply below_drew1) | exact HB.out))); (case aF => exact (fun _ _ => trivial)); (case aO => exact (by (with_reducible repeat (first | apply Kd.R_alloc | apply Kd.R_drewN | apply Kd.R_drew)); exact HO_11.out)); (case aS => exact (below_size (by repeat (first | (with_reducible first | exact HB.out | apply below_alloc | apply pw_below_drewN | apply below_drew1) | exact HB.out)))); (case aL => have := LMc20.out; omega); intro v325 w21 ho hb hg hat; rw [← Ny324.out] at ho; have n0_ := Aside0.mk (hb); have n1_ := Aside0.mk (ho); clear HB; clear HO_11; have HB := n0_; have HO326 := n1_; clear n0_ n1_; clear ho hb hg hat))); go_roundg kj13
               case measure => have := HK1.out; have := HJ13.out; omega
               case rel => exact ⟨(y324), (wrap64 (x12_1 + 1)), (by first | rfl | (simp; done) | (simp [*]; done)), H', ⟨by have := HK1.out; have := HJ13.out; omega⟩, ⟨by (with_reducible repeat (first | apply Kd.R_alloc | apply Kd.R_drewN | apply Kd.R_drew)); exact HO326.out⟩, ⟨by repeat (first | (with_reducible first | exact HB.out | apply below_alloc | apply pw_below_drewN | apply below_drew1) | exact HB.out)⟩⟩
              ·
               rw [if_neg c20] at H; (exact absurd H (by simp))
             ·
              replace c19 := Bool.eq_false_iff.mpr c19; subst c19; (have H1 : (some (([] : List Int), false)) = some (r1, r2) := by rw [if_neg (show ¬ (false = true) by decide)] at H; exact H); clear H; have H := H1; clear H1; simp only [Option.some.injEq, Prod.mk.injEq] at H; obtain ⟨rfl, rfl⟩ := H; (go_wp2_with (first | (go_at_call 44; (with_reducible refine (petrinetref08_plus.calls kj13 t317 (wrap64 (-t320)) t322 false _ A18.out).mono ?_); rintro e w' ⟨rfl, ⟨nd, rfl⟩⟩; (try first | exact ⟨rfl, _, World.drewN_drewN _ _ _⟩ | exact ⟨rfl, _, Eq.trans (World.drewN_drewN _ _ _) (congrArg (World.drewN _) (Nat.add_assoc _ _ _))⟩)))); go_ret2; (exact ⟨_, by first | rfl | (simp [errW_none, errW_some] <;> rfl) | (simp [*, errW_none, errW_some] <;> rfl), by first | exact Kd.R_nil _ _ _ _ _ | exact Kd.N_nil _ _ _ _ _ | exact Kd.V_nil _ _ _ _ _ | exact Kd.Q_nil _ _ _ _ _ | exact Kd.S_nil _ _ _ _ _, by repeat (first | (with_reducible first | exact HB.out | apply below_alloc | apply pw_below_drewN | apply below_drew1) | exact HB.out)⟩)
         ·
          rw [if_neg c12] at H; (exact absurd H (by simp))
        ·
         rw [if_neg c10] at H; (exact absurd H (by simp))
       ·
        rw [if_neg c9] at H; have c9b0 : decide (x12_1 < (l0.length : Int)) = false := decide_eq_false c9; clear c9; replace H := Option.bind_eq_some_iff.mp H; obtain ⟨⟨t312, t313⟩, A220, H⟩ := H; replace H : (some (t312, t313)) = some (r1, r2) := H; have A22 := Aside0.mk A220; clear A220; simp only [Option.some.injEq, Prod.mk.injEq] at H; obtain ⟨rfl, rfl⟩ := H; obtain ⟨Ao23, co23, eo23⟩ := Kd.R_slice HO_11.out; subst eo23; (go_wp2_with (first | (go_at_call 33; (with_reducible refine (petrinetref08_primitive.calls k1 _ _ x11_1 t312 t313 _ ?side1 ?side2 A22.out).mono ?_); (case side1 => repeat (first | exact (Kd.R_reads' HO_11.out).2.2 | (with_reducible refine Kd.C_alloc ?_ _) | (with_reducible refine Kd.C_drewN ?_ _) | (with_reducible refine Kd.C_drew ?_))); (case side2 => exact (Kd.R_reads' HO_11.out).2.1); rintro e w24 ⟨v314, rfl, ho0, hb⟩; have n0_ := Aside0.mk (Kd.R_elder' (by (with_reducible repeat (first | apply Kd.R_alloc | apply Kd.R_drewN | apply Kd.R_drew)); exact HO_11.out) (Kd.R_base ho0) hb); have n1_ := Aside0.mk (Kd.R_lower (Kd.R_new' ho0 (Kd.R_lt (by (with_reducible repeat (first | apply Kd.R_alloc | apply Kd.R_drewN | apply Kd.R_drew)); exact HO_11.out))) (below_size (by repeat (first | (with_reducible first | exact HB.out | apply below_alloc | apply pw_below_drewN | apply below_drew1) | exact HB.out)))); have n2_ := Aside0.mk (below_step (by repeat (first | (with_reducible first | exact HB.out | apply below_alloc | apply pw_below_drewN | apply below_drew1) | exact HB.out)) hb); clear HO_11; clear HB; have HO_11 := n0_; have HO315 := n1_; have HB := n2_; clear n0_ n1_ n2_; (try clear hb); (try clear hb2); (try clear hk); (try clear hi); (try clear ho0)))); go_ret2; (exact ⟨_, by first | rfl | (simp [errW_none, errW_some] <;> rfl) | (simp [*, errW_none, errW_some] <;> rfl), by (with_reducible repeat (first | apply Kd.R_alloc | apply Kd.R_drewN | apply Kd.R_drew)); exact Kd.R_mono HO315.out (fun _ hk => trivial), by repeat (first | (with_reducible first | exact HB.out | apply below_alloc | apply pw_below_drewN | apply below_drew1) | exact HB.out)⟩)
   ·
    rw [if_neg c6] at H; (exact absurd H (by simp))
  ·
   rw [if_neg c5] at H; (exact absurd H (by simp))
 ·
  rw [if_neg c4] at H; (exact absurd H (by simp))

end Go.Proofs.Ytckefohfahphpaa.Z
end
section
namespace Go.Proofs.Ytckefohfahphpaa.Z
open Go.RowKit Go.Proofs.YtckefohfahphpaaW.PrintWords Go.Proofs.YtckefohfahphpaaW.PrintLast Go.Proofs.YtckefohfahphpaaW.PrintMore
set_option linter.unusedVariables false
set_option linter.unusedSimpArgs false
/-- What the reference's clearing of a row leaves. -/
structure Clr2 (n c : Nat) (u v w : List Int) : Prop where
 ok : nlr n w
 nm : nrm w
 lin : ∃ a b g : Int, a ≠ 0 ∧ g ≠ 0 ∧ ∀ x, g * vec w x = a * vec u x + b * vec v x
 zr : vec w c = 0
 pr : Prm (vec w) ∨ ∀ x, vec w x = 0
theorem rclr_l0 {n Bk : Nat} (hB : 9223372036854775808 ≤ Bk) {u v : List Int} {p q : Int} (hn : n ≤ 64) (hu : nlr n u) (hv : nlr n v) (hp : in64 p) (hq : in64 q) {W : List Int} (hW : W = List.zipWith (fun a b => p * a + -(q * b)) u v) : ∀ (d i k : Nat), i + d = n → Bk + 500 + 3 * d ≤ k → (∀ z ∈ W.take i, in64 z) →
  ∃ s b, petrinetref08_clear.l0 k u v p q (W.take i) (i : Int) = some (s, b) ∧ (b = true → (∀ z ∈ W, in64 z) ∧ ∃ k', Bk + 300 ≤ k' ∧ petrinetref08_primitive.f k' W = some (s, true)) := by
 have hul := hu.1
 have hvl := hv.1
 have hWl : W.length = n := by rw [hW]; simp; omega
 intro d
 induction d with
 | zero =>
  intro i k hi hk hz
  obtain ⟨k, rfl⟩ : ∃ m, k = m + 1 := ⟨k - 1, by omega⟩
  rw [petrinetref08_clear.l0, if_neg (by omega)]
  rw [List.take_of_length_le (by omega)] at hz ⊢
  rcases rprm_spec (k := k) (n := n) (l := W) ⟨hWl, hz⟩ hn (by omega) with ⟨s, h⟩ | ⟨s, h, _⟩
  ·
   rw [h]; exact ⟨s, false, rfl, by simp⟩
  ·
   rw [h]; exact ⟨s, true, rfl, fun _ => ⟨hz, k, by omega, h⟩⟩
 | succ d ih =>
  intro i k hi hk hz
  have hk2 : 2 ≤ k := by omega
  obtain ⟨k, rfl⟩ : ∃ m, k = m + 2 := ⟨k - 2, by omega⟩
  have hk1 : 1000 ≤ k := by omega
  have hkd : Bk + 500 + 3 * d ≤ k := by omega
  have hil : i < n := by omega
  have hid : i + 1 + d = n := by omega
  have hk3 : 3 ≤ k + 1 := Nat.le_trans (by decide) (Nat.le_succ_of_le hk1)
  have hk4 : 2 ≤ k := Nat.le_trans (by decide) hk1
  clear hk hk1 hk2 hi
  have t1 : (i : Int) < (u.length : Int) := by rw [hul]; exact Int.ofNat_lt.mpr hil
  have t2 : (0 : Int) ≤ (i : Int) := Int.natCast_nonneg i
  have t3 : (i : Int) < (v.length : Int) := by rw [hvl]; exact Int.ofNat_lt.mpr hil
  have t4 : i < W.length := by rw [hWl]; exact hil
  have t5 : (W.take i).length < 17592186044416 := by rw [List.length_take]; omega
  have t6 : u.length = v.length := by rw [hul, hvl]
  have e1 : rd u (i : Int) = vec u i := rfl
  have e2 : rd v (i : Int) = vec v i := rfl
  have e3 : wrap64 ((i : Int) + 1) = ((i + 1 : Nat) : Int) := by rw [wrap64_small (by omega) (by omega)]; omega
  obtain ⟨x, hx1, hx2⟩ := rtimes_eq (k := k + 1) hp (nlr_in hu i).in64 hk3
  obtain ⟨y, hy1, hy2⟩ := rtimes_eq (k := k + 1) hq (nlr_in hv i).in64 hk3
  rw [petrinetref08_clear.l0, if_pos t1, if_pos t2, e1, hx1]
  simp only [Option.bind_some]
  rw [if_pos t3, e2, hy1]
  simp only [Option.bind_some]
  have fail : ∃ s b, petrinetref08_clear.j1 (k + 1) u v p q (W.take i) (i : Int) x y true = some (s, b) ∧ (b = true → (∀ z ∈ W, in64 z) ∧ ∃ k', Bk + 300 ≤ k' ∧ petrinetref08_primitive.f k' W = some (s, true)) := by
   rw [petrinetref08_clear.j1, if_pos rfl]
   exact ⟨[], false, rfl, by simp⟩
  by_cases h1 : in64 (p * vec u i)
  ·
   rw [decide_eq_true h1, if_pos rfl]
   by_cases h2 : in64 (q * vec v i)
   ·
    rw [decide_eq_true h2, if_pos rfl]
    have hx := hx2 h1
    have hy := hy2 h2
    by_cases h3 : y = -9223372036854775808
    ·
     rw [show (y == -9223372036854775808) = true by simp [h3]]
     exact fail
    ·
     rw [show (y == -9223372036854775808) = false by simp [h3], petrinetref08_clear.j1, if_neg (by decide)]
     obtain ⟨y1, y2⟩ := h2
     have hny : in64 (-y) := ⟨by omega, by omega⟩
     rw [wrap64_id hny]
     obtain ⟨z, hz1, hz2⟩ := rplus_eq (k := k) (hx ▸ h1) hny hk4
     rw [hz1]
     simp only [Option.bind_some]
     by_cases h4 : in64 (x + -y)
     ·
      rw [decide_eq_true h4, if_pos rfl, if_pos t5, hz2 h4, e3]
      have hWi : W.take i ++ [x + -y] = W.take (i + 1) := by
       rw [List.take_succ_eq_append_getElem t4, ← vec_get t4, hW, vec_zip (by simp) t6, hx, hy]
      rw [hWi]
      refine ih (i + 1) k hid hkd fun z hz' => ?_
      rw [← hWi] at hz'
      rcases List.mem_append.mp hz' with h | h
      ·
       exact hz z h
      ·
       simp at h; rw [h]; exact h4
     ·
      rw [decide_eq_false h4, if_neg (by decide)]
      exact ⟨[], false, rfl, by simp⟩
   ·
    rw [decide_eq_false h2, if_neg (by decide)]
    exact fail
  ·
   rw [decide_eq_false h1, if_neg (by decide)]
   exact fail
theorem rclr_spec {k n c : Nat} {u v : List Int} (hn : n ≤ 64) (hu : nlr n u) (hv : nlr n v) (hc : c < n) (hvc : vec v c ≠ 0) (hk : 9223372036854775808 + 1000 ≤ k) :
  ∃ s b, petrinetref08_clear.f k u v (c : Int) = some (s, b) ∧ (b = true → Clr2 n c u v s) := by
 have hul := hu.1
 have hvl := hv.1
 unfold petrinetref08_clear.f
 have e1 : rd u (c : Int) = vec u c := rfl
 have e2 : rd v (c : Int) = vec v c := rfl
 have n1 := nlr_in hv c
 have n2 := nlr_in hu c
 rw [if_pos (by omega), if_pos (by omega), if_pos (by omega), e1, e2, rcommon_eq n1 n2 (by omega)]
 simp only [Option.bind_some]
 obtain ⟨g, hg⟩ : ∃ g : Int, g = (Int.gcd (vec v c) (vec u c) : Int) := ⟨_, rfl⟩
 have hg0 : 0 < g := by
  have := Int.gcd_pos_of_ne_zero_left (vec u c) hvc
  omega
 have hp1 : g * Int.tdiv (vec v c) g = vec v c := Int.mul_tdiv_cancel' (hg ▸ Int.gcd_dvd_left ..)
 have hq1 : g * Int.tdiv (vec u c) g = vec u c := Int.mul_tdiv_cancel' (hg ▸ Int.gcd_dvd_right ..)
 rw [← hg, if_neg (by omega)]
 have t1 := tdiv_abs (vec v c) g
 have t2 := tdiv_abs (vec u c) g
 obtain ⟨p, hp⟩ : ∃ p, p = Int.tdiv (vec v c) g := ⟨_, rfl⟩
 obtain ⟨q, hq⟩ : ∃ p, p = Int.tdiv (vec u c) g := ⟨_, rfl⟩
 rw [← hp] at hp1 t1 ⊢
 rw [← hq] at hq1 t2 ⊢
 obtain ⟨a1, a2⟩ := n1
 obtain ⟨b1, b2⟩ := n2
 have hpi : in64 p := ⟨by omega, by omega⟩
 have hqi : in64 q := ⟨by omega, by omega⟩
 rw [wrap64_id hpi, wrap64_id hqi]
 obtain ⟨s, b, h1, h2⟩ := rclr_l0 (Bk := 9223372036854775808) (Nat.le_refl _) hn hu hv hpi hqi rfl n 0 k (by omega) (by omega) (by simp)
 refine ⟨s, b, h1, fun hb => ?_⟩
 obtain ⟨h3, k', h4, h5⟩ := h2 hb
 have hWv : ∀ x, vec (List.zipWith (fun a b => p * a + -(q * b)) u v) x = p * vec u x + -(q * vec v x) := fun x => vec_zip (op := fun a b => p * a + -(q * b)) (by simp) (by omega) x
 have hWl : (List.zipWith (fun a b => p * a + -(q * b)) u v).length = n := by simp; omega
 generalize List.zipWith (fun a b => p * a + -(q * b)) u v = W at *
 have hpne : p ≠ 0 := by intro h; rw [h] at hp1; simp at hp1; exact hvc hp1.symm
 rcases rprm_spec (k := k') ⟨hWl, h3⟩ hn h4 with ⟨s', h⟩ | ⟨s', h, r1, r2, σ, g', r3, r4, r5, r6⟩
 ·
  rw [h5] at h
  simp at h
 ·
  rw [h5] at h
  obtain rfl : s = s' := by simpa using h
  refine ⟨r1, r2, ⟨σ * p, -(σ * q), g', Int.mul_ne_zero r3 hpne, by omega, fun x => ?_⟩, ?_, ?_⟩
  ·
   rw [← r5, hWv]
   grind
  ·
   have h6 := r5 c
   have h7 : p * vec u c + -(q * vec v c) = 0 := by
    rw [← hp1, ← hq1]
    grind
   rw [hWv, h7, Int.mul_zero] at h6
   exact (Int.mul_eq_zero.mp h6.symm).resolve_left (by omega)
  ·
   rcases r6 with r6 | r6
   ·
    refine .inr fun x => ?_
    have := r5 x
    rw [r6 x, Int.mul_zero] at this
    exact (Int.mul_eq_zero.mp this.symm).resolve_left (by omega)
   ·
    exact .inl r6
end Go.Proofs.Ytckefohfahphpaa.Z
end
section
namespace Go.Proofs.Ytckefohfahphpaa.Z
open Go.RowKit Go.Proofs.YtckefohfahphpaaW.PrintWords Go.Proofs.YtckefohfahphpaaW.PrintLast Go.Proofs.YtckefohfahphpaaW.PrintMore
attribute [local go_sem] max2_int min2_int max_two min_two max_three min_three max_four min_four   -- for this text's walks alone
set_option linter.unusedVariables false
set_option linter.unusedSimpArgs false

/-! ### petrinetref08_Echelon: function 17 -/
mutual
def petrinetref08_Echelon.l0 : Nat → List (List Int) → List (List Int) → Int → Option ((List (List Int)) × Bool)
 | 0, _, _, _ => none
 | k + 1, x0, x4, x5 => if x5 < (x0.length : Int) then (if 0 ≤ x5 then ((petrinetref08_primitive.f k (rd_L1 x0 x5)).bind fun bt328 => (if bt328.2 = true then (if x4.length < 5864062014805 then (petrinetref08_Echelon.l0 k x0 (x4 ++ [bt328.1]) (wrap64 (x5 + 1))) else (none)) else (some (([] : List (List Int)), false)))) else (none)) else (petrinetref08_Echelon.l1 k x0 x4 0 0)
def petrinetref08_Echelon.l1 : Nat → List (List Int) → List (List Int) → Int → Int → Option ((List (List Int)) × Bool)
 | 0, _, _, _, _ => none
 | k + 1, x0, x4, x8, x9 => if 0 < (x0.length : Int) then (if x9 < ((rd_L1 x0 0).length : Int) then (petrinetref08_Echelon.j2 k x0 x4 x8 x9 (decide (x8 < (x4.length : Int)))) else (petrinetref08_Echelon.j2 k x0 x4 x8 x9 false)) else (none)
def petrinetref08_Echelon.j2 : Nat → List (List Int) → List (List Int) → Int → Int → Bool → Option ((List (List Int)) × Bool)
 | 0, _, _, _, _, _ => none
 | k + 1, x0, x4, x8, x9, x48 => if x48 = true then (petrinetref08_Echelon.l2 k x0 x4 x8 x9 x8) else (petrinetref08_Echelon.l4 k x4 x8 ([] : List (List Int)) 0)
def petrinetref08_Echelon.j4 : Nat → List (List Int) → List (List Int) → Int → Int → Int → Option ((List (List Int)) × Bool)
 | 0, _, _, _, _, _ => none
 | k + 1, x0, x4, x8, x9, x10 => if x10 = (x4.length : Int) then (petrinetref08_Echelon.l1 k x0 x4 x8 (wrap64 (x9 + 1))) else (if 0 ≤ x10 then (if x10 < (x4.length : Int) then (if 0 ≤ x8 then (if x8 < (x4.length : Int) then (petrinetref08_Echelon.l3 k x0 ((x4.set (x10 : Int).toNat (rd_L1 x4 x8)).set (x8 : Int).toNat (rd_L1 x4 x10)) x8 x9 0) else (none)) else (none)) else (none)) else (none))
def petrinetref08_Echelon.l3 : Nat → List (List Int) → List (List Int) → Int → Int → Int → Option ((List (List Int)) × Bool)
 | 0, _, _, _, _, _ => none
 | k + 1, x0, x4, x8, x9, x12 => if x12 < (x4.length : Int) then (if x12 = x8 then (petrinetref08_Echelon.j6 k x0 x4 x8 x9 x12 false) else (if 0 ≤ x12 then (if 0 ≤ x9 then (if x9 < ((rd_L1 x4 x12).length : Int) then (petrinetref08_Echelon.j6 k x0 x4 x8 x9 x12 ((rd (rd_L1 x4 x12) x9) != 0)) else (none)) else (none)) else (none))) else (petrinetref08_Echelon.l1 k x0 x4 (wrap64 (x8 + 1)) (wrap64 (x9 + 1)))
def petrinetref08_Echelon.j6 : Nat → List (List Int) → List (List Int) → Int → Int → Int → Bool → Option ((List (List Int)) × Bool)
 | 0, _, _, _, _, _, _ => none
 | k + 1, x0, x4, x8, x9, x12, x105 => if x105 = true then (if 0 ≤ x12 then (if x12 < (x4.length : Int) then (if 0 ≤ x8 then (if x8 < (x4.length : Int) then ((petrinetref08_clear.f k (rd_L1 x4 x12) (rd_L1 x4 x8) x9).bind fun bt346 => (if bt346.2 = true then (petrinetref08_Echelon.l3 k x0 (x4.set (x12 : Int).toNat bt346.1) x8 x9 (wrap64 (x12 + 1))) else (some (([] : List (List Int)), false)))) else (none)) else (none)) else (none)) else (none)) else (petrinetref08_Echelon.l3 k x0 x4 x8 x9 (wrap64 (x12 + 1)))
def petrinetref08_Echelon.l2 : Nat → List (List Int) → List (List Int) → Int → Int → Int → Option ((List (List Int)) × Bool)
 | 0, _, _, _, _, _ => none
 | k + 1, x0, x4, x8, x9, x10 => if x10 < (x4.length : Int) then (if 0 ≤ x10 then (if 0 ≤ x9 then (if x9 < ((rd_L1 x4 x10).length : Int) then (if (rd (rd_L1 x4 x10) x9) = 0 then (petrinetref08_Echelon.l2 k x0 x4 x8 x9 (wrap64 (x10 + 1))) else (petrinetref08_Echelon.j4 k x0 x4 x8 x9 x10)) else (none)) else (none)) else (none)) else (petrinetref08_Echelon.j4 k x0 x4 x8 x9 x10)
def petrinetref08_Echelon.l4 : Nat → List (List Int) → Int → List (List Int) → Int → Option ((List (List Int)) × Bool)
 | 0, _, _, _, _ => none
 | k + 1, x4, x8, x15, x16 => if x16 < x8 then (if 0 ≤ x16 then (if x16 < (x4.length : Int) then (if x15.length < 5864062014805 then (petrinetref08_Echelon.l4 k x4 x8 (x15 ++ [rd_L1 x4 x16]) (wrap64 (x16 + 1))) else (none)) else (none)) else (none)) else (some (x15, true))
end
def petrinetref08_Echelon.f (k : Nat) (l0 : List (List Int)) : Option ((List (List Int)) × Bool) := petrinetref08_Echelon.l0 k l0 ([] : List (List Int)) 0
theorem petrinetref08_Echelon.mono_l : ∀ k, (∀ y0 y1 y2, LeO (petrinetref08_Echelon.l0 k y0 y1 y2) (petrinetref08_Echelon.l0 (k + 1) y0 y1 y2)) ∧ (∀ y0 y1 y2 y3, LeO (petrinetref08_Echelon.l1 k y0 y1 y2 y3) (petrinetref08_Echelon.l1 (k + 1) y0 y1 y2 y3)) ∧ (∀ y0 y1 y2 y3 y4, LeO (petrinetref08_Echelon.j2 k y0 y1 y2 y3 y4) (petrinetref08_Echelon.j2 (k + 1) y0 y1 y2 y3 y4)) ∧ (∀ y0 y1 y2 y3 y4, LeO (petrinetref08_Echelon.j4 k y0 y1 y2 y3 y4) (petrinetref08_Echelon.j4 (k + 1) y0 y1 y2 y3 y4)) ∧ (∀ y0 y1 y2 y3 y4, LeO (petrinetref08_Echelon.l3 k y0 y1 y2 y3 y4) (petrinetref08_Echelon.l3 (k + 1) y0 y1 y2 y3 y4)) ∧ (∀ y0 y1 y2 y3 y4 y5, LeO (petrinetref08_Echelon.j6 k y0 y1 y2 y3 y4 y5) (petrinetref08_Echelon.j6 (k + 1) y0 y1 y2 y3 y4 y5)) ∧ (∀ y0 y1 y2 y3 y4, LeO (petrinetref08_Echelon.l2 k y0 y1 y2 y3 y4) (petrinetref08_Echelon.l2 (k + 1) y0 y1 y2 y3 y4)) ∧ (∀ y0 y1 y2 y3, LeO (petrinetref08_Echelon.l4 k y0 y1 y2 y3) (petrinetref08_Echelon.l4 (k + 1) y0 y1 y2 y3))
 | 0 => ⟨fun _ _ _ r h => by simp [petrinetref08_Echelon.l0] at h, fun _ _ _ _ r h => by simp [petrinetref08_Echelon.l1] at h, fun _ _ _ _ _ r h => by simp [petrinetref08_Echelon.j2] at h, fun _ _ _ _ _ r h => by simp [petrinetref08_Echelon.j4] at h, fun _ _ _ _ _ r h => by simp [petrinetref08_Echelon.l3] at h, fun _ _ _ _ _ _ r h => by simp [petrinetref08_Echelon.j6] at h, fun _ _ _ _ _ r h => by simp [petrinetref08_Echelon.l2] at h, fun _ _ _ _ r h => by simp [petrinetref08_Echelon.l4] at h⟩
 | k + 1 => by
  obtain ⟨ih0, ih1, ih2, ih3, ih4, ih5, ih6, ih7⟩ := petrinetref08_Echelon.mono_l k
  refine ⟨?_, ?_, ?_, ?_, ?_, ?_, ?_, ?_⟩
  ·
   intro y0 y1 y2
   unfold petrinetref08_Echelon.l0
   repeat' first
   | (with_reducible exact ih0 _ _ _)
   | (with_reducible exact ih1 _ _ _ _)
   | (with_reducible exact ih2 _ _ _ _ _)
   | (with_reducible exact ih3 _ _ _ _ _)
   | (with_reducible exact ih4 _ _ _ _ _)
   | (with_reducible exact ih5 _ _ _ _ _ _)
   | (with_reducible exact ih6 _ _ _ _ _)
   | (with_reducible exact ih7 _ _ _ _)
   | (with_reducible exact petrinetref08_clear.mono _ _ _ _)
   | (with_reducible exact petrinetref08_primitive.mono _ _)
   | (with_reducible exact LeO.refl _)
   | (with_reducible exact LeO.none _)
   | (with_reducible refine LeO.ite ?_ ?_)
   | (with_reducible refine LeO.bind ?_ (fun _ => ?_))
   | exact ih0 _ _ _
   | exact ih1 _ _ _ _
   | exact ih2 _ _ _ _ _
   | exact ih3 _ _ _ _ _
   | exact ih4 _ _ _ _ _
   | exact ih5 _ _ _ _ _ _
   | exact ih6 _ _ _ _ _
   | exact ih7 _ _ _ _
   | exact petrinetref08_clear.mono _ _ _ _
   | exact petrinetref08_primitive.mono _ _
   | exact LeO.none _
   | refine LeO.ite ?_ ?_
   | refine LeO.bind ?_ (fun _ => ?_)
  ·
   intro y0 y1 y2 y3
   unfold petrinetref08_Echelon.l1
   repeat' first
   | (with_reducible exact ih0 _ _ _)
   | (with_reducible exact ih1 _ _ _ _)
   | (with_reducible exact ih2 _ _ _ _ _)
   | (with_reducible exact ih3 _ _ _ _ _)
   | (with_reducible exact ih4 _ _ _ _ _)
   | (with_reducible exact ih5 _ _ _ _ _ _)
   | (with_reducible exact ih6 _ _ _ _ _)
   | (with_reducible exact ih7 _ _ _ _)
   | (with_reducible exact petrinetref08_clear.mono _ _ _ _)
   | (with_reducible exact petrinetref08_primitive.mono _ _)
   | (with_reducible exact LeO.refl _)
   | (with_reducible exact LeO.none _)
   | (with_reducible refine LeO.ite ?_ ?_)
   | (with_reducible refine LeO.bind ?_ (fun _ => ?_))
   | exact ih0 _ _ _
   | exact ih1 _ _ _ _
   | exact ih2 _ _ _ _ _
   | exact ih3 _ _ _ _ _
   | exact ih4 _ _ _ _ _
   | exact ih5 _ _ _ _ _ _
   | exact ih6 _ _ _ _ _
   | exact ih7 _ _ _ _
   | exact petrinetref08_clear.mono _ _ _ _
   | exact petrinetref08_primitive.mono _ _
   | exact LeO.none _
   | refine LeO.ite ?_ ?_
   | refine LeO.bind ?_ (fun _ => ?_)
  ·
   intro y0 y1 y2 y3 y4
   unfold petrinetref08_Echelon.j2
   repeat' first
   | (with_reducible exact ih0 _ _ _)
   | (with_reducible exact ih1 _ _ _ _)
   | (with_reducible exact ih2 _ _ _ _ _)
   | (with_reducible exact ih3 _ _ _ _ _)
   | (with_reducible exact ih4 _ _ _ _ _)
   | (with_reducible exact ih5 _ _ _ _ _ _)
   | (with_reducible exact ih6 _ _ _ _ _)
   | (with_reducible exact ih7 _ _ _ _)
   | (with_reducible exact petrinetref08_clear.mono _ _ _ _)
   | (with_reducible exact petrinetref08_primitive.mono _ _)
   | (with_reducible exact LeO.refl _)
   | (with_reducible exact LeO.none _)
   | (with_reducible refine LeO.ite ?_ ?_)
   | (with_reducible refine LeO.bind ?_ (fun _ => ?_))
   | exact ih0 _ _ _
   | exact ih1 _ _ _ _
   | exact ih2 _ _ _ _ _
   | exact ih3 _ _ _ _ _
   | exact ih4 _ _ _ _ _
   | exact ih5 _ _ _ _ _ _
   | exact ih6 _ _ _ _ _
   | exact ih7 _ _ _ _
   | exact petrinetref08_clear.mono _ _ _ _
   | exact petrinetref08_primitive.mono _ _
   | exact LeO.none _
   | refine LeO.ite ?_ ?_
   | refine LeO.bind ?_ (fun _ => ?_)
  ·
   intro y0 y1 y2 y3 y4
   unfold petrinetref08_Echelon.j4
   repeat' first
   | (with_reducible exact ih0 _ _ _)
   | (with_reducible exact ih1 _ _ _ _)
   | (with_reducible exact ih2 _ _ _ _ _)
   | (with_reducible exact ih3 _ _ _ _ _)
   | (with_reducible exact ih4 _ _ _ _ _)
   | (with_reducible exact ih5 _ _ _ _ _ _)
   | (with_reducible exact ih6 _ _ _ _ _)
   | (with_reducible exact ih7 _ _ _ _)
   | (with_reducible exact petrinetref08_clear.mono _ _ _ _)
   | (with_reducible exact petrinetref08_primitive.mono _ _)
   | (with_reducible exact LeO.refl _)
   | (with_reducible exact LeO.none _)
   | (with_reducible refine LeO.ite ?_ ?_)
   | (with_reducible refine LeO.bind ?_ (fun _ => ?_))
   | exact ih0 _ _ _
   | exact ih1 _ _ _ _
   | exact ih2 _ _ _ _ _
   | exact ih3 _ _ _ _ _
   | exact ih4 _ _ _ _ _
   | exact ih5 _ _ _ _ _ _
   | exact ih6 _ _ _ _ _
   | exact ih7 _ _ _ _
   | exact petrinetref08_clear.mono _ _ _ _
   | exact petrinetref08_primitive.mono _ _
   | exact LeO.none _
   | refine LeO.ite ?_ ?_
   | refine LeO.bind ?_ (fun _ => ?_)
  ·
   intro y0 y1 y2 y3 y4
   unfold petrinetref08_Echelon.l3
   repeat' first
   | (with_reducible exact ih0 _ _ _)
   | (with_reducible exact ih1 _ _ _ _)
   | (with_reducible exact ih2 _ _ _ _ _)
   | (with_reducible exact ih3 _ _ _ _ _)
   | (with_reducible exact ih4 _ _ _ _ _)
   | (with_reducible exact ih5 _ _ _ _ _ _)
   | (with_reducible exact ih6 _ _ _ _ _)
   | (with_reducible exact ih7 _ _ _ _)
   | (with_reducible exact petrinetref08_clear.mono _ _ _ _)
   | (with_reducible exact petrinetref08_primitive.mono _ _)
   | (with_reducible exact LeO.refl _)
   | (with_reducible exact LeO.none _)
   | (with_reducible refine LeO.ite ?_ ?_)
   | (with_reducible refine LeO.bind ?_ (fun _ => ?_))
   | exact ih0 _ _ _
   | exact ih1 _ _ _ _
   | exact ih2 _ _ _ _ _
   | exact ih3 _ _ _ _ _
   | exact ih4 _ _ _ _ _
   | exact ih5 _ _ _ _ _ _
   | exact ih6 _ _ _ _ _
   | exact ih7 _ _ _ _
   | exact petrinetref08_clear.mono _ _ _ _
   | exact petrinetref08_primitive.mono _ _
   | exact LeO.none _
   | refine LeO.ite ?_ ?_
   | refine LeO.bind ?_ (fun _ => ?_)
  ·
   intro y0 y1 y2 y3 y4 y5
   unfold petrinetref08_Echelon.j6
   repeat' first
   | (with_reducible exact ih0 _ _ _)
   | (with_reducible exact ih1 _ _ _ _)
   | (with_reducible exact ih2 _ _ _ _ _)
   | (with_reducible exact ih3 _ _ _ _ _)
   | (with_reducible exact ih4 _ _ _ _ _)
   | (with_reducible exact ih5 _ _ _ _ _ _)
   | (with_reducible exact ih6 _ _ _ _ _)
   | (with_reducible exact ih7 _ _ _ _)
   | (with_reducible exact petrinetref08_clear.mono _ _ _ _)
   | (with_reducible exact petrinetref08_primitive.mono _ _)
   | (with_reducible exact LeO.refl _)
   | (with_reducible exact LeO.none _)
   | (with_reducible refine LeO.ite ?_ ?_)
   | (with_reducible refine LeO.bind ?_ (fun _ => ?_))
   | exact ih0 _ _ _
   | exact ih1 _ _ _ _
   | exact ih2 _ _ _ _ _
   | exact ih3 _ _ _ _ _
   | exact ih4 _ _ _ _ _
   | exact ih5 _ _ _ _ _ _
   | exact ih6 _ _ _ _ _
   | exact ih7 _ _ _ _
   | exact petrinetref08_clear.mono _ _ _ _
   | exact petrinetref08_primitive.mono _ _
   | exact LeO.none _
   | refine LeO.ite ?_ ?_
   | refine LeO.bind ?_ (fun _ => ?_)
  ·
   intro y0 y1 y2 y3 y4
   unfold petrinetref08_Echelon.l2
   repeat' first
   | (with_reducible exact ih0 _ _ _)
   | (with_reducible exact ih1 _ _ _ _)
   | (with_reducible exact ih2 _ _ _ _ _)
   | (with_reducible exact ih3 _ _ _ _ _)
   | (with_reducible exact ih4 _ _ _ _ _)
   | (with_reducible exact ih5 _ _ _ _ _ _)
   | (with_reducible exact ih6 _ _ _ _ _)
   | (with_reducible exact ih7 _ _ _ _)
   | (with_reducible exact petrinetref08_clear.mono _ _ _ _)
   | (with_reducible exact petrinetref08_primitive.mono _ _)
   | (with_reducible exact LeO.refl _)
   | (with_reducible exact LeO.none _)
   | (with_reducible refine LeO.ite ?_ ?_)
   | (with_reducible refine LeO.bind ?_ (fun _ => ?_))
   | exact ih0 _ _ _
   | exact ih1 _ _ _ _
   | exact ih2 _ _ _ _ _
   | exact ih3 _ _ _ _ _
   | exact ih4 _ _ _ _ _
   | exact ih5 _ _ _ _ _ _
   | exact ih6 _ _ _ _ _
   | exact ih7 _ _ _ _
   | exact petrinetref08_clear.mono _ _ _ _
   | exact petrinetref08_primitive.mono _ _
   | exact LeO.none _
   | refine LeO.ite ?_ ?_
   | refine LeO.bind ?_ (fun _ => ?_)
  ·
   intro y0 y1 y2 y3
   unfold petrinetref08_Echelon.l4
   repeat' first
   | (with_reducible exact ih0 _ _ _)
   | (with_reducible exact ih1 _ _ _ _)
   | (with_reducible exact ih2 _ _ _ _ _)
   | (with_reducible exact ih3 _ _ _ _ _)
   | (with_reducible exact ih4 _ _ _ _ _)
   | (with_reducible exact ih5 _ _ _ _ _ _)
   | (with_reducible exact ih6 _ _ _ _ _)
   | (with_reducible exact ih7 _ _ _ _)
   | (with_reducible exact petrinetref08_clear.mono _ _ _ _)
   | (with_reducible exact petrinetref08_primitive.mono _ _)
   | (with_reducible exact LeO.refl _)
   | (with_reducible exact LeO.none _)
   | (with_reducible refine LeO.ite ?_ ?_)
   | (with_reducible refine LeO.bind ?_ (fun _ => ?_))
   | exact ih0 _ _ _
   | exact ih1 _ _ _ _
   | exact ih2 _ _ _ _ _
   | exact ih3 _ _ _ _ _
   | exact ih4 _ _ _ _ _
   | exact ih5 _ _ _ _ _ _
   | exact ih6 _ _ _ _ _
   | exact ih7 _ _ _ _
   | exact petrinetref08_clear.mono _ _ _ _
   | exact petrinetref08_primitive.mono _ _
   | exact LeO.none _
   | refine LeO.ite ?_ ?_
   | refine LeO.bind ?_ (fun _ => ?_)
theorem petrinetref08_Echelon.mono : ∀ a0 k, LeO (petrinetref08_Echelon.f k a0) (petrinetref08_Echelon.f (k + 1) a0) := by
 intro a0 k
 obtain ⟨ih0, ih1, ih2, ih3, ih4, ih5, ih6, ih7⟩ := petrinetref08_Echelon.mono_l k
 unfold petrinetref08_Echelon.f
 repeat' first
   | (with_reducible exact ih0 _ _ _)
   | (with_reducible exact ih1 _ _ _ _)
   | (with_reducible exact ih2 _ _ _ _ _)
   | (with_reducible exact ih3 _ _ _ _ _)
   | (with_reducible exact ih4 _ _ _ _ _)
   | (with_reducible exact ih5 _ _ _ _ _ _)
   | (with_reducible exact ih6 _ _ _ _ _)
   | (with_reducible exact ih7 _ _ _ _)
   | (with_reducible exact petrinetref08_clear.mono _ _ _ _)
   | (with_reducible exact petrinetref08_primitive.mono _ _)
   | (with_reducible exact LeO.refl _)
   | (with_reducible exact LeO.none _)
   | (with_reducible refine LeO.ite ?_ ?_)
   | (with_reducible refine LeO.bind ?_ (fun _ => ?_))
   | exact ih0 _ _ _
   | exact ih1 _ _ _ _
   | exact ih2 _ _ _ _ _
   | exact ih3 _ _ _ _ _
   | exact ih4 _ _ _ _ _
   | exact ih5 _ _ _ _ _ _
   | exact ih6 _ _ _ _ _
   | exact ih7 _ _ _ _
   | exact petrinetref08_clear.mono _ _ _ _
   | exact petrinetref08_primitive.mono _ _
   | exact LeO.none _
   | refine LeO.ite ?_ ?_
   | refine LeO.bind ?_ (fun _ => ?_)
def petrinetref08_Echelon.T24 : Bool × List (List Nat × List Nat) := (true, [([], []), ([], []), ([0, 1], [0, 1]), ([2], [2]), ([], []), ([], []), ([4, 5], [4, 5]), ([6], [6]), ([], []), ([3, 7, 8], [3, 7, 8]), ([9], [9]), ([10], [10]), ([10], [10]), ([11, 9, 0, 1, 2, 3, 4, 5, 6, 7, 8, 9, 10, 11], [11]), ([12, 13, 0, 1, 2, 3, 4, 5, 6, 7, 8, 9, 10, 11, 12, 13], [12])])
def petrinetref08_Echelon.B24 : List Nat := [0, 0, 3, 7, 0, 0, 48, 112, 0, 511, 1023, 2047, 2047, 4095, 16383]
theorem petrinetref08_Echelon.tab24 : rtab .any (opsOf Try.f17 24) = petrinetref08_Echelon.T24 := by kernel_rfl
theorem petrinetref08_Echelon.bits24 : waitsOk petrinetref08_Echelon.T24.2 petrinetref08_Echelon.B24 = true := by kernel_rfl
set_option maxHeartbeats 8000000 in
set_option maxRecDepth 100000 in
theorem petrinetref08_Echelon.calls (k : Nat) (A0 : Option Addr) (c0 : Nat) (l0 : List (List Int)) (r1 : List (List Int)) (r2 : Bool) (w : World) (hr0 : Kd.C (Kd.slice 2 (Kd.int .i64)) w A0 l0.length l0) (hc0 : l0.length ≤ c0) (h : petrinetref08_Echelon.f k l0 = some (r1, r2)) :
  Calls Try.prog 17 #[.slice A0 l0.length c0] w fun e w' => ∃ v0_ : Value, e = .returned (.tuple #[v0_, .bool r2]) ∧ Kd.N (Kd.slice 2 (Kd.int .i64)) 33 w' w.heap.size (fun k_ => (w.heap.size ≤ k_)) v0_ r1 ∧ Below w.heap.size w w' := by
 have HR0 := Aside0.mk hr0
 have HC0 := Aside0.mk hc0
 clear hr0 hc0
 have HB := Aside0.mk (Below.refl w.heap.size w)
 have H : (petrinetref08_Echelon.l0 k l0 ([] : List (List Int)) 0) = some (r1, r2) := h
 clear h
 have H' := Aside0.mk H
 clear H
 go_enter Try.func17, Try.ntmps17
 go_wp2
 go_loopg [4, 5] k (fun kq v4 v5 w' => ∃ (x4_1 : List (List Int)) (x5_1 : Int), v5 = .int .i64 x5_1 ∧ Aside0 (petrinetref08_Echelon.l0 kq l0 x4_1 x5_1 = some (r1, r2)) ∧ Aside0 (kq ≤ k) ∧ Aside0 (Kd.N (Kd.slice 2 (Kd.int .i64)) 33 w' w.heap.size (fun k_ => (w.heap.size ≤ k_)) v4 x4_1) ∧ Aside0 (Below w.heap.size w w'))
 case atStart => exact ⟨(([] : List (List Int))), (0), (by first | rfl | (simp; done) | (simp [*]; done)), H', ⟨Nat.le_refl _⟩, ⟨by first | exact Kd.S_nil _ _ _ _ _ | exact Kd.N_nil _ _ _ _ _ | exact Kd.V_nil _ _ _ _ _ | exact Kd.Q_nil _ _ _ _ _ | exact Kd.R_nil _ _ _ _ _⟩, ⟨by repeat (first | (with_reducible first | exact HB.out | apply below_alloc | apply pw_below_drewN | apply below_drew1) | exact HB.out)⟩⟩
 case round =>
  clear H'; (try clear c1); obtain ⟨x4_1, x5_1, rfl, HA, HK1, HO_4, HB⟩ := hrel
  cases gk with
  | zero => exact absurd HA.out (by simp [petrinetref08_Echelon.l0])
  | succ k1 =>
   have H := HA.out; clear HA; simp only [petrinetref08_Echelon.l0] at H; by_cases c2 : x5_1 < (l0.length : Int)
   ·
    rw [if_pos c2] at H; have c2b0 : decide (x5_1 < (l0.length : Int)) = true := decide_eq_true c2; clear c2; by_cases c3 : 0 ≤ x5_1
    ·
     rw [if_pos c3] at H; have c3b0 : decide (0 ≤ x5_1) = true := decide_eq_true c3; clear c3; replace H := Option.bind_eq_some_iff.mp H; obtain ⟨⟨t328, t329⟩, A40, H⟩ := H; replace H : (if t329 = true then (if x4_1.length < 5864062014805 then (petrinetref08_Echelon.l0 k1 l0 (x4_1 ++ [t328]) (wrap64 (x5_1 + 1))) else (none)) else (some (([] : List (List Int)), false))) = some (r1, r2) := H; have A4 := Aside0.mk A40; clear A40; by_cases c5 : t329 = true
     ·
      subst c5; (have H1 : (if x4_1.length < 5864062014805 then (petrinetref08_Echelon.l0 k1 l0 (x4_1 ++ [t328]) (wrap64 (x5_1 + 1))) else (none)) = some (r1, r2) := by rw [if_pos rfl] at H; exact H); clear H; have H := H1; clear H1; by_cases c6 : x4_1.length < 5864062014805
      ·
       rw [if_pos c6] at H; have LMc6 := Aside0.mk c6; clear c6; obtain ⟨y332, hy332⟩ : ∃ y_ : List (List Int), y_ = (x4_1 ++ [t328]) := ⟨_, rfl⟩; (replace H : (petrinetref08_Echelon.l0 k1 l0 y332 (wrap64 (x5_1 + 1))) = some (r1, r2) := by first | (rw [hy332]; with_reducible exact H) | (have H2_ := (Option.bind_some _ _).symm.trans H; rw [hy332]; with_reducible exact H2_) | (have H2_ := (Option.bind_some _ _).symm.trans H; with_reducible exact H2_) | with_reducible exact H | (rw [hy332]; exact H) | exact H); have Ny332 := Aside0.mk hy332; clear hy332; have H' := Aside0.mk H; clear H; (have p327 : 0 ≤ (x5_1 : Int) := of_decide_eq_true (by first | (with_reducible assumption) | assumption)); (have q327 : x5_1 < (l0.length : Int) := of_decide_eq_true (by first | (with_reducible assumption) | assumption)); obtain ⟨ad327, A327_0, c327_0, e327, hx327_0, hl327_0, hi327_0⟩ := at_L1 HR0.out x5_1 p327 q327
       cases e327
       replace hx327_0 := (HB.out.cell (World.block_lt_of_cell? w _ hx327_0)).trans hx327_0; have HR327_0 := Aside0.mk hi327_0; have HC327_0 := Aside0.mk hl327_0; clear hi327_0 hl327_0; replace p327 := eq_true p327; replace q327 := eq_true q327; (go_wp2_with (first | ((with_reducible refine gate_callee (f := 33) rfl ?_); refine goesL_ (some 28) rfl rfl Try.func33 (by kernel_rfl) rfl #[.slice A327_0 (rd_L1 l0 x5_1).length c327_0] rfl (by (try simp only [List.map_toArray, List.map_cons, List.map_nil]); first | done | rfl | (simp only [List.length_drop, List.length_take]; rfl)) ?_; (with_reducible refine (petrinetref08_primitive.calls k1 _ _ (rd_L1 l0 x5_1) t328 true _ ?side1 ?side2 A4.out).mono ?_); (case side1 => repeat (first | exact (Kd.C_below HR327_0.out HB.out) | (with_reducible refine Kd.C_alloc ?_ _) | (with_reducible refine Kd.C_drewN ?_ _) | (with_reducible refine Kd.C_drew ?_))); (case side2 => exact HC327_0.out); rintro e w7 ⟨v330, rfl, ho0, hb⟩; refine ⟨_, rfl, ?_⟩; have n0_ := Aside0.mk (Kd.N_elder' (by (with_reducible repeat (first | apply Kd.N_alloc | apply Kd.N_drewN | apply Kd.N_drew)); exact HO_4.out) (Kd.R_base ho0) hb); have n1_ := Aside0.mk (Kd.R_lower (Kd.R_newM (M := fun k_ => (w.heap.size ≤ k_)) ho0 (below_size (by repeat (first | (with_reducible first | exact HB.out | apply below_alloc | apply pw_below_drewN | apply below_drew1) | exact HB.out))) (fun k_ h_ => h_)) (below_size (by repeat (first | (with_reducible first | exact HB.out | apply below_alloc | apply pw_below_drewN | apply below_drew1) | exact HB.out)))); have n2_ := Aside0.mk (below_step (by repeat (first | (with_reducible first | exact HB.out | apply below_alloc | apply pw_below_drewN | apply below_drew1) | exact HB.out)) hb); clear HO_4; clear HB; have HO_4 := n0_; have HO331 := n1_; have HB := n2_; clear n0_ n1_ n2_; (try clear hb); (try clear hb2); (try clear hk); (try clear hi); (try clear ho0); obtain ⟨Ao9, co9, eo9⟩ := Kd.R_slice HO331.out; subst eo9) | ((with_reducible refine gate_builtin (b := .append) (xs := #[.tmp 33, .tmp 35]) rfl ?_); (try (refine gate_guard (by rfl) ?_; dsimp only)); at_builtin; refine Kd.N_append (Kd.slice 2 (Kd.int .i64)) (w0 := w) w.heap.size rfl (.tmp 33) (.tmp 35) 22 33 (.slice none 0 0) 24 rfl Try.underlying22 info33 rfl (by decide) (by omega) u4 x4_1 t328 [.slice Ao9 t328.length co9] (fun k_ => (w.heap.size ≤ k_)) (fun k_ => ((fun k_ => (w.heap.size ≤ k_))) k_ ∧ some k_ ≠ (u4 : Value).ownBlock) rfl rfl ?aP (fun _ hk => hk) ?aF ?aO ?aB ?aS ?aL ?_; (case aP => exact (Kd.FK_slice_mk (Kd.R_reads' (Kd.R_mono (ok' := (fun k_ => ((fun k_ => (w.heap.size ≤ k_))) k_ ∧ some k_ ≠ (u4 : Value).ownBlock)) (Kd.R_apart' (HO331.out) (Kd.N_typed HO_4.out) (by decide)) (fun k_ hk => ⟨hk.1.1, hk.2⟩))).2.1 (Kd.R_F (Kd.R_mono (ok' := (fun k_ => ((fun k_ => (w.heap.size ≤ k_))) k_ ∧ some k_ ≠ (u4 : Value).ownBlock)) (Kd.R_apart' (HO331.out) (Kd.N_typed HO_4.out) (by decide)) (fun k_ hk => ⟨hk.1.1, hk.2⟩))))); (case aB => exact (by repeat (first | (with_reducible first | exact HB.out | apply below_alloc | apply pw_below_drewN | apply below_drew1) | exact HB.out))); (case aF => exact (fun k_ hk => (Nat.le_trans (below_size (by repeat (first | (with_reducible first | exact HB.out | apply below_alloc | apply pw_below_drewN | apply below_drew1) | exact HB.out))) hk))); (case aO => exact (by (with_reducible repeat (first | apply Kd.N_alloc | apply Kd.N_drewN | apply Kd.N_drew)); exact Kd.N_mono HO_4.out (fun _ hk => hk.1))); (case aS => exact (below_size (by repeat (first | (with_reducible first | exact HB.out | apply below_alloc | apply pw_below_drewN | apply below_drew1) | exact HB.out)))); (case aL => have := LMc6.out; omega); intro v333 w8 ho hb hg hat; rw [← Ny332.out] at ho; have n0_ := Aside0.mk (hb); have n1_ := Aside0.mk (ho); clear HB; clear HO_4; clear HO331; have HB := n0_; have HO334 := n1_; clear n0_ n1_; clear ho hb hg hat))); go_roundg k1
       case measure => have := HK1.out; omega
       case rel => exact ⟨(y332), (wrap64 (x5_1 + 1)), (by first | rfl | (simp; done) | (simp [*]; done)), H', ⟨by have := HK1.out; omega⟩, ⟨by (with_reducible repeat (first | apply Kd.N_alloc | apply Kd.N_drewN | apply Kd.N_drew)); exact HO334.out⟩, ⟨by repeat (first | (with_reducible first | exact HB.out | apply below_alloc | apply pw_below_drewN | apply below_drew1) | exact HB.out)⟩⟩
      ·
       rw [if_neg c6] at H; (exact absurd H (by simp))
     ·
      replace c5 := Bool.eq_false_iff.mpr c5; subst c5; (have H1 : (some (([] : List (List Int)), false)) = some (r1, r2) := by rw [if_neg (show ¬ (false = true) by decide)] at H; exact H); clear H; have H := H1; clear H1; simp only [Option.some.injEq, Prod.mk.injEq] at H; obtain ⟨rfl, rfl⟩ := H; (have p327 : 0 ≤ (x5_1 : Int) := of_decide_eq_true (by first | (with_reducible assumption) | assumption)); (have q327 : x5_1 < (l0.length : Int) := of_decide_eq_true (by first | (with_reducible assumption) | assumption)); obtain ⟨ad327, A327_0, c327_0, e327, hx327_0, hl327_0, hi327_0⟩ := at_L1 HR0.out x5_1 p327 q327
      cases e327
      replace hx327_0 := (HB.out.cell (World.block_lt_of_cell? w _ hx327_0)).trans hx327_0; have HR327_0 := Aside0.mk hi327_0; have HC327_0 := Aside0.mk hl327_0; clear hi327_0 hl327_0; replace p327 := eq_true p327; replace q327 := eq_true q327; (go_wp2_with (first | ((with_reducible refine gate_callee (f := 33) rfl ?_); refine goesL_ (some 28) rfl rfl Try.func33 (by kernel_rfl) rfl #[.slice A327_0 (rd_L1 l0 x5_1).length c327_0] rfl (by (try simp only [List.map_toArray, List.map_cons, List.map_nil]); first | done | rfl | (simp only [List.length_drop, List.length_take]; rfl)) ?_; (with_reducible refine (petrinetref08_primitive.calls k1 _ _ (rd_L1 l0 x5_1) t328 false _ ?side1 ?side2 A4.out).mono ?_); (case side1 => repeat (first | exact (Kd.C_below HR327_0.out HB.out) | (with_reducible refine Kd.C_alloc ?_ _) | (with_reducible refine Kd.C_drewN ?_ _) | (with_reducible refine Kd.C_drew ?_))); (case side2 => exact HC327_0.out); rintro e w10 ⟨v330, rfl, ho0, hb⟩; refine ⟨_, rfl, ?_⟩; have n0_ := Aside0.mk (Kd.N_elder' (by (with_reducible repeat (first | apply Kd.N_alloc | apply Kd.N_drewN | apply Kd.N_drew)); exact HO_4.out) (Kd.R_base ho0) hb); have n1_ := Aside0.mk (Kd.R_lower (Kd.R_newM (M := fun k_ => (w.heap.size ≤ k_)) ho0 (below_size (by repeat (first | (with_reducible first | exact HB.out | apply below_alloc | apply pw_below_drewN | apply below_drew1) | exact HB.out))) (fun k_ h_ => h_)) (below_size (by repeat (first | (with_reducible first | exact HB.out | apply below_alloc | apply pw_below_drewN | apply below_drew1) | exact HB.out)))); have n2_ := Aside0.mk (below_step (by repeat (first | (with_reducible first | exact HB.out | apply below_alloc | apply pw_below_drewN | apply below_drew1) | exact HB.out)) hb); clear HO_4; clear HB; have HO_4 := n0_; have HO331 := n1_; have HB := n2_; clear n0_ n1_ n2_; (try clear hb); (try clear hb2); (try clear hk); (try clear hi); (try clear ho0)))); go_ret2; (exact ⟨_, by first | rfl | (simp [errW_none, errW_some] <;> rfl) | (simp [*, errW_none, errW_some] <;> rfl), by first | exact Kd.S_nil _ _ _ _ _ | exact Kd.N_nil _ _ _ _ _ | exact Kd.V_nil _ _ _ _ _ | exact Kd.Q_nil _ _ _ _ _ | exact Kd.R_nil _ _ _ _ _, by repeat (first | (with_reducible first | exact HB.out | apply below_alloc | apply pw_below_drewN | apply below_drew1) | exact HB.out)⟩)
    ·
     rw [if_neg c3] at H; (exact absurd H (by simp))
   ·
    rw [if_neg c2] at H; have c2b0 : decide (x5_1 < (l0.length : Int)) = false := decide_eq_false c2; clear c2; have H' := Aside0.mk H; clear H; go_wp2
    go_loopg [8, 9] k1 (fun kq v8 v9 w' => ∃ (x4_2 : List (List Int)) (x8_2 : Int) (x9_2 : Int), v8 = .int .i64 x8_2 ∧ v9 = .int .i64 x9_2 ∧ Aside0 (petrinetref08_Echelon.l1 kq l0 x4_2 x8_2 x9_2 = some (r1, r2)) ∧ Aside0 (kq ≤ k1) ∧ Aside0 (Kd.N (Kd.slice 2 (Kd.int .i64)) 33 w' w.heap.size (fun k_ => (w.heap.size ≤ k_)) u4 x4_2) ∧ Aside0 (Below w.heap.size w w'))
    case atStart => exact ⟨(x4_1), (0), (0), (by first | rfl | (simp; done) | (simp [*]; done)), (by first | rfl | (simp; done) | (simp [*]; done)), H', ⟨Nat.le_refl _⟩, ⟨by (with_reducible repeat (first | apply Kd.N_alloc | apply Kd.N_drewN | apply Kd.N_drew)); exact HO_4.out⟩, ⟨by repeat (first | (with_reducible first | exact HB.out | apply below_alloc | apply pw_below_drewN | apply below_drew1) | exact HB.out)⟩⟩
    case round =>
     clear H'; (try clear c1); (try clear c2); (try clear c2b0); (try clear p2); (try clear c3); (try clear c3b0); (try clear p3); (try clear q3); (try clear hx3); (try clear c5); (try clear c6); (try clear p6); (try clear hx327_0); (try clear p327); (try clear q327); obtain ⟨x4_2, x8_2, x9_2, rfl, rfl, HA, HK2, HO_4, HB⟩ := hrel
     cases gk with
     | zero => exact absurd HA.out (by simp [petrinetref08_Echelon.l1])
     | succ k2 =>
      have H := HA.out; clear HA; simp only [petrinetref08_Echelon.l1] at H; have HC11 := Aside0.mk H; clear H; go_upto_region 11 with (fail); (go_cut [48] (fun v48 wc => ∃ (kq : Nat) (x48_10 : Bool), v48 = .bool x48_10 ∧ Aside0 (petrinetref08_Echelon.j2 kq l0 x4_2 x8_2 x9_2 x48_10 = some (r1, r2)) ∧ Aside0 (kq ≤ k2) ∧ Aside0 (Kd.N (Kd.slice 2 (Kd.int .i64)) 33 wc w.heap.size (fun k_ => (w.heap.size ≤ k_)) u4 x4_2) ∧ Aside0 (Below w.heap.size w wc)))
      case first =>
       have H := HC11.out; clear HC11; by_cases c12 : 0 < (l0.length : Int)
       ·
        rw [if_pos c12] at H; have c12b0 : decide (0 < (l0.length : Int)) = true := decide_eq_true c12; (have c12b1 : decide (0 < l0.length) = true := decide_eq_true (by omega)); clear c12; (first | rw [c12b0] | (simp only [i64_w, i32_w]; rw [c12b0]) | skip); by_cases c13 : x9_2 < ((rd_L1 l0 0).length : Int)
        ·
         rw [if_pos c13] at H; have c13b0 : decide (x9_2 < ((rd_L1 l0 0).length : Int)) = true := decide_eq_true c13; clear c13; have H' := Aside0.mk H; clear H; (have p335 : 0 ≤ (0 : Int) := (by omega)); (have q335 : 0 < (l0.length : Int) := of_decide_eq_true (by first | (with_reducible assumption) | assumption)); obtain ⟨ad335, A335_0, c335_0, e335, hx335_0, hl335_0, hi335_0⟩ := at_L1 HR0.out 0 p335 q335
         cases e335
         (have qi335 : (0 < l0.length) = True := eq_true (by omega)); (try rw [show ((0 : Int)).toNat = 0 from rfl] at hx335_0); (try rw [Addr.add_zero'] at hx335_0); replace hx335_0 := (HB.out.cell (World.block_lt_of_cell? w _ hx335_0)).trans hx335_0; have HR335_0 := Aside0.mk hi335_0; have HC335_0 := Aside0.mk hl335_0; clear hi335_0 hl335_0; replace p335 := eq_true p335; replace q335 := eq_true q335; obtain ⟨Ao14, co14, eo14⟩ := Kd.N_slice HO_4.out; subst eo14; go_wp2; go_meet
         case rel => exact ⟨_, (decide (x8_2 < (x4_2.length : Int))), (by first | rfl | (simp; done) | (simp [*]; done)), H', ⟨by have := HK1.out; have := HK2.out; first | omega | exact Nat.le_refl _⟩, ⟨by (with_reducible repeat (first | apply Kd.N_alloc | apply Kd.N_drewN | apply Kd.N_drew)); exact HO_4.out⟩, ⟨by repeat (first | (with_reducible first | exact HB.out | apply below_alloc | apply pw_below_drewN | apply below_drew1) | exact HB.out)⟩⟩
        ·
         rw [if_neg c13] at H; have c13b0 : decide (x9_2 < ((rd_L1 l0 0).length : Int)) = false := decide_eq_false c13; clear c13; have H' := Aside0.mk H; clear H; (have p335 : 0 ≤ (0 : Int) := (by omega)); (have q335 : 0 < (l0.length : Int) := of_decide_eq_true (by first | (with_reducible assumption) | assumption)); obtain ⟨ad335, A335_0, c335_0, e335, hx335_0, hl335_0, hi335_0⟩ := at_L1 HR0.out 0 p335 q335
         cases e335
         (have qi335 : (0 < l0.length) = True := eq_true (by omega)); (try rw [show ((0 : Int)).toNat = 0 from rfl] at hx335_0); (try rw [Addr.add_zero'] at hx335_0); replace hx335_0 := (HB.out.cell (World.block_lt_of_cell? w _ hx335_0)).trans hx335_0; have HR335_0 := Aside0.mk hi335_0; have HC335_0 := Aside0.mk hl335_0; clear hi335_0 hl335_0; replace p335 := eq_true p335; replace q335 := eq_true q335; go_wp2; go_meet
         case rel => exact ⟨_, (false), (by first | rfl | (simp; done) | (simp [*]; done)), H', ⟨by have := HK1.out; have := HK2.out; first | omega | exact Nat.le_refl _⟩, ⟨by (with_reducible repeat (first | apply Kd.N_alloc | apply Kd.N_drewN | apply Kd.N_drew)); exact HO_4.out⟩, ⟨by repeat (first | (with_reducible first | exact HB.out | apply below_alloc | apply pw_below_drewN | apply below_drew1) | exact HB.out)⟩⟩
       ·
        rw [if_neg c12] at H; (exact absurd H (by simp))
      case rest =>
       clear HC11; (try clear c1); (try clear c2); (try clear c2b0); (try clear p2); (try clear c3); (try clear c3b0); (try clear p3); (try clear q3); (try clear hx3); (try clear qi3); (try clear c5); (try clear c6); (try clear p6); (try clear c12); (try clear c12b0); (try clear c12b1); (try clear c13); (try clear c13b0); (try clear hx327_0); (try clear hx335_0); (try clear p2); (try clear p3); (try clear p327); (try clear p335); (try clear p6); (try clear q3); (try clear q327); (try clear q335); obtain ⟨kq, x48_10, rfl, HA, HJ10, HO_4, HB⟩ := hcut
       cases kq with
       | zero => exact absurd HA.out (by simp [petrinetref08_Echelon.j2])
       | succ kj10 =>
        have H := HA.out; clear HA; simp only [petrinetref08_Echelon.j2] at H; by_cases c15 : x48_10 = true
        ·
         subst c15; (have H1 : (petrinetref08_Echelon.l2 kj10 l0 x4_2 x8_2 x9_2 x8_2) = some (r1, r2) := by rw [if_pos rfl] at H; exact H); clear H; have H := H1; clear H1; have HC16 := Aside0.mk H; clear H; go_upto_block 4 with (fail); (go_cut [10] (fun v10 wc => ∃ (kq : Nat) (x10_15 : Int), v10 = .int .i64 x10_15 ∧ Aside0 (petrinetref08_Echelon.j4 kq l0 x4_2 x8_2 x9_2 x10_15 = some (r1, r2)) ∧ Aside0 (kq ≤ kj10) ∧ Aside0 (Kd.N (Kd.slice 2 (Kd.int .i64)) 33 wc w.heap.size (fun k_ => (w.heap.size ≤ k_)) u4 x4_2) ∧ Aside0 (Below w.heap.size w wc)))
         case first =>
          have H := HC16.out; clear HC16; have H' := Aside0.mk H; clear H; go_wp2
          go_loopg [10] kj10 (fun kq v10 w' => ∃ (x10_4 : Int), v10 = .int .i64 x10_4 ∧ Aside0 (petrinetref08_Echelon.l2 kq l0 x4_2 x8_2 x9_2 x10_4 = some (r1, r2)) ∧ Aside0 (kq ≤ kj10) ∧ Aside0 (Kd.N (Kd.slice 2 (Kd.int .i64)) 33 w' w.heap.size (fun k_ => (w.heap.size ≤ k_)) u4 x4_2) ∧ Aside0 (Below w.heap.size w w'))
          case atStart => exact ⟨(x8_2), (by first | rfl | (simp; done) | (simp [*]; done)), H', ⟨Nat.le_refl _⟩, ⟨by (with_reducible repeat (first | apply Kd.N_alloc | apply Kd.N_drewN | apply Kd.N_drew)); exact HO_4.out⟩, ⟨by repeat (first | (with_reducible first | exact HB.out | apply below_alloc | apply pw_below_drewN | apply below_drew1) | exact HB.out)⟩⟩
          case round =>
           clear H'; (try clear c1); (try clear c2); (try clear c2b0); (try clear p2); (try clear c3); (try clear c3b0); (try clear p3); (try clear q3); (try clear hx3); (try clear qi3); (try clear c5); (try clear c6); (try clear p6); (try clear c12); (try clear c12b0); (try clear c12b1); (try clear c13); (try clear c13b0); (try clear c15); (try clear hx327_0); (try clear hx335_0); (try clear p2); (try clear p3); (try clear p327); (try clear p335); (try clear p6); (try clear q3); (try clear q327); (try clear q335); obtain ⟨x10_4, rfl, HA, HK4, HO_4, HB⟩ := hrel
           cases gk with
           | zero => exact absurd HA.out (by simp [petrinetref08_Echelon.l2])
           | succ k4 =>
            have H := HA.out; clear HA; simp only [petrinetref08_Echelon.l2] at H; by_cases c17 : x10_4 < (x4_2.length : Int)
            ·
             rw [if_pos c17] at H; have c17b0 : decide (x10_4 < (x4_2.length : Int)) = true := decide_eq_true c17; clear c17; (first | rw [c17b0] | (simp only [i64_w, i32_w]; rw [c17b0]) | skip); by_cases c18 : 0 ≤ x10_4
             ·
              rw [if_pos c18] at H; have c18b0 : decide (0 ≤ x10_4) = true := decide_eq_true c18; clear c18; by_cases c19 : 0 ≤ x9_2
              ·
               rw [if_pos c19] at H; have c19b0 : decide (0 ≤ x9_2) = true := decide_eq_true c19; clear c19; by_cases c20 : x9_2 < ((rd_L1 x4_2 x10_4).length : Int)
               ·
                rw [if_pos c20] at H; have c20b0 : decide (x9_2 < ((rd_L1 x4_2 x10_4).length : Int)) = true := decide_eq_true c20; clear c20; by_cases c21 : (rd (rd_L1 x4_2 x10_4) x9_2) = 0
                ·
                 rw [if_pos c21] at H; have c21b0 : ((rd (rd_L1 x4_2 x10_4) x9_2) == 0) = true := beq_iff_eq.mpr c21; have c21b1 : ((rd (rd_L1 x4_2 x10_4) x9_2) != 0) = false := bne_eq_false_iff_eq.mpr c21; clear c21; have H' := Aside0.mk H; clear H; obtain ⟨Ao22, co22, eo22⟩ := Kd.N_slice HO_4.out; subst eo22; (have p336 : 0 ≤ (x10_4 : Int) := of_decide_eq_true (by first | (with_reducible assumption) | assumption)); (have q336 : x10_4 < (x4_2.length : Int) := of_decide_eq_true (by first | (with_reducible assumption) | assumption)); obtain ⟨ad336, A336_0, c336_0, e336, hx336_0, hl336_0, hi336_0⟩ := at_L1 (Kd.N_reads' HO_4.out).2.2 x10_4 p336 q336
                 cases e336
                 (obtain ⟨ce336, hce336, hMe336, hcc336⟩ := Kd.N_get HO_4.out [] x10_4 p336 (by first | exact q336 | exact of_decide_eq_true (by first | (with_reducible assumption) | assumption) | (have e_ := (Kd.N_reads' HO_4.out).1; omega))); obtain ⟨ua336_0, uc336_0, rfl, ul336_0, ge336_0⟩ := Kd.FK_slice_open hMe336; have hv336_0 := hcc336 0 _ rfl; (rw [Nat.add_zero, show ((Kd.slice 2 (Kd.int .i64))).sz = 1 from rfl, Nat.mul_one] at hv336_0); replace hv336_0 := Option.some.inj (hv336_0.symm.trans hx336_0); injection hv336_0 with hva_ hvn_ hvc_; rw [hva_] at ge336_0; rw [hvc_] at ul336_0; (have HL336_0 := Aside0.mk (show Kd.V (Kd.int .i64) 2 _ w.heap.size _ _ (rd_L1 x4_2 x10_4) from Kd.V_mk ul336_0 ge336_0)); clear hva_ hvn_ hvc_ ge336_0 ul336_0; clear hcc336 hce336; have HR336_0 := Aside0.mk hi336_0; have HC336_0 := Aside0.mk hl336_0; clear hi336_0 hl336_0; replace p336 := eq_true p336; replace q336 := eq_true q336; (have p337 : 0 ≤ (x9_2 : Int) := of_decide_eq_true (by first | (with_reducible assumption) | assumption)); (have q337 : x9_2 < ((rd_L1 x4_2 x10_4).length : Int) := of_decide_eq_true (by first | (with_reducible assumption) | assumption)); (obtain ⟨ad337, e337, hx337_0⟩ := Kd.at_int (by repeat (first | (with_reducible exact HR336_0.out) | (with_reducible refine Kd.C_alloc ?_ _) | (with_reducible refine Kd.C_drewN ?_ _) | (with_reducible refine Kd.C_drew ?_) | exact HR336_0.out)) x9_2 p337 q337)
                 cases e337
                 replace p337 := eq_true p337; replace q337 := eq_true q337; go_wp2; go_roundg k4
                 case measure => have := HK1.out; have := HK2.out; have := HJ10.out; have := HK4.out; omega
                 case rel => exact ⟨(wrap64 (x10_4 + 1)), (by first | rfl | (simp; done) | (simp [*]; done)), H', ⟨by have := HK1.out; have := HK2.out; have := HJ10.out; have := HK4.out; omega⟩, ⟨by (with_reducible repeat (first | apply Kd.N_alloc | apply Kd.N_drewN | apply Kd.N_drew)); exact HO_4.out⟩, ⟨by repeat (first | (with_reducible first | exact HB.out | apply below_alloc | apply pw_below_drewN | apply below_drew1) | exact HB.out)⟩⟩
                ·
                 rw [if_neg c21] at H; have c21b0 : ((rd (rd_L1 x4_2 x10_4) x9_2) == 0) = false := beq_eq_false_iff_ne.mpr c21; have c21b1 : ((rd (rd_L1 x4_2 x10_4) x9_2) != 0) = true := bne_iff_ne.mpr c21; have H' := Aside0.mk H; clear H; obtain ⟨Ao23, co23, eo23⟩ := Kd.N_slice HO_4.out; subst eo23; (have p336 : 0 ≤ (x10_4 : Int) := of_decide_eq_true (by first | (with_reducible assumption) | assumption)); (have q336 : x10_4 < (x4_2.length : Int) := of_decide_eq_true (by first | (with_reducible assumption) | assumption)); obtain ⟨ad336, A336_0, c336_0, e336, hx336_0, hl336_0, hi336_0⟩ := at_L1 (Kd.N_reads' HO_4.out).2.2 x10_4 p336 q336
                 cases e336
                 (obtain ⟨ce336, hce336, hMe336, hcc336⟩ := Kd.N_get HO_4.out [] x10_4 p336 (by first | exact q336 | exact of_decide_eq_true (by first | (with_reducible assumption) | assumption) | (have e_ := (Kd.N_reads' HO_4.out).1; omega))); obtain ⟨ua336_0, uc336_0, rfl, ul336_0, ge336_0⟩ := Kd.FK_slice_open hMe336; have hv336_0 := hcc336 0 _ rfl; (rw [Nat.add_zero, show ((Kd.slice 2 (Kd.int .i64))).sz = 1 from rfl, Nat.mul_one] at hv336_0); replace hv336_0 := Option.some.inj (hv336_0.symm.trans hx336_0); injection hv336_0 with hva_ hvn_ hvc_; rw [hva_] at ge336_0; rw [hvc_] at ul336_0; (have HL336_0 := Aside0.mk (show Kd.V (Kd.int .i64) 2 _ w.heap.size _ _ (rd_L1 x4_2 x10_4) from Kd.V_mk ul336_0 ge336_0)); clear hva_ hvn_ hvc_ ge336_0 ul336_0; clear hcc336 hce336; have HR336_0 := Aside0.mk hi336_0; have HC336_0 := Aside0.mk hl336_0; clear hi336_0 hl336_0; replace p336 := eq_true p336; replace q336 := eq_true q336; (have p337 : 0 ≤ (x9_2 : Int) := of_decide_eq_true (by first | (with_reducible assumption) | assumption)); (have q337 : x9_2 < ((rd_L1 x4_2 x10_4).length : Int) := of_decide_eq_true (by first | (with_reducible assumption) | assumption)); (obtain ⟨ad337, e337, hx337_0⟩ := Kd.at_int (by repeat (first | (with_reducible exact HR336_0.out) | (with_reducible refine Kd.C_alloc ?_ _) | (with_reducible refine Kd.C_drewN ?_ _) | (with_reducible refine Kd.C_drew ?_) | exact HR336_0.out)) x9_2 p337 q337)
                 cases e337
                 replace p337 := eq_true p337; replace q337 := eq_true q337; go_wp2; go_meet
                 case rel => exact ⟨_, (x10_4), (by first | rfl | (simp; done) | (simp [*]; done)), H', ⟨by have := HK1.out; have := HK2.out; have := HJ10.out; have := HK4.out; first | omega | exact Nat.le_refl _⟩, ⟨by (with_reducible repeat (first | apply Kd.N_alloc | apply Kd.N_drewN | apply Kd.N_drew)); exact HO_4.out⟩, ⟨by repeat (first | (with_reducible first | exact HB.out | apply below_alloc | apply pw_below_drewN | apply below_drew1) | exact HB.out)⟩⟩
               ·
                rw [if_neg c20] at H; (exact absurd H (by simp))
              ·
               rw [if_neg c19] at H; (exact absurd H (by simp))
             ·
              rw [if_neg c18] at H; (exact absurd H (by simp))
            ·
             rw [if_neg c17] at H; have c17b0 : decide (x10_4 < (x4_2.length : Int)) = false := decide_eq_false c17; clear c17; (first | rw [c17b0] | (simp only [i64_w, i32_w]; rw [c17b0]) | skip); have H' := Aside0.mk H; clear H; obtain ⟨Ao24, co24, eo24⟩ := Kd.N_slice HO_4.out; subst eo24; go_wp2; go_meet
             case rel => exact ⟨_, (x10_4), (by first | rfl | (simp; done) | (simp [*]; done)), H', ⟨by have := HK1.out; have := HK2.out; have := HJ10.out; have := HK4.out; first | omega | exact Nat.le_refl _⟩, ⟨by (with_reducible repeat (first | apply Kd.N_alloc | apply Kd.N_drewN | apply Kd.N_drew)); exact HO_4.out⟩, ⟨by repeat (first | (with_reducible first | exact HB.out | apply below_alloc | apply pw_below_drewN | apply below_drew1) | exact HB.out)⟩⟩
         case rest =>
          clear HC16; (try clear c1); (try clear c2); (try clear c2b0); (try clear p2); (try clear c3); (try clear c3b0); (try clear p3); (try clear q3); (try clear hx3); (try clear qi3); (try clear c5); (try clear c6); (try clear p6); (try clear c12); (try clear c12b0); (try clear c12b1); (try clear c13); (try clear c13b0); (try clear c15); (try clear c17); (try clear c17b0); (try clear c18); (try clear c18b0); (try clear c19); (try clear c19b0); (try clear c20); (try clear c20b0); (try clear c21); (try clear c21b0); (try clear c21b1); (try clear hx327_0); (try clear hx335_0); (try clear hx336_0); (try clear hx337_0); (try clear p2); (try clear p3); (try clear p327); (try clear p335); (try clear p336); (try clear p337); (try clear p6); (try clear q3); (try clear q327); (try clear q335); (try clear q336); (try clear q337); obtain ⟨kq, x10_15, rfl, HA, HJ15, HO_4, HB⟩ := hcut
          cases kq with
          | zero => exact absurd HA.out (by simp [petrinetref08_Echelon.j4])
          | succ kj15 =>
           have H := HA.out; clear HA; simp only [petrinetref08_Echelon.j4] at H; by_cases c25 : x10_15 = (x4_2.length : Int)
           ·
            rw [if_pos c25] at H; have c25b0 : (x10_15 == (x4_2.length : Int)) = true := beq_iff_eq.mpr c25; have c25b1 : (x10_15 != (x4_2.length : Int)) = false := bne_eq_false_iff_eq.mpr c25; clear c25; have H' := Aside0.mk H; clear H; obtain ⟨Ao26, co26, eo26⟩ := Kd.N_slice HO_4.out; subst eo26; go_wp2; go_roundg kj15
            case measure => have := HK1.out; have := HK2.out; have := HJ10.out; have := HJ15.out; omega
            case rel => exact ⟨(x4_2), (x8_2), (wrap64 (x9_2 + 1)), (by first | rfl | (simp; done) | (simp [*]; done)), (by first | rfl | (simp; done) | (simp [*]; done)), H', ⟨by have := HK1.out; have := HK2.out; have := HJ10.out; have := HJ15.out; omega⟩, ⟨by (with_reducible repeat (first | apply Kd.N_alloc | apply Kd.N_drewN | apply Kd.N_drew)); exact HO_4.out⟩, ⟨by repeat (first | (with_reducible first | exact HB.out | apply below_alloc | apply pw_below_drewN | apply below_drew1) | exact HB.out)⟩⟩
           ·
            rw [if_neg c25] at H; have c25b0 : (x10_15 == (x4_2.length : Int)) = false := beq_eq_false_iff_ne.mpr c25; have c25b1 : (x10_15 != (x4_2.length : Int)) = true := bne_iff_ne.mpr c25; by_cases c27 : 0 ≤ x10_15
            ·
             rw [if_pos c27] at H; have c27b0 : decide (0 ≤ x10_15) = true := decide_eq_true c27; clear c27; by_cases c28 : x10_15 < (x4_2.length : Int)
             ·
              rw [if_pos c28] at H; have c28b0 : decide (x10_15 < (x4_2.length : Int)) = true := decide_eq_true c28; clear c28; by_cases c29 : 0 ≤ x8_2
              ·
               rw [if_pos c29] at H; have c29b0 : decide (0 ≤ x8_2) = true := decide_eq_true c29; clear c29; by_cases c30 : x8_2 < (x4_2.length : Int)
               ·
                rw [if_pos c30] at H; have c30b0 : decide (x8_2 < (x4_2.length : Int)) = true := decide_eq_true c30; clear c30; obtain ⟨y340, hy340⟩ : ∃ y_ : List (List Int), y_ = (x4_2.set (x10_15 : Int).toNat (rd_L1 x4_2 x8_2)) := ⟨_, rfl⟩; (replace H : (petrinetref08_Echelon.l3 kj15 l0 (y340.set (x8_2 : Int).toNat (rd_L1 x4_2 x10_15)) x8_2 x9_2 0) = some (r1, r2) := by first | (rw [hy340]; with_reducible exact H) | (have H2_ := (Option.bind_some _ _).symm.trans H; rw [hy340]; with_reducible exact H2_) | (have H2_ := (Option.bind_some _ _).symm.trans H; with_reducible exact H2_) | with_reducible exact H | (rw [hy340]; exact H) | exact H); have Ny340 := Aside0.mk hy340; clear hy340; obtain ⟨y341, hy341⟩ : ∃ y_ : List (List Int), y_ = (y340.set (x8_2 : Int).toNat (rd_L1 x4_2 x10_15)) := ⟨_, rfl⟩; (replace H : (petrinetref08_Echelon.l3 kj15 l0 y341 x8_2 x9_2 0) = some (r1, r2) := by first | (rw [hy341]; with_reducible exact H) | (have H2_ := (Option.bind_some _ _).symm.trans H; rw [hy341]; with_reducible exact H2_) | (have H2_ := (Option.bind_some _ _).symm.trans H; with_reducible exact H2_) | with_reducible exact H | (rw [hy341]; exact H) | exact H); have Ny341 := Aside0.mk hy341; clear hy341; have H' := Aside0.mk H; clear H; obtain ⟨Ao33, co33, eo33⟩ := Kd.N_slice HO_4.out; subst eo33; (have p338 : 0 ≤ (x10_15 : Int) := of_decide_eq_true (by first | (with_reducible assumption) | assumption)); (have q338 : x10_15 < (x4_2.length : Int) := of_decide_eq_true (by first | (with_reducible assumption) | assumption)); obtain ⟨ad338, A338_0, c338_0, e338, hx338_0, hl338_0, hi338_0⟩ := at_L1 (Kd.N_reads' HO_4.out).2.2 x10_15 p338 q338
                cases e338
                (obtain ⟨ce338, hce338, hMe338, hcc338⟩ := Kd.N_get HO_4.out [] x10_15 p338 (by first | exact q338 | exact of_decide_eq_true (by first | (with_reducible assumption) | assumption) | (have e_ := (Kd.N_reads' HO_4.out).1; omega))); obtain ⟨ua338_0, uc338_0, rfl, ul338_0, ge338_0⟩ := Kd.FK_slice_open hMe338; have hv338_0 := hcc338 0 _ rfl; (rw [Nat.add_zero, show ((Kd.slice 2 (Kd.int .i64))).sz = 1 from rfl, Nat.mul_one] at hv338_0); replace hv338_0 := Option.some.inj (hv338_0.symm.trans hx338_0); injection hv338_0 with hva_ hvn_ hvc_; rw [hva_] at ge338_0; rw [hvc_] at ul338_0; (have HL338_0 := Aside0.mk (show Kd.V (Kd.int .i64) 2 _ w.heap.size _ _ (rd_L1 x4_2 x10_15) from Kd.V_mk ul338_0 ge338_0)); clear hva_ hvn_ hvc_ ge338_0 ul338_0; clear hcc338 hce338; have HR338_0 := Aside0.mk hi338_0; have HC338_0 := Aside0.mk hl338_0; clear hi338_0 hl338_0; replace p338 := eq_true p338; replace q338 := eq_true q338; (have p339 : 0 ≤ (x8_2 : Int) := of_decide_eq_true (by first | (with_reducible assumption) | assumption)); (have q339 : x8_2 < (x4_2.length : Int) := of_decide_eq_true (by first | (with_reducible assumption) | assumption)); obtain ⟨ad339, A339_0, c339_0, e339, hx339_0, hl339_0, hi339_0⟩ := at_L1 (Kd.N_reads' HO_4.out).2.2 x8_2 p339 q339; (obtain rfl : ad338 = ad339 := (by injection e339)); (obtain ⟨ce339, hce339, hMe339, hcc339⟩ := Kd.N_get HO_4.out [] x8_2 p339 (by first | exact q339 | exact of_decide_eq_true (by first | (with_reducible assumption) | assumption) | (have e_ := (Kd.N_reads' HO_4.out).1; omega))); obtain ⟨ua339_0, uc339_0, rfl, ul339_0, ge339_0⟩ := Kd.FK_slice_open hMe339; have hv339_0 := hcc339 0 _ rfl; (rw [Nat.add_zero, show ((Kd.slice 2 (Kd.int .i64))).sz = 1 from rfl, Nat.mul_one] at hv339_0); replace hv339_0 := Option.some.inj (hv339_0.symm.trans hx339_0); injection hv339_0 with hva_ hvn_ hvc_; rw [hva_] at ge339_0; rw [hvc_] at ul339_0; (have HL339_0 := Aside0.mk (show Kd.V (Kd.int .i64) 2 _ w.heap.size _ _ (rd_L1 x4_2 x8_2) from Kd.V_mk ul339_0 ge339_0)); clear hva_ hvn_ hvc_ ge339_0 ul339_0; clear hcc339 hce339; have HR339_0 := Aside0.mk hi339_0; have HC339_0 := Aside0.mk hl339_0; clear hi339_0 hl339_0; replace p339 := eq_true p339; replace q339 := eq_true q339; (have p31 : 0 ≤ (x10_15 : Int) := of_decide_eq_true (by first | (with_reducible assumption) | assumption)); (have q31 : (x10_15 : Int) < ((x4_2.length : Int) : Int) := of_decide_eq_true (by first | (with_reducible assumption) | assumption)); (obtain ⟨go31, co31, eo31, gb31, gl31, cl31, HG31⟩ := Kd.N_form HO_4.out (by omega)); (first | cases eo31 | (injection eo31 with ea_ en_ ec_; (first | subst ea_ | (injection ea_ with ea_; subst ea_)); subst ec_; clear en_)); have GB31 := Aside0.mk gb31; have GG31 := Aside0.mk HG31; clear gb31 gl31 HG31; (first | simp only [add_plain] at hx338_0 | skip); (first | simp only [add_plain] at hx339_0 | skip); obtain ⟨ce31, hcl31, hM31, hcc31, hfr31⟩ := Kd.N_elem HO_4.out [] (x10_15 : Int) p31 q31; obtain ⟨ua31_0, uc31_0, rfl, ul31_0, ge31_0⟩ := Kd.FK_slice_open hM31; have hx31_0 := hcc31 0 _ rfl; have hf31_0 := hfr31 0; (try simp only [show ((Kd.slice 2 (Kd.int .i64))).sz = 1 from rfl, Nat.mul_one, Nat.add_zero] at hx31_0); (try simp only [show ((Kd.slice 2 (Kd.int .i64))).sz = 1 from rfl, Nat.mul_one, Nat.add_zero] at hf31_0); clear hcl31 hcc31 hfr31 hM31; replace p31 := eq_true p31; replace q31 := eq_true q31; (have HX34 := Aside0.mk (show Kd.N (Kd.slice 2 (Kd.int .i64)) 33 wc w.heap.size (fun k_ => (w.heap.size ≤ k_)) (.slice (some ⟨go31, 0, none⟩) x4_2.length co33) x4_2 from (by (with_reducible repeat (first | apply Kd.N_alloc | apply Kd.N_drewN | apply Kd.N_drew)); exact HO_4.out))); (obtain ⟨ce34, hcl34, hM34, hcc34, hfr34⟩ := Kd.N_elem HX34.out [] (x10_15 : Int) (of_decide_eq_true (by first | (with_reducible assumption) | assumption)) (by have h_ : (x10_15 : Int) < ((x4_2.length : Int) : Int) := of_decide_eq_true (by first | (with_reducible assumption) | assumption); first | exact h_ | (have e_ := (Kd.N_reads' HO_4.out).1; omega) | simpa using h_)); obtain ⟨ua34_0, uc34_0, rfl, ul34_0, ge34_0⟩ := Kd.FK_slice_open hM34; (have HP34 := Kd.N_seg HX34.out (x10_15 : Int) (of_decide_eq_true (by first | (with_reducible assumption) | assumption)) (by have h_ : (x10_15 : Int) < ((x4_2.length : Int) : Int) := of_decide_eq_true (by first | (with_reducible assumption) | assumption); first | exact h_ | (have e_ := (Kd.N_reads' HO_4.out).1; omega) | simpa using h_) (seg := [.slice A339_0 (rd_L1 x4_2 x8_2).length c339_0]) (j := 0) hcl34 hcc34 (show 1 ≤ 1 from by decide) (x' := rd_L1 x4_2 x8_2) (Kd.FK_slice_mk (Kd.V_reads' (Kd.V_mono (ok' := (fun k_ => ((fun k_ => (w.heap.size ≤ k_))) k_ ∧ k_ ≠ go31)) (HL339_0.out) (fun k_ hk => ⟨hk.1, fun e_ => (hk.2) (by rw [e_]; rfl)⟩))).2.1 (Kd.V_F (Kd.V_mono (ok' := (fun k_ => ((fun k_ => (w.heap.size ≤ k_))) k_ ∧ k_ ≠ go31)) (HL339_0.out) (fun k_ hk => ⟨hk.1, fun e_ => (hk.2) (by rw [e_]; rfl)⟩)))) (fun _ hk => hk)); have hx34_0 := hcc34 0 _ rfl; (try simp only [show ((Kd.slice 2 (Kd.int .i64))).sz = 1 from rfl, Nat.mul_one, Nat.add_zero] at hx34_0); have hf34_0 := hfr34 0; (try simp only [show ((Kd.slice 2 (Kd.int .i64))).sz = 1 from rfl, Nat.mul_one, Nat.add_zero] at hf34_0); clear hcl34 hcc34 hfr34 hM34; (try simp only [show ((Kd.slice 2 (Kd.int .i64))).sz = 1 from rfl, Nat.mul_one, Nat.add_zero] at HP34); (try simp only [show ((Kd.slice 2 (Kd.int .i64))).sz = 1 from rfl, Nat.mul_one, Nat.add_zero] at HP34); (go_wp2_with (first | ((with_reducible refine gate_store (t := 33) (p := 82) rfl ?_); refine store_event (t := 33) (p := 82) (v := ?vo_w35) (w1 := (wc.setCell ⟨go31, (x10_15 : Int).toNat, none⟩ (.slice A339_0 (rd_L1 x4_2 x8_2).length c339_0))) ?hg ?ho ?hn ?hr ?_; (case ho => rfl); (case hg => rfl); (case hn => rfl); (case hr => first | (go_simp; done) | (go_simp; rfl)); intro w35 hw; have hg : wc.grownBy w35 (some go31) := (by rw [hw]; exact HP34.2); have hp_ : Kd.N (Kd.slice 2 (Kd.int .i64)) 33 w35 w.heap.size (fun k_ => (w.heap.size ≤ k_)) (.slice (some ⟨go31, 0, none⟩) x4_2.length co33) y340 := (by rw [hw, Ny340.out]; exact HP34.1); clear HP34; have n0_ := Aside0.mk (hp_); have n1_ := Aside0.mk (Kd.V_afterv (v := (.slice (some ⟨go31, 0, none⟩) x4_2.length co33)) (v1 := (.slice (some ⟨go31, 0, none⟩) x4_2.length co33)) (ok := (fun k_ => (w.heap.size ≤ k_))) (by (with_reducible repeat (first | apply Kd.V_alloc | apply Kd.V_drewN | apply Kd.V_drew)); exact HL338_0.out) hg (.inl rfl)); have n2_ := Aside0.mk (Kd.V_afterv (v := (.slice (some ⟨go31, 0, none⟩) x4_2.length co33)) (v1 := (.slice (some ⟨go31, 0, none⟩) x4_2.length co33)) (ok := (fun k_ => (w.heap.size ≤ k_))) (by (with_reducible repeat (first | apply Kd.V_alloc | apply Kd.V_drewN | apply Kd.V_drew)); exact HL339_0.out) hg (.inl rfl)); have n3_ := Aside0.mk ((by rw [hw]; exact below_set (HB.out) GB31.out : Below w.heap.size w w35)); clear HO_4; clear HL338_0; clear HL339_0; clear HB; have HO_4 := n0_; have HL338_0 := n1_; have HL339_0 := n2_; have HB := n3_; clear n0_ n1_ n2_ n3_; clear hg hw hp_; have p32 : 0 ≤ (x8_2 : Int) := of_decide_eq_true (by first | (with_reducible assumption) | assumption); have q32 : (x8_2 : Int) < ((x4_2.length : Int) : Int) := of_decide_eq_true (by first | (with_reducible assumption) | assumption); obtain ⟨ce32, hcl32, hM32, hcc32, hfr32⟩ := Kd.N_elem HO_4.out [] (x8_2 : Int) p32 q32; obtain ⟨ua32_0, uc32_0, rfl, ul32_0, ge32_0⟩ := Kd.FK_slice_open hM32; have hx32_0 := hcc32 0 _ rfl; have hf32_0 := hfr32 0; (try simp only [show ((Kd.slice 2 (Kd.int .i64))).sz = 1 from rfl, Nat.mul_one, Nat.add_zero] at hx32_0); (try simp only [show ((Kd.slice 2 (Kd.int .i64))).sz = 1 from rfl, Nat.mul_one, Nat.add_zero] at hf32_0); clear hcl32 hcc32 hfr32 hM32; replace p32 := eq_true p32; replace q32 := eq_true q32; have HX36 := Aside0.mk (show Kd.N (Kd.slice 2 (Kd.int .i64)) 33 w35 w.heap.size (fun k_ => (w.heap.size ≤ k_)) (.slice (some ⟨go31, 0, none⟩) x4_2.length co33) y340 from (by (with_reducible repeat (first | apply Kd.N_alloc | apply Kd.N_drewN | apply Kd.N_drew)); exact HO_4.out)); obtain ⟨ce36, hcl36, hM36, hcc36, hfr36⟩ := Kd.N_elem HX36.out [] (x8_2 : Int) (of_decide_eq_true (by first | (with_reducible assumption) | assumption)) (by have h_ : (x8_2 : Int) < ((x4_2.length : Int) : Int) := of_decide_eq_true (by first | (with_reducible assumption) | assumption); first | exact h_ | (have e_ := (Kd.N_reads' HO_4.out).1; omega) | simpa using h_); obtain ⟨ua36_0, uc36_0, rfl, ul36_0, ge36_0⟩ := Kd.FK_slice_open hM36; have HP36 := Kd.N_seg HX36.out (x8_2 : Int) (of_decide_eq_true (by first | (with_reducible assumption) | assumption)) (by have h_ : (x8_2 : Int) < ((x4_2.length : Int) : Int) := of_decide_eq_true (by first | (with_reducible assumption) | assumption); first | exact h_ | (have e_ := (Kd.N_reads' HO_4.out).1; omega) | simpa using h_) (seg := [.slice A338_0 (rd_L1 x4_2 x10_15).length c338_0]) (j := 0) hcl36 hcc36 (show 1 ≤ 1 from by decide) (x' := rd_L1 x4_2 x10_15) (Kd.FK_slice_mk (Kd.V_reads' (Kd.V_mono (ok' := (fun k_ => ((fun k_ => (w.heap.size ≤ k_))) k_ ∧ k_ ≠ go31)) (HL338_0.out) (fun k_ hk => ⟨hk.1, fun e_ => (hk.2) (by rw [e_]; rfl)⟩))).2.1 (Kd.V_F (Kd.V_mono (ok' := (fun k_ => ((fun k_ => (w.heap.size ≤ k_))) k_ ∧ k_ ≠ go31)) (HL338_0.out) (fun k_ hk => ⟨hk.1, fun e_ => (hk.2) (by rw [e_]; rfl)⟩)))) (fun _ hk => hk); have hx36_0 := hcc36 0 _ rfl; (try simp only [show ((Kd.slice 2 (Kd.int .i64))).sz = 1 from rfl, Nat.mul_one, Nat.add_zero] at hx36_0); have hf36_0 := hfr36 0; (try simp only [show ((Kd.slice 2 (Kd.int .i64))).sz = 1 from rfl, Nat.mul_one, Nat.add_zero] at hf36_0); clear hcl36 hcc36 hfr36 hM36; (try simp only [show ((Kd.slice 2 (Kd.int .i64))).sz = 1 from rfl, Nat.mul_one, Nat.add_zero] at HP36); (try simp only [show ((Kd.slice 2 (Kd.int .i64))).sz = 1 from rfl, Nat.mul_one, Nat.add_zero] at HP36)) | ((with_reducible refine gate_store (t := 33) (p := 86) rfl ?_); refine store_event (t := 33) (p := 86) (v := ?vo_w37) (w1 := (w35.setCell ⟨go31, (x8_2 : Int).toNat, none⟩ (.slice A338_0 (rd_L1 x4_2 x10_15).length c338_0))) ?hg ?ho ?hn ?hr ?_; (case ho => rfl); (case hg => rfl); (case hn => rfl); (case hr => first | (go_simp; done) | (go_simp; rfl)); intro w37 hw; have hg : w35.grownBy w37 (some go31) := (by rw [hw]; exact HP36.2); have hp_ : Kd.N (Kd.slice 2 (Kd.int .i64)) 33 w37 w.heap.size (fun k_ => (w.heap.size ≤ k_)) (.slice (some ⟨go31, 0, none⟩) x4_2.length co33) y341 := (by rw [hw, Ny341.out]; exact HP36.1); clear HP36; have n0_ := Aside0.mk (hp_); have n1_ := Aside0.mk (Kd.V_afterv (v := (.slice (some ⟨go31, 0, none⟩) x4_2.length co33)) (v1 := (.slice (some ⟨go31, 0, none⟩) x4_2.length co33)) (ok := (fun k_ => (w.heap.size ≤ k_))) (by (with_reducible repeat (first | apply Kd.V_alloc | apply Kd.V_drewN | apply Kd.V_drew)); exact HL338_0.out) hg (.inl rfl)); have n2_ := Aside0.mk (Kd.V_afterv (v := (.slice (some ⟨go31, 0, none⟩) x4_2.length co33)) (v1 := (.slice (some ⟨go31, 0, none⟩) x4_2.length co33)) (ok := (fun k_ => (w.heap.size ≤ k_))) (by (with_reducible repeat (first | apply Kd.V_alloc | apply Kd.V_drewN | apply Kd.V_drew)); exact HL339_0.out) hg (.inl rfl)); have n3_ := Aside0.mk ((by rw [hw]; exact below_set (HB.out) GB31.out : Below w.heap.size w w37)); clear HO_4; clear HL338_0; clear HL339_0; clear HB; have HO_4 := n0_; have HL338_0 := n1_; have HL339_0 := n2_; have HB := n3_; clear n0_ n1_ n2_ n3_; clear hg hw hp_)))
                go_loopg [12] kj15 (fun kq v12 w' => ∃ (x4_5 : List (List Int)) (x12_5 : Int), v12 = .int .i64 x12_5 ∧ Aside0 (petrinetref08_Echelon.l3 kq l0 x4_5 x8_2 x9_2 x12_5 = some (r1, r2)) ∧ Aside0 (kq ≤ kj15) ∧ Aside0 (Kd.N (Kd.slice 2 (Kd.int .i64)) 33 w' w.heap.size (fun k_ => (w.heap.size ≤ k_)) (.slice (some ⟨go31, 0, none⟩) x4_2.length co33) x4_5) ∧ Aside0 (Below w.heap.size w w'))
                case atStart => exact ⟨(y341), (0), (by first | rfl | (simp; done) | (simp [*]; done)), H', ⟨Nat.le_refl _⟩, ⟨by (with_reducible repeat (first | apply Kd.N_alloc | apply Kd.N_drewN | apply Kd.N_drew)); exact HO_4.out⟩, ⟨by repeat (first | (with_reducible first | exact HB.out | apply below_alloc | apply pw_below_drewN | apply below_drew1) | exact HB.out)⟩⟩
                case round =>
                 clear H'; (try clear c1); (try clear c2); (try clear c2b0); (try clear p2); (try clear c3); (try clear c3b0); (try clear p3); (try clear q3); (try clear hx3); (try clear qi3); (try clear hf3); (try clear c5); (try clear c6); (try clear p6); (try clear c12); (try clear c12b0); (try clear c12b1); (try clear c13); (try clear c13b0); (try clear c15); (try clear c17); (try clear c17b0); (try clear c18); (try clear c18b0); (try clear c19); (try clear c19b0); (try clear c20); (try clear c20b0); (try clear c21); (try clear c21b0); (try clear c21b1); (try clear c25); (try clear c25b0); (try clear c25b1); (try clear c27); (try clear c27b0); (try clear c28); (try clear c28b0); (try clear c29); (try clear c29b0); (try clear c30); (try clear c30b0); (try clear c31); (try clear p31); (try clear q31); (try clear hx31); (try clear hf31); (try clear c32); (try clear p32); (try clear q32); (try clear hx32); (try clear hf32); (try clear c33); (try clear p33); (try clear q33); (try clear hx33); (try clear qi33); (try clear c34); (try clear hx34); (try clear hf34); (try clear c36); (try clear hx36); (try clear hf36); (try clear hx31_0); (try clear hx327_0); (try clear hx32_0); (try clear hx335_0); (try clear hx336_0); (try clear hx337_0); (try clear hx338_0); (try clear hx339_0); (try clear hx34_0); (try clear hx36_0); (try clear p2); (try clear p3); (try clear p31); (try clear p32); (try clear p327); (try clear p335); (try clear p336); (try clear p337); (try clear p338); (try clear p339); (try clear p6); (try clear q3); (try clear q31); (try clear q32); (try clear q327); (try clear q335); (try clear q336); (try clear q337); (try clear q338); (try clear q339); obtain ⟨x4_5, x12_5, rfl, HA, HK5, HO_4, HB⟩ := hrel; have hl4_5 := (Kd.N_reads' HO_4.out).1; rw [hl4_5] at HO_4; (try simp only [hl4_5])
                 cases gk with
                 | zero => exact absurd HA.out (by simp [petrinetref08_Echelon.l3])
                 | succ k5 =>
                  have H := HA.out; clear HA; simp only [petrinetref08_Echelon.l3] at H; by_cases c38 : x12_5 < (x4_5.length : Int)
                  ·
                   rw [if_pos c38] at H; have c38b0 : decide (x12_5 < (x4_5.length : Int)) = true := decide_eq_true c38; clear c38; have HC39 := Aside0.mk H; clear H; go_upto_region 23 with (fail); (go_cut [105] (fun v105 wc => ∃ (kq : Nat) (x105_38 : Bool), v105 = .bool x105_38 ∧ Aside0 (petrinetref08_Echelon.j6 kq l0 x4_5 x8_2 x9_2 x12_5 x105_38 = some (r1, r2)) ∧ Aside0 (kq ≤ k5) ∧ Aside0 (Kd.N (Kd.slice 2 (Kd.int .i64)) 33 wc w.heap.size (fun k_ => (w.heap.size ≤ k_)) (.slice (some ⟨go31, 0, none⟩) x4_5.length co33) x4_5) ∧ Aside0 (Below w.heap.size w wc)))
                   case first =>
                    have H := HC39.out; clear HC39; by_cases c40 : x12_5 = x8_2
                    ·
                     rw [if_pos c40] at H; have c40b0 : (x12_5 == x8_2) = true := beq_iff_eq.mpr c40; have c40b1 : (x12_5 != x8_2) = false := bne_eq_false_iff_eq.mpr c40; clear c40; (first | rw [c40b0] | (simp only [i64_w, i32_w]; rw [c40b0]) | skip); have H' := Aside0.mk H; clear H; go_wp2; go_meet
                     case rel => exact ⟨_, (false), (by first | rfl | (simp; done) | (simp [*]; done)), H', ⟨by have := HK1.out; have := HK2.out; have := HJ10.out; have := HJ15.out; have := HK5.out; first | omega | exact Nat.le_refl _⟩, ⟨by (try simp only [hl4_5]); (with_reducible repeat (first | apply Kd.N_alloc | apply Kd.N_drewN | apply Kd.N_drew)); exact HO_4.out⟩, ⟨by repeat (first | (with_reducible first | exact HB.out | apply below_alloc | apply pw_below_drewN | apply below_drew1) | exact HB.out)⟩⟩
                    ·
                     rw [if_neg c40] at H; have c40b0 : (x12_5 == x8_2) = false := beq_eq_false_iff_ne.mpr c40; have c40b1 : (x12_5 != x8_2) = true := bne_iff_ne.mpr c40; (first | rw [c40b0] | (simp only [i64_w, i32_w]; rw [c40b0]) | skip); by_cases c41 : 0 ≤ x12_5
                     ·
                      rw [if_pos c41] at H; have c41b0 : decide (0 ≤ x12_5) = true := decide_eq_true c41; clear c41; by_cases c42 : 0 ≤ x9_2
                      ·
                       rw [if_pos c42] at H; have c42b0 : decide (0 ≤ x9_2) = true := decide_eq_true c42; clear c42; by_cases c43 : x9_2 < ((rd_L1 x4_5 x12_5).length : Int)
                       ·
                        rw [if_pos c43] at H; have c43b0 : decide (x9_2 < ((rd_L1 x4_5 x12_5).length : Int)) = true := decide_eq_true c43; clear c43; have H' := Aside0.mk H; clear H; (have p342 : 0 ≤ (x12_5 : Int) := of_decide_eq_true (by first | (with_reducible assumption) | assumption)); (have q342 : x12_5 < (x4_5.length : Int) := of_decide_eq_true (by first | (with_reducible assumption) | assumption)); obtain ⟨ad342, A342_0, c342_0, e342, hx342_0, hl342_0, hi342_0⟩ := at_L1 (Kd.N_reads' HO_4.out).2.2 x12_5 p342 q342; (obtain rfl : (⟨go31, 0, none⟩ : Addr) = ad342 := (by injection e342)); (obtain ⟨ce342, hce342, hMe342, hcc342⟩ := Kd.N_get HO_4.out [] x12_5 p342 (by first | exact q342 | exact of_decide_eq_true (by first | (with_reducible assumption) | assumption) | (have e_ := (Kd.N_reads' HO_4.out).1; omega))); obtain ⟨ua342_0, uc342_0, rfl, ul342_0, ge342_0⟩ := Kd.FK_slice_open hMe342; have hv342_0 := hcc342 0 _ rfl; (rw [Nat.add_zero, show ((Kd.slice 2 (Kd.int .i64))).sz = 1 from rfl, Nat.mul_one] at hv342_0); replace hv342_0 := Option.some.inj (hv342_0.symm.trans hx342_0); injection hv342_0 with hva_ hvn_ hvc_; rw [hva_] at ge342_0; rw [hvc_] at ul342_0; (have HL342_0 := Aside0.mk (show Kd.V (Kd.int .i64) 2 _ w.heap.size _ _ (rd_L1 x4_5 x12_5) from Kd.V_mk ul342_0 ge342_0)); clear hva_ hvn_ hvc_ ge342_0 ul342_0; clear hcc342 hce342; (first | simp only [add_plain] at hx342_0 | simp only [add_at] at hx342_0 | simp only [Addr.add, Nat.zero_add] at hx342_0 | skip); have HR342_0 := Aside0.mk hi342_0; have HC342_0 := Aside0.mk hl342_0; clear hi342_0 hl342_0; replace p342 := eq_true p342; replace q342 := eq_true q342; (have p343 : 0 ≤ (x9_2 : Int) := of_decide_eq_true (by first | (with_reducible assumption) | assumption)); (have q343 : x9_2 < ((rd_L1 x4_5 x12_5).length : Int) := of_decide_eq_true (by first | (with_reducible assumption) | assumption)); (obtain ⟨ad343, e343, hx343_0⟩ := Kd.at_int (by repeat (first | (with_reducible exact HR342_0.out) | (with_reducible refine Kd.C_alloc ?_ _) | (with_reducible refine Kd.C_drewN ?_ _) | (with_reducible refine Kd.C_drew ?_) | exact HR342_0.out)) x9_2 p343 q343)
                        cases e343
                        replace p343 := eq_true p343; replace q343 := eq_true q343; go_wp2; go_meet
                        case rel => exact ⟨_, (((rd (rd_L1 x4_5 x12_5) x9_2) != 0)), (by first | rfl | (simp; done) | (simp [*]; done)), H', ⟨by have := HK1.out; have := HK2.out; have := HJ10.out; have := HJ15.out; have := HK5.out; first | omega | exact Nat.le_refl _⟩, ⟨by (try simp only [hl4_5]); (with_reducible repeat (first | apply Kd.N_alloc | apply Kd.N_drewN | apply Kd.N_drew)); exact HO_4.out⟩, ⟨by repeat (first | (with_reducible first | exact HB.out | apply below_alloc | apply pw_below_drewN | apply below_drew1) | exact HB.out)⟩⟩
                       ·
                        rw [if_neg c43] at H; (exact absurd H (by simp))
                      ·
                       rw [if_neg c42] at H; (exact absurd H (by simp))
                     ·
                      rw [if_neg c41] at H; (exact absurd H (by simp))
                   case rest =>
                    clear HC39; (try clear c1); (try clear c2); (try clear c2b0); (try clear p2); (try clear c3); (try clear c3b0); (try clear p3); (try clear q3); (try clear hx3); (try clear qi3); (try clear hf3); (try clear c4); (try clear c5); (try clear c6); (try clear p6); (try clear c12); (try clear c12b0); (try clear c12b1); (try clear c13); (try clear c13b0); (try clear c15); (try clear c17); (try clear c17b0); (try clear c18); (try clear c18b0); (try clear c19); (try clear c19b0); (try clear c20); (try clear c20b0); (try clear c21); (try clear c21b0); (try clear c21b1); (try clear c25); (try clear c25b0); (try clear c25b1); (try clear c27); (try clear c27b0); (try clear c28); (try clear c28b0); (try clear c29); (try clear c29b0); (try clear c30); (try clear c30b0); (try clear c31); (try clear p31); (try clear q31); (try clear hx31); (try clear hf31); (try clear c32); (try clear p32); (try clear q32); (try clear hx32); (try clear hf32); (try clear c33); (try clear p33); (try clear q33); (try clear hx33); (try clear qi33); (try clear c34); (try clear p34); (try clear q34); (try clear hx34); (try clear hf34); (try clear c36); (try clear hx36); (try clear hf36); (try clear c38); (try clear c38b0); (try clear c40); (try clear c40b0); (try clear c40b1); (try clear c41); (try clear c41b0); (try clear c42); (try clear c42b0); (try clear c43); (try clear c43b0); (try clear hx31_0); (try clear hx327_0); (try clear hx32_0); (try clear hx335_0); (try clear hx336_0); (try clear hx337_0); (try clear hx338_0); (try clear hx339_0); (try clear hx342_0); (try clear hx343_0); (try clear hx34_0); (try clear hx36_0); (try clear p2); (try clear p3); (try clear p31); (try clear p32); (try clear p327); (try clear p33); (try clear p335); (try clear p336); (try clear p337); (try clear p338); (try clear p339); (try clear p342); (try clear p343); (try clear p6); (try clear q3); (try clear q31); (try clear q32); (try clear q327); (try clear q33); (try clear q335); (try clear q336); (try clear q337); (try clear q338); (try clear q339); (try clear q342); (try clear q343); obtain ⟨kq, x105_38, rfl, HA, HJ38, HO_4, HB⟩ := hcut
                    cases kq with
                    | zero => exact absurd HA.out (by simp [petrinetref08_Echelon.j6])
                    | succ kj38 =>
                     have H := HA.out; clear HA; simp only [petrinetref08_Echelon.j6] at H; by_cases c44 : x105_38 = true
                     ·
                      subst c44; (have H1 : (if 0 ≤ x12_5 then (if x12_5 < (x4_5.length : Int) then (if 0 ≤ x8_2 then (if x8_2 < (x4_5.length : Int) then ((petrinetref08_clear.f kj38 (rd_L1 x4_5 x12_5) (rd_L1 x4_5 x8_2) x9_2).bind fun bt346 => (if bt346.2 = true then (petrinetref08_Echelon.l3 kj38 l0 (x4_5.set (x12_5 : Int).toNat bt346.1) x8_2 x9_2 (wrap64 (x12_5 + 1))) else (some (([] : List (List Int)), false)))) else (none)) else (none)) else (none)) else (none)) = some (r1, r2) := by rw [if_pos rfl] at H; exact H); clear H; have H := H1; clear H1; by_cases c45 : 0 ≤ x12_5
                      ·
                       rw [if_pos c45] at H; have c45b0 : decide (0 ≤ x12_5) = true := decide_eq_true c45; clear c45; by_cases c46 : x12_5 < (x4_5.length : Int)
                       ·
                        rw [if_pos c46] at H; have c46b0 : decide (x12_5 < (x4_5.length : Int)) = true := decide_eq_true c46; clear c46; by_cases c47 : 0 ≤ x8_2
                        ·
                         rw [if_pos c47] at H; have c47b0 : decide (0 ≤ x8_2) = true := decide_eq_true c47; clear c47; by_cases c48 : x8_2 < (x4_5.length : Int)
                         ·
                          rw [if_pos c48] at H; have c48b0 : decide (x8_2 < (x4_5.length : Int)) = true := decide_eq_true c48; clear c48; replace H := Option.bind_eq_some_iff.mp H; obtain ⟨⟨t346, t347⟩, A490, H⟩ := H; replace H : (if t347 = true then (petrinetref08_Echelon.l3 kj38 l0 (x4_5.set (x12_5 : Int).toNat t346) x8_2 x9_2 (wrap64 (x12_5 + 1))) else (some (([] : List (List Int)), false))) = some (r1, r2) := H; have A49 := Aside0.mk A490; clear A490; by_cases c50 : t347 = true
                          ·
                           subst c50; (have H1 : (petrinetref08_Echelon.l3 kj38 l0 (x4_5.set (x12_5 : Int).toNat t346) x8_2 x9_2 (wrap64 (x12_5 + 1))) = some (r1, r2) := by rw [if_pos rfl] at H; exact H); clear H; have H := H1; clear H1; obtain ⟨y350, hy350⟩ : ∃ y_ : List (List Int), y_ = (x4_5.set (x12_5 : Int).toNat t346) := ⟨_, rfl⟩; (replace H : (petrinetref08_Echelon.l3 kj38 l0 y350 x8_2 x9_2 (wrap64 (x12_5 + 1))) = some (r1, r2) := by first | (rw [hy350]; with_reducible exact H) | (have H2_ := (Option.bind_some _ _).symm.trans H; rw [hy350]; with_reducible exact H2_) | (have H2_ := (Option.bind_some _ _).symm.trans H; with_reducible exact H2_) | with_reducible exact H | (rw [hy350]; exact H) | exact H); have Ny350 := Aside0.mk hy350; clear hy350; have H' := Aside0.mk H; clear H; (try go_wp2); have n0_ := Aside0.mk (Kd.N_drew HO_4.out); have n1_ := Aside0.mk (below_drew1 HB.out); clear HO_4; clear HB; have HO_4 := n0_; have HB := n1_; clear n0_ n1_; (have p344 : 0 ≤ (x12_5 : Int) := of_decide_eq_true (by first | (with_reducible assumption) | assumption)); (have q344 : x12_5 < (x4_5.length : Int) := of_decide_eq_true (by first | (with_reducible assumption) | assumption)); obtain ⟨ad344, A344_0, c344_0, e344, hx344_0, hl344_0, hi344_0⟩ := at_L1 (Kd.N_reads' HO_4.out).2.2 x12_5 p344 q344; (obtain rfl : (⟨go31, 0, none⟩ : Addr) = ad344 := (by injection e344)); (obtain ⟨ce344, hce344, hMe344, hcc344⟩ := Kd.N_get HO_4.out [] x12_5 p344 (by first | exact q344 | exact of_decide_eq_true (by first | (with_reducible assumption) | assumption) | (have e_ := (Kd.N_reads' HO_4.out).1; omega))); obtain ⟨ua344_0, uc344_0, rfl, ul344_0, ge344_0⟩ := Kd.FK_slice_open hMe344; have hv344_0 := hcc344 0 _ rfl; (rw [Nat.add_zero, show ((Kd.slice 2 (Kd.int .i64))).sz = 1 from rfl, Nat.mul_one] at hv344_0); replace hv344_0 := Option.some.inj (hv344_0.symm.trans hx344_0); injection hv344_0 with hva_ hvn_ hvc_; rw [hva_] at ge344_0; rw [hvc_] at ul344_0; (have HL344_0 := Aside0.mk (show Kd.V (Kd.int .i64) 2 _ w.heap.size _ _ (rd_L1 x4_5 x12_5) from Kd.V_mk ul344_0 ge344_0)); clear hva_ hvn_ hvc_ ge344_0 ul344_0; clear hcc344 hce344; (first | simp only [add_plain] at hx344_0 | simp only [add_at] at hx344_0 | simp only [Addr.add, Nat.zero_add] at hx344_0 | skip); have HR344_0 := Aside0.mk hi344_0; have HC344_0 := Aside0.mk hl344_0; clear hi344_0 hl344_0; replace p344 := eq_true p344; replace q344 := eq_true q344; (have p345 : 0 ≤ (x8_2 : Int) := of_decide_eq_true (by first | (with_reducible assumption) | assumption)); (have q345 : x8_2 < (x4_5.length : Int) := of_decide_eq_true (by first | (with_reducible assumption) | assumption)); obtain ⟨ad345, A345_0, c345_0, e345, hx345_0, hl345_0, hi345_0⟩ := at_L1 (Kd.N_reads' HO_4.out).2.2 x8_2 p345 q345; (obtain rfl : (⟨go31, 0, none⟩ : Addr) = ad345 := (by injection e345)); (obtain ⟨ce345, hce345, hMe345, hcc345⟩ := Kd.N_get HO_4.out [] x8_2 p345 (by first | exact q345 | exact of_decide_eq_true (by first | (with_reducible assumption) | assumption) | (have e_ := (Kd.N_reads' HO_4.out).1; omega))); obtain ⟨ua345_0, uc345_0, rfl, ul345_0, ge345_0⟩ := Kd.FK_slice_open hMe345; have hv345_0 := hcc345 0 _ rfl; (rw [Nat.add_zero, show ((Kd.slice 2 (Kd.int .i64))).sz = 1 from rfl, Nat.mul_one] at hv345_0); replace hv345_0 := Option.some.inj (hv345_0.symm.trans hx345_0); injection hv345_0 with hva_ hvn_ hvc_; rw [hva_] at ge345_0; rw [hvc_] at ul345_0; (have HL345_0 := Aside0.mk (show Kd.V (Kd.int .i64) 2 _ w.heap.size _ _ (rd_L1 x4_5 x8_2) from Kd.V_mk ul345_0 ge345_0)); clear hva_ hvn_ hvc_ ge345_0 ul345_0; clear hcc345 hce345; (first | simp only [add_plain] at hx345_0 | simp only [add_at] at hx345_0 | simp only [Addr.add, Nat.zero_add] at hx345_0 | skip); have HR345_0 := Aside0.mk hi345_0; have HC345_0 := Aside0.mk hl345_0; clear hi345_0 hl345_0; replace p345 := eq_true p345; replace q345 := eq_true q345; (refine start_ (n := 15) (S := fun w' => w'.cell? ⟨go31, (x12_5).toNat, none⟩ = some (.slice A344_0 (rd_L1 x4_5 x12_5).length c344_0) ∧ w'.cell? ⟨go31, (x8_2).toNat, none⟩ = some (.slice A345_0 (rd_L1 x4_5 x8_2).length c345_0)) (ds := []) #[false, false, false, false, false, false, false, false, false, false, false, false, false, false, false] (by kernel_rfl) rfl rfl ⟨hx344_0, hx345_0⟩ (fun hHeld => ?_); refine with_tabW petrinetref08_Echelon.tab24 petrinetref08_Echelon.bits24 (fun HT_ HW_ => ?_)); generalize wc.drew = w52 at HO_4 HB HL344_0 HL345_0 HR344_0 HR345_0 hx344_0 hx345_0 hHeld ⊢; (refine pure_ (i := 0) (N := some 107) (v := ?_) (a' := ?_) #[true, false, false, false, false, false, false, false, false, false, false, false, false, false, false] rfl rfl (any_of HT_.out (by kernel_rfl)) (fun _ _ _ h => h) (Or.inl ⟨by rfl, ?_⟩) ?_ ?_); rotate_left
                           ·
                            intro w'; go_simp; (with_reducible rfl)
                           rotate_left
                           ·
                            simp only [Act.put, List.setIfInBounds_toArray, List.set_cons_zero, List.set_cons_succ, i64_w, i32_w]; rfl
                           (refine pure_ (i := 1) (N := some 108) (v := ?_) (a' := ?_) #[true, true, false, false, false, false, false, false, false, false, false, false, false, false, false] rfl rfl (any_of HT_.out (by kernel_rfl)) (fun _ _ _ h => h) (Or.inl ⟨by rfl, ?_⟩) ?_ ?_); rotate_left
                           ·
                            intro w'; go_simp; (with_reducible rfl)
                           rotate_left
                           ·
                            simp only [Act.put, List.setIfInBounds_toArray, List.set_cons_zero, List.set_cons_succ, i64_w, i32_w]; rfl
                           (refine pure_ (i := 2) (N := some 109) (v := ?_) (a' := ?_) #[true, true, true, false, false, false, false, false, false, false, false, false, false, false, false] rfl rfl (any_of HT_.out (by kernel_rfl)) (fun _ _ _ h => h) (Or.inl ⟨by rfl, ?_⟩) ?_ ?_); rotate_left
                           ·
                            intro w'; go_simp; (with_reducible rfl)
                           rotate_left
                           ·
                            simp only [Act.put, List.setIfInBounds_toArray, List.set_cons_zero, List.set_cons_succ, i64_w, i32_w]; rfl
                           (refine pure_ (i := 4) (N := some 111) (v := ?_) (a' := ?_) #[true, true, true, false, true, false, false, false, false, false, false, false, false, false, false] rfl rfl (any_of HT_.out (by kernel_rfl)) (fun _ _ _ h => h) (Or.inl ⟨by rfl, ?_⟩) ?_ ?_); rotate_left
                           ·
                            intro w'; go_simp; (with_reducible rfl)
                           rotate_left
                           ·
                            simp only [Act.put, List.setIfInBounds_toArray, List.set_cons_zero, List.set_cons_succ, i64_w, i32_w]; rfl
                           (refine pure_ (i := 5) (N := some 112) (v := ?_) (a' := ?_) #[true, true, true, false, true, true, false, false, false, false, false, false, false, false, false] rfl rfl (any_of HT_.out (by kernel_rfl)) (fun _ _ _ h => h) (Or.inl ⟨by rfl, ?_⟩) ?_ ?_); rotate_left
                           ·
                            intro w'; go_simp; (with_reducible rfl)
                           rotate_left
                           ·
                            simp only [Act.put, List.setIfInBounds_toArray, List.set_cons_zero, List.set_cons_succ, i64_w, i32_w]; rfl
                           (refine pure_ (i := 6) (N := some 113) (v := ?_) (a' := ?_) #[true, true, true, false, true, true, true, false, false, false, false, false, false, false, false] rfl rfl (any_of HT_.out (by kernel_rfl)) (fun _ _ _ h => h) (Or.inl ⟨by rfl, ?_⟩) ?_ ?_); rotate_left
                           ·
                            intro w'; go_simp; (with_reducible rfl)
                           rotate_left
                           ·
                            simp only [Act.put, List.setIfInBounds_toArray, List.set_cons_zero, List.set_cons_succ, i64_w, i32_w]; rfl
                           (refine pure_ (i := 8) (N := some 115) (v := ?_) (a' := ?_) #[true, true, true, false, true, true, true, false, true, false, false, false, false, false, false] rfl rfl (any_of HT_.out (by kernel_rfl)) (fun _ _ _ h => h) (Or.inl ⟨by rfl, ?_⟩) ?_ ?_); rotate_left
                           ·
                            intro w'; go_simp; (with_reducible rfl)
                           rotate_left
                           ·
                            simp only [Act.put, List.setIfInBounds_toArray, List.set_cons_zero, List.set_cons_succ, i64_w, i32_w]; rfl
                           (refine take_ (i := 3) (N := some 110) (v := ?_) (a' := ?_) #[true, true, true, true, true, true, true, false, true, false, false, false, false, false, false] rfl rfl (take_ofW HT_.out HW_.out (by kernel_rfl)) (fun _ _ _ h => h) (Or.inl ⟨by rfl, ?_⟩) hHeld ?_ ?_); rotate_left
                           ·
                            rintro w' ⟨s0, s1⟩; go_simp; (with_reducible rfl)
                           rotate_left
                           ·
                            simp only [Act.put, List.setIfInBounds_toArray, List.set_cons_zero, List.set_cons_succ, i64_w, i32_w]; rfl
                           (refine take_ (i := 7) (N := some 114) (v := ?_) (a' := ?_) #[true, true, true, true, true, true, true, true, true, false, false, false, false, false, false] rfl rfl (take_ofW HT_.out HW_.out (by kernel_rfl)) (fun _ _ _ h => h) (Or.inl ⟨by rfl, ?_⟩) hHeld ?_ ?_); rotate_left
                           ·
                            rintro w' ⟨s0, s1⟩; go_simp; (with_reducible rfl)
                           rotate_left
                           ·
                            simp only [Act.put, List.setIfInBounds_toArray, List.set_cons_zero, List.set_cons_succ, i64_w, i32_w]; rfl
                           (refine one_ (i := 9) (N := some 116) #[true, true, true, true, true, true, true, true, true, true, false, false, false, false, false] rfl rfl (one_of HT_.out (by kernel_rfl)) (by decide) (fun K hK => ?_)); (refine goes_ Try.func34 (by kernel_rfl) rfl #[.slice A344_0 (rd_L1 x4_5 x12_5).length c344_0, .slice A345_0 (rd_L1 x4_5 x8_2).length c345_0, .int .i64 x9_2] (by rfl) rfl rfl (by (try simp only [List.map_toArray, List.map_cons, List.map_nil]); first | done | rfl | (simp only [List.length_drop, List.length_take]; rfl)) ?_); (with_reducible refine (petrinetref08_clear.calls kj38 _ _ (rd_L1 x4_5 x12_5) _ _ (rd_L1 x4_5 x8_2) x9_2 t346 true _ ?side1 ?side2 ?side3 ?side4 A49.out).mono ?_)
                           (case side1 => repeat (first | exact (by repeat (first | (with_reducible exact HR344_0.out) | (with_reducible refine Kd.C_alloc ?_ _) | (with_reducible refine Kd.C_drewN ?_ _) | (with_reducible refine Kd.C_drew ?_) | exact HR344_0.out)) | (with_reducible refine Kd.C_alloc ?_ _) | (with_reducible refine Kd.C_drewN ?_ _) | (with_reducible refine Kd.C_drew ?_)))
                           (case side2 => exact HC344_0.out)
                           (case side3 => repeat (first | exact (by repeat (first | (with_reducible exact HR345_0.out) | (with_reducible refine Kd.C_alloc ?_ _) | (with_reducible refine Kd.C_drewN ?_ _) | (with_reducible refine Kd.C_drew ?_) | exact HR345_0.out)) | (with_reducible refine Kd.C_alloc ?_ _) | (with_reducible refine Kd.C_drewN ?_ _) | (with_reducible refine Kd.C_drew ?_)))
                           (case side4 => exact HC345_0.out)
                           rintro e w53 ⟨v348, rfl, ho0, hb⟩; have HS0_ := (hb.cell (World.block_lt_of_cell? _ _ (hHeld.1))).trans (hHeld.1); have HS1_ := (hb.cell (World.block_lt_of_cell? _ _ (hHeld.2))).trans (hHeld.2); refine ⟨_, rfl, ?_⟩; (have n0_ := Aside0.mk (Kd.N_elder' (by (with_reducible repeat (first | apply Kd.N_alloc | apply Kd.N_drewN | apply Kd.N_drew)); exact HO_4.out) (Kd.R_base ho0) hb)); (have n1_ := Aside0.mk (Kd.V_elder' (by (with_reducible repeat (first | apply Kd.V_alloc | apply Kd.V_drewN | apply Kd.V_drew)); exact HL344_0.out) (Kd.R_base ho0) hb)); (have n2_ := Aside0.mk (Kd.V_elder' (by (with_reducible repeat (first | apply Kd.V_alloc | apply Kd.V_drewN | apply Kd.V_drew)); exact HL345_0.out) (Kd.R_base ho0) hb)); (have n3_ := Aside0.mk (Kd.R_lower (Kd.R_newM (M := fun k_ => (w.heap.size ≤ k_)) ho0 (below_size (by repeat (first | (with_reducible first | exact HB.out | apply below_alloc | apply pw_below_drewN | apply below_drew1) | exact HB.out))) (fun k_ h_ => h_)) (below_size (by repeat (first | (with_reducible first | exact HB.out | apply below_alloc | apply pw_below_drewN | apply below_drew1) | exact HB.out))))); (have n4_ := Aside0.mk (Kd.C_below (by repeat (first | (with_reducible exact HR344_0.out) | (with_reducible refine Kd.C_alloc ?_ _) | (with_reducible refine Kd.C_drewN ?_ _) | (with_reducible refine Kd.C_drew ?_) | exact HR344_0.out)) hb)); (have n5_ := Aside0.mk (Kd.C_below (by repeat (first | (with_reducible exact HR345_0.out) | (with_reducible refine Kd.C_alloc ?_ _) | (with_reducible refine Kd.C_drewN ?_ _) | (with_reducible refine Kd.C_drew ?_) | exact HR345_0.out)) hb)); (have n6_ := Aside0.mk (below_step (by repeat (first | (with_reducible first | exact HB.out | apply below_alloc | apply pw_below_drewN | apply below_drew1) | exact HB.out)) hb)); clear HO_4; clear HL344_0; clear HL345_0; clear HR344_0; clear HR345_0; clear HB; have HO_4 := n0_; have HL344_0 := n1_; have HL345_0 := n2_; have HO349 := n3_; have HR344_0 := n4_; have HR345_0 := n5_; have HB := n6_; clear n0_ n1_ n2_ n3_ n4_ n5_ n6_; (try clear hb); (try clear hb2); (try clear hk); (try clear hi); (try clear ho0); (refine hK.out _ _ ⟨HS0_, HS1_⟩ (fun hHeld => ?_)); clear hK K; refine norm_ (a' := ?_) ?_ ?_; rotate_left
                           ·
                            show Act.put _ (some 116) _ = _
                            simp only [Act.put, List.setIfInBounds_toArray, List.set_cons_zero, List.set_cons_succ, i64_w, i32_w]; rfl
                           (refine pure_ (i := 10) (N := some 106) (v := ?_) (a' := ?_) #[true, true, true, true, true, true, true, true, true, true, true, false, false, false, false] rfl rfl (any_of HT_.out (by kernel_rfl)) (fun _ _ _ h => h) (Or.inl ⟨by rfl, ?_⟩) ?_ ?_); rotate_left
                           ·
                            intro w'; go_simp; (with_reducible rfl)
                           rotate_left
                           ·
                            simp only [Act.put, List.setIfInBounds_toArray, List.set_cons_zero, List.set_cons_succ, i64_w, i32_w]; rfl
                           (refine pure_ (i := 11) (N := some 117) (v := ?_) (a' := ?_) #[true, true, true, true, true, true, true, true, true, true, true, true, false, false, false] rfl rfl (any_of HT_.out (by kernel_rfl)) (fun _ _ _ h => h) (Or.inl ⟨by rfl, ?_⟩) ?_ ?_); rotate_left
                           ·
                            intro w'; go_simp; (with_reducible rfl)
                           rotate_left
                           ·
                            simp only [Act.put, List.setIfInBounds_toArray, List.set_cons_zero, List.set_cons_succ, i64_w, i32_w]; rfl
                           (refine pure_ (i := 12) (N := some 118) (v := ?_) (a' := ?_) #[true, true, true, true, true, true, true, true, true, true, true, true, true, false, false] rfl rfl (any_of HT_.out (by kernel_rfl)) (fun _ _ _ h => h) (Or.inl ⟨by rfl, ?_⟩) ?_ ?_); rotate_left
                           ·
                            intro w'; go_simp; (with_reducible rfl)
                           rotate_left
                           ·
                            simp only [Act.put, List.setIfInBounds_toArray, List.set_cons_zero, List.set_cons_succ, i64_w, i32_w]; rfl
                           (refine pure_ (i := 13) (N := some 13) (v := ?_) (a' := ?_) #[true, true, true, true, true, true, true, true, true, true, true, true, true, true, false] rfl rfl (any_of HT_.out (by kernel_rfl)) (fun _ _ _ h => h) (Or.inl ⟨by rfl, ?_⟩) ?_ ?_); rotate_left
                           ·
                            intro w'; go_simp; (with_reducible rfl)
                           rotate_left
                           ·
                            simp only [Act.put, List.setIfInBounds_toArray, List.set_cons_zero, List.set_cons_succ, i64_w, i32_w]; rfl
                           (refine pure_ (i := 14) (N := some 14) (v := ?_) (a' := ?_) #[true, true, true, true, true, true, true, true, true, true, true, true, true, true, true] rfl rfl (any_of HT_.out (by kernel_rfl)) (fun _ _ _ h => h) (Or.inl ⟨by rfl, ?_⟩) ?_ ?_); rotate_left
                           ·
                            intro w'; go_simp; (with_reducible rfl)
                           rotate_left
                           ·
                            simp only [Act.put, List.setIfInBounds_toArray, List.set_cons_zero, List.set_cons_succ, i64_w, i32_w]; rfl
                           (refine done_ (done_of HT_.out (by kernel_rfl)) ?_); (have p51 : 0 ≤ (x12_5 : Int) := of_decide_eq_true (by first | (with_reducible assumption) | assumption)); (have q51 : (x12_5 : Int) < ((x4_5.length : Int) : Int) := of_decide_eq_true (by first | (with_reducible assumption) | assumption)); obtain ⟨ce51, hcl51, hM51, hcc51, hfr51⟩ := Kd.N_elem HO_4.out [] (x12_5 : Int) p51 q51; obtain ⟨ua51_0, uc51_0, rfl, ul51_0, ge51_0⟩ := Kd.FK_slice_open hM51; have hx51_0 := hcc51 0 _ rfl; have hf51_0 := hfr51 0; (try simp only [show ((Kd.slice 2 (Kd.int .i64))).sz = 1 from rfl, Nat.mul_one, Nat.add_zero] at hx51_0); (try simp only [show ((Kd.slice 2 (Kd.int .i64))).sz = 1 from rfl, Nat.mul_one, Nat.add_zero] at hf51_0); clear hcl51 hcc51 hfr51 hM51; replace p51 := eq_true p51; replace q51 := eq_true q51; (have HX54 := Aside0.mk (show Kd.N (Kd.slice 2 (Kd.int .i64)) 33 w53 w.heap.size (fun k_ => (w.heap.size ≤ k_)) (.slice (some ⟨go31, 0, none⟩) x4_5.length co33) x4_5 from (by (with_reducible repeat (first | apply Kd.N_alloc | apply Kd.N_drewN | apply Kd.N_drew)); exact Kd.N_mono HO_4.out (fun _ hk => hk.1)))); (obtain ⟨ce54, hcl54, hM54, hcc54, hfr54⟩ := Kd.N_elem HX54.out [] (x12_5 : Int) (of_decide_eq_true (by first | (with_reducible assumption) | assumption)) (by have h_ : (x12_5 : Int) < ((x4_5.length : Int) : Int) := of_decide_eq_true (by first | (with_reducible assumption) | assumption); first | exact h_ | (have e_ := (Kd.N_reads' HO_4.out).1; omega) | simpa using h_)); obtain ⟨ua54_0, uc54_0, rfl, ul54_0, ge54_0⟩ := Kd.FK_slice_open hM54; (have XA_ := Kd.R_apart' (d := Kd.int .i64) (HO349.out) (Kd.N_typed HX54.out) (by decide)); obtain ⟨Av_, cv_, hv_⟩ := Kd.R_slice HO349.out; have XB_ := XA_; rw [hv_] at XB_; (have HP54 := Kd.N_seg HX54.out (x12_5 : Int) (of_decide_eq_true (by first | (with_reducible assumption) | assumption)) (by have h_ : (x12_5 : Int) < ((x4_5.length : Int) : Int) := of_decide_eq_true (by first | (with_reducible assumption) | assumption); first | exact h_ | (have e_ := (Kd.N_reads' HO_4.out).1; omega) | simpa using h_) (seg := [v348]) (j := 0) hcl54 hcc54 (show 1 ≤ 1 from by decide) (x' := t346) (by rw [hv_]; exact (Kd.FK_slice_mk (Kd.R_reads' (Kd.R_mono (ok' := (fun k_ => ((fun k_ => (w.heap.size ≤ k_))) k_ ∧ k_ ≠ go31)) XB_ (fun k_ hk => ⟨hk.1.1, fun e_ => (hk.2) (by rw [e_]; rfl)⟩))).2.1 (Kd.R_F (Kd.R_mono (ok' := (fun k_ => ((fun k_ => (w.heap.size ≤ k_))) k_ ∧ k_ ≠ go31)) XB_ (fun k_ hk => ⟨hk.1.1, fun e_ => (hk.2) (by rw [e_]; rfl)⟩))))) (fun _ hk => hk)); have hx54_0 := hcc54 0 _ rfl; (try simp only [show ((Kd.slice 2 (Kd.int .i64))).sz = 1 from rfl, Nat.mul_one, Nat.add_zero] at hx54_0); have hf54_0 := hfr54 0; (try simp only [show ((Kd.slice 2 (Kd.int .i64))).sz = 1 from rfl, Nat.mul_one, Nat.add_zero] at hf54_0); clear hcl54 hcc54 hfr54 hM54; (try simp only [show ((Kd.slice 2 (Kd.int .i64))).sz = 1 from rfl, Nat.mul_one, Nat.add_zero] at HP54); (try simp only [show ((Kd.slice 2 (Kd.int .i64))).sz = 1 from rfl, Nat.mul_one, Nat.add_zero] at HP54); (try go_wp2_with (first | ((with_reducible refine gate_store (t := 33) (p := 124) rfl ?_); refine store_event (t := 33) (p := 124) (v := ?vo_w55) (w1 := (w53.setCell ⟨go31, (x12_5 : Int).toNat, none⟩ (v348))) ?hg ?ho ?hn ?hr ?_; (case ho => rfl); (case hg => rfl); (case hn => rfl); (case hr => first | (go_simp; done) | (go_simp; rfl)); intro w55 hw; have hg : w53.grownBy w55 (some go31) := (by rw [hw]; exact HP54.2); have hp_ : Kd.N (Kd.slice 2 (Kd.int .i64)) 33 w55 w.heap.size (fun k_ => (w.heap.size ≤ k_)) (.slice (some ⟨go31, 0, none⟩) x4_5.length co33) y350 := (by rw [hw, Ny350.out]; exact HP54.1); clear HP54; have n0_ := Aside0.mk (hp_); have n1_ := Aside0.mk (Kd.V_afterv (v := (.slice (some ⟨go31, 0, none⟩) x4_5.length co33)) (v1 := (.slice (some ⟨go31, 0, none⟩) x4_5.length co33)) (ok := (fun k_ => (w.heap.size ≤ k_) ∧ some k_ ≠ (v348 : Value).ownBlock)) (by (with_reducible repeat (first | apply Kd.V_alloc | apply Kd.V_drewN | apply Kd.V_drew)); exact Kd.V_mono HL344_0.out (fun _ hk => ⟨⟨hk.1.1, hk.2⟩, hk.1.2⟩)) hg (.inl rfl)); have n2_ := Aside0.mk (Kd.V_afterv (v := (.slice (some ⟨go31, 0, none⟩) x4_5.length co33)) (v1 := (.slice (some ⟨go31, 0, none⟩) x4_5.length co33)) (ok := (fun k_ => (w.heap.size ≤ k_) ∧ some k_ ≠ (v348 : Value).ownBlock)) (by (with_reducible repeat (first | apply Kd.V_alloc | apply Kd.V_drewN | apply Kd.V_drew)); exact Kd.V_mono HL345_0.out (fun _ hk => ⟨⟨hk.1.1, hk.2⟩, hk.1.2⟩)) hg (.inl rfl)); have n3_ := Aside0.mk ((by rw [hw]; exact below_set (HB.out) GB31.out : Below w.heap.size w w55)); clear HO_4; clear HL344_0; clear HL345_0; clear HB; clear HO349; have HO_4 := n0_; have HL344_0 := n1_; have HL345_0 := n2_; have HB := n3_; clear n0_ n1_ n2_ n3_; clear hg hw hp_))); (try simp only [← hl4_5]); go_roundg kj38
                           case measure => have := HK1.out; have := HK2.out; have := HJ10.out; have := HJ15.out; have := HK5.out; have := HJ38.out; omega
                           case rel => exact ⟨(y350), (wrap64 (x12_5 + 1)), (by first | rfl | (simp; done) | (simp [*]; done)), H', ⟨by have := HK1.out; have := HK2.out; have := HJ10.out; have := HJ15.out; have := HK5.out; have := HJ38.out; omega⟩, ⟨by (try simp only [hl4_5]); (with_reducible repeat (first | apply Kd.N_alloc | apply Kd.N_drewN | apply Kd.N_drew)); exact HO_4.out⟩, ⟨by repeat (first | (with_reducible first | exact HB.out | apply below_alloc | apply pw_below_drewN | apply below_drew1) | exact HB.out)⟩⟩
                          ·
                           replace c50 := Bool.eq_false_iff.mpr c50; subst c50; (have H1 : (some (([] : List (List Int)), false)) = some (r1, r2) := by rw [if_neg (show ¬ (false = true) by decide)] at H; exact H); clear H; have H := H1; clear H1; simp only [Option.some.injEq, Prod.mk.injEq] at H; obtain ⟨rfl, rfl⟩ := H; (try go_wp2); have n0_ := Aside0.mk (Kd.N_drew HO_4.out); have n1_ := Aside0.mk (below_drew1 HB.out); clear HO_4; clear HB; have HO_4 := n0_; have HB := n1_; clear n0_ n1_; (have p344 : 0 ≤ (x12_5 : Int) := of_decide_eq_true (by first | (with_reducible assumption) | assumption)); (have q344 : x12_5 < (x4_5.length : Int) := of_decide_eq_true (by first | (with_reducible assumption) | assumption)); obtain ⟨ad344, A344_0, c344_0, e344, hx344_0, hl344_0, hi344_0⟩ := at_L1 (Kd.N_reads' HO_4.out).2.2 x12_5 p344 q344; (obtain rfl : (⟨go31, 0, none⟩ : Addr) = ad344 := (by injection e344)); (obtain ⟨ce344, hce344, hMe344, hcc344⟩ := Kd.N_get HO_4.out [] x12_5 p344 (by first | exact q344 | exact of_decide_eq_true (by first | (with_reducible assumption) | assumption) | (have e_ := (Kd.N_reads' HO_4.out).1; omega))); obtain ⟨ua344_0, uc344_0, rfl, ul344_0, ge344_0⟩ := Kd.FK_slice_open hMe344; have hv344_0 := hcc344 0 _ rfl; (rw [Nat.add_zero, show ((Kd.slice 2 (Kd.int .i64))).sz = 1 from rfl, Nat.mul_one] at hv344_0); replace hv344_0 := Option.some.inj (hv344_0.symm.trans hx344_0); injection hv344_0 with hva_ hvn_ hvc_; rw [hva_] at ge344_0; rw [hvc_] at ul344_0; (have HL344_0 := Aside0.mk (show Kd.V (Kd.int .i64) 2 _ w.heap.size _ _ (rd_L1 x4_5 x12_5) from Kd.V_mk ul344_0 ge344_0)); clear hva_ hvn_ hvc_ ge344_0 ul344_0; clear hcc344 hce344; (first | simp only [add_plain] at hx344_0 | simp only [add_at] at hx344_0 | simp only [Addr.add, Nat.zero_add] at hx344_0 | skip); have HR344_0 := Aside0.mk hi344_0; have HC344_0 := Aside0.mk hl344_0; clear hi344_0 hl344_0; replace p344 := eq_true p344; replace q344 := eq_true q344; (have p345 : 0 ≤ (x8_2 : Int) := of_decide_eq_true (by first | (with_reducible assumption) | assumption)); (have q345 : x8_2 < (x4_5.length : Int) := of_decide_eq_true (by first | (with_reducible assumption) | assumption)); obtain ⟨ad345, A345_0, c345_0, e345, hx345_0, hl345_0, hi345_0⟩ := at_L1 (Kd.N_reads' HO_4.out).2.2 x8_2 p345 q345; (obtain rfl : (⟨go31, 0, none⟩ : Addr) = ad345 := (by injection e345)); (obtain ⟨ce345, hce345, hMe345, hcc345⟩ := Kd.N_get HO_4.out [] x8_2 p345 (by first | exact q345 | exact of_decide_eq_true (by first | (with_reducible assumption) | assumption) | (have e_ := (Kd.N_reads' HO_4.out).1; omega))); obtain ⟨ua345_0, uc345_0, rfl, ul345_0, ge345_0⟩ := Kd.FK_slice_open hMe345; have hv345_0 := hcc345 0 _ rfl; (rw [Nat.add_zero, show ((Kd.slice 2 (Kd.int .i64))).sz = 1 from rfl, Nat.mul_one] at hv345_0); replace hv345_0 := Option.some.inj (hv345_0.symm.trans hx345_0); injection hv345_0 with hva_ hvn_ hvc_; rw [hva_] at ge345_0; rw [hvc_] at ul345_0; (have HL345_0 := Aside0.mk (show Kd.V (Kd.int .i64) 2 _ w.heap.size _ _ (rd_L1 x4_5 x8_2) from Kd.V_mk ul345_0 ge345_0)); clear hva_ hvn_ hvc_ ge345_0 ul345_0; clear hcc345 hce345; (first | simp only [add_plain] at hx345_0 | simp only [add_at] at hx345_0 | simp only [Addr.add, Nat.zero_add] at hx345_0 | skip); have HR345_0 := Aside0.mk hi345_0; have HC345_0 := Aside0.mk hl345_0; clear hi345_0 hl345_0; replace p345 := eq_true p345; replace q345 := eq_true q345; (refine start_ (n := 15) (S := fun w' => w'.cell? ⟨go31, (x12_5).toNat, none⟩ = some (.slice A344_0 (rd_L1 x4_5 x12_5).length c344_0) ∧ w'.cell? ⟨go31, (x8_2).toNat, none⟩ = some (.slice A345_0 (rd_L1 x4_5 x8_2).length c345_0)) (ds := []) #[false, false, false, false, false, false, false, false, false, false, false, false, false, false, false] (by kernel_rfl) rfl rfl ⟨hx344_0, hx345_0⟩ (fun hHeld => ?_); refine with_tabW petrinetref08_Echelon.tab24 petrinetref08_Echelon.bits24 (fun HT_ HW_ => ?_)); generalize wc.drew = w56 at HO_4 HB HL344_0 HL345_0 HR344_0 HR345_0 hx344_0 hx345_0 hHeld ⊢; (refine pure_ (i := 0) (N := some 107) (v := ?_) (a' := ?_) #[true, false, false, false, false, false, false, false, false, false, false, false, false, false, false] rfl rfl (any_of HT_.out (by kernel_rfl)) (fun _ _ _ h => h) (Or.inl ⟨by rfl, ?_⟩) ?_ ?_); rotate_left
                           ·
                            intro w'; go_simp; (with_reducible rfl)
                           rotate_left
                           ·
                            simp only [Act.put, List.setIfInBounds_toArray, List.set_cons_zero, List.set_cons_succ, i64_w, i32_w]; rfl
                           (refine pure_ (i := 1) (N := some 108) (v := ?_) (a' := ?_) #[true, true, false, false, false, false, false, false, false, false, false, false, false, false, false] rfl rfl (any_of HT_.out (by kernel_rfl)) (fun _ _ _ h => h) (Or.inl ⟨by rfl, ?_⟩) ?_ ?_); rotate_left
                           ·
                            intro w'; go_simp; (with_reducible rfl)
                           rotate_left
                           ·
                            simp only [Act.put, List.setIfInBounds_toArray, List.set_cons_zero, List.set_cons_succ, i64_w, i32_w]; rfl
                           (refine pure_ (i := 2) (N := some 109) (v := ?_) (a' := ?_) #[true, true, true, false, false, false, false, false, false, false, false, false, false, false, false] rfl rfl (any_of HT_.out (by kernel_rfl)) (fun _ _ _ h => h) (Or.inl ⟨by rfl, ?_⟩) ?_ ?_); rotate_left
                           ·
                            intro w'; go_simp; (with_reducible rfl)
                           rotate_left
                           ·
                            simp only [Act.put, List.setIfInBounds_toArray, List.set_cons_zero, List.set_cons_succ, i64_w, i32_w]; rfl
                           (refine pure_ (i := 4) (N := some 111) (v := ?_) (a' := ?_) #[true, true, true, false, true, false, false, false, false, false, false, false, false, false, false] rfl rfl (any_of HT_.out (by kernel_rfl)) (fun _ _ _ h => h) (Or.inl ⟨by rfl, ?_⟩) ?_ ?_); rotate_left
                           ·
                            intro w'; go_simp; (with_reducible rfl)
                           rotate_left
                           ·
                            simp only [Act.put, List.setIfInBounds_toArray, List.set_cons_zero, List.set_cons_succ, i64_w, i32_w]; rfl
                           (refine pure_ (i := 5) (N := some 112) (v := ?_) (a' := ?_) #[true, true, true, false, true, true, false, false, false, false, false, false, false, false, false] rfl rfl (any_of HT_.out (by kernel_rfl)) (fun _ _ _ h => h) (Or.inl ⟨by rfl, ?_⟩) ?_ ?_); rotate_left
                           ·
                            intro w'; go_simp; (with_reducible rfl)
                           rotate_left
                           ·
                            simp only [Act.put, List.setIfInBounds_toArray, List.set_cons_zero, List.set_cons_succ, i64_w, i32_w]; rfl
                           (refine pure_ (i := 6) (N := some 113) (v := ?_) (a' := ?_) #[true, true, true, false, true, true, true, false, false, false, false, false, false, false, false] rfl rfl (any_of HT_.out (by kernel_rfl)) (fun _ _ _ h => h) (Or.inl ⟨by rfl, ?_⟩) ?_ ?_); rotate_left
                           ·
                            intro w'; go_simp; (with_reducible rfl)
                           rotate_left
                           ·
                            simp only [Act.put, List.setIfInBounds_toArray, List.set_cons_zero, List.set_cons_succ, i64_w, i32_w]; rfl
                           (refine pure_ (i := 8) (N := some 115) (v := ?_) (a' := ?_) #[true, true, true, false, true, true, true, false, true, false, false, false, false, false, false] rfl rfl (any_of HT_.out (by kernel_rfl)) (fun _ _ _ h => h) (Or.inl ⟨by rfl, ?_⟩) ?_ ?_); rotate_left
                           ·
                            intro w'; go_simp; (with_reducible rfl)
                           rotate_left
                           ·
                            simp only [Act.put, List.setIfInBounds_toArray, List.set_cons_zero, List.set_cons_succ, i64_w, i32_w]; rfl
                           (refine take_ (i := 3) (N := some 110) (v := ?_) (a' := ?_) #[true, true, true, true, true, true, true, false, true, false, false, false, false, false, false] rfl rfl (take_ofW HT_.out HW_.out (by kernel_rfl)) (fun _ _ _ h => h) (Or.inl ⟨by rfl, ?_⟩) hHeld ?_ ?_); rotate_left
                           ·
                            rintro w' ⟨s0, s1⟩; go_simp; (with_reducible rfl)
                           rotate_left
                           ·
                            simp only [Act.put, List.setIfInBounds_toArray, List.set_cons_zero, List.set_cons_succ, i64_w, i32_w]; rfl
                           (refine take_ (i := 7) (N := some 114) (v := ?_) (a' := ?_) #[true, true, true, true, true, true, true, true, true, false, false, false, false, false, false] rfl rfl (take_ofW HT_.out HW_.out (by kernel_rfl)) (fun _ _ _ h => h) (Or.inl ⟨by rfl, ?_⟩) hHeld ?_ ?_); rotate_left
                           ·
                            rintro w' ⟨s0, s1⟩; go_simp; (with_reducible rfl)
                           rotate_left
                           ·
                            simp only [Act.put, List.setIfInBounds_toArray, List.set_cons_zero, List.set_cons_succ, i64_w, i32_w]; rfl
                           (refine one_ (i := 9) (N := some 116) #[true, true, true, true, true, true, true, true, true, true, false, false, false, false, false] rfl rfl (one_of HT_.out (by kernel_rfl)) (by decide) (fun K hK => ?_)); (refine goes_ Try.func34 (by kernel_rfl) rfl #[.slice A344_0 (rd_L1 x4_5 x12_5).length c344_0, .slice A345_0 (rd_L1 x4_5 x8_2).length c345_0, .int .i64 x9_2] (by rfl) rfl rfl (by (try simp only [List.map_toArray, List.map_cons, List.map_nil]); first | done | rfl | (simp only [List.length_drop, List.length_take]; rfl)) ?_); (with_reducible refine (petrinetref08_clear.calls kj38 _ _ (rd_L1 x4_5 x12_5) _ _ (rd_L1 x4_5 x8_2) x9_2 t346 false _ ?side1 ?side2 ?side3 ?side4 A49.out).mono ?_)
                           (case side1 => repeat (first | exact (by repeat (first | (with_reducible exact HR344_0.out) | (with_reducible refine Kd.C_alloc ?_ _) | (with_reducible refine Kd.C_drewN ?_ _) | (with_reducible refine Kd.C_drew ?_) | exact HR344_0.out)) | (with_reducible refine Kd.C_alloc ?_ _) | (with_reducible refine Kd.C_drewN ?_ _) | (with_reducible refine Kd.C_drew ?_)))
                           (case side2 => exact HC344_0.out)
                           (case side3 => repeat (first | exact (by repeat (first | (with_reducible exact HR345_0.out) | (with_reducible refine Kd.C_alloc ?_ _) | (with_reducible refine Kd.C_drewN ?_ _) | (with_reducible refine Kd.C_drew ?_) | exact HR345_0.out)) | (with_reducible refine Kd.C_alloc ?_ _) | (with_reducible refine Kd.C_drewN ?_ _) | (with_reducible refine Kd.C_drew ?_)))
                           (case side4 => exact HC345_0.out)
                           rintro e w57 ⟨v348, rfl, ho0, hb⟩; have HS0_ := (hb.cell (World.block_lt_of_cell? _ _ (hHeld.1))).trans (hHeld.1); have HS1_ := (hb.cell (World.block_lt_of_cell? _ _ (hHeld.2))).trans (hHeld.2); refine ⟨_, rfl, ?_⟩; (have n0_ := Aside0.mk (Kd.N_elder' (by (with_reducible repeat (first | apply Kd.N_alloc | apply Kd.N_drewN | apply Kd.N_drew)); exact HO_4.out) (Kd.R_base ho0) hb)); (have n1_ := Aside0.mk (Kd.V_elder' (by (with_reducible repeat (first | apply Kd.V_alloc | apply Kd.V_drewN | apply Kd.V_drew)); exact HL344_0.out) (Kd.R_base ho0) hb)); (have n2_ := Aside0.mk (Kd.V_elder' (by (with_reducible repeat (first | apply Kd.V_alloc | apply Kd.V_drewN | apply Kd.V_drew)); exact HL345_0.out) (Kd.R_base ho0) hb)); (have n3_ := Aside0.mk (Kd.R_lower (Kd.R_newM (M := fun k_ => (w.heap.size ≤ k_)) ho0 (below_size (by repeat (first | (with_reducible first | exact HB.out | apply below_alloc | apply pw_below_drewN | apply below_drew1) | exact HB.out))) (fun k_ h_ => h_)) (below_size (by repeat (first | (with_reducible first | exact HB.out | apply below_alloc | apply pw_below_drewN | apply below_drew1) | exact HB.out))))); (have n4_ := Aside0.mk (Kd.C_below (by repeat (first | (with_reducible exact HR344_0.out) | (with_reducible refine Kd.C_alloc ?_ _) | (with_reducible refine Kd.C_drewN ?_ _) | (with_reducible refine Kd.C_drew ?_) | exact HR344_0.out)) hb)); (have n5_ := Aside0.mk (Kd.C_below (by repeat (first | (with_reducible exact HR345_0.out) | (with_reducible refine Kd.C_alloc ?_ _) | (with_reducible refine Kd.C_drewN ?_ _) | (with_reducible refine Kd.C_drew ?_) | exact HR345_0.out)) hb)); (have n6_ := Aside0.mk (below_step (by repeat (first | (with_reducible first | exact HB.out | apply below_alloc | apply pw_below_drewN | apply below_drew1) | exact HB.out)) hb)); clear HO_4; clear HL344_0; clear HL345_0; clear HR344_0; clear HR345_0; clear HB; have HO_4 := n0_; have HL344_0 := n1_; have HL345_0 := n2_; have HO349 := n3_; have HR344_0 := n4_; have HR345_0 := n5_; have HB := n6_; clear n0_ n1_ n2_ n3_ n4_ n5_ n6_; (try clear hb); (try clear hb2); (try clear hk); (try clear hi); (try clear ho0); (refine hK.out _ _ ⟨HS0_, HS1_⟩ (fun hHeld => ?_)); clear hK K; refine norm_ (a' := ?_) ?_ ?_; rotate_left
                           ·
                            show Act.put _ (some 116) _ = _
                            simp only [Act.put, List.setIfInBounds_toArray, List.set_cons_zero, List.set_cons_succ, i64_w, i32_w]; rfl
                           (refine pure_ (i := 10) (N := some 106) (v := ?_) (a' := ?_) #[true, true, true, true, true, true, true, true, true, true, true, false, false, false, false] rfl rfl (any_of HT_.out (by kernel_rfl)) (fun _ _ _ h => h) (Or.inl ⟨by rfl, ?_⟩) ?_ ?_); rotate_left
                           ·
                            intro w'; go_simp; (with_reducible rfl)
                           rotate_left
                           ·
                            simp only [Act.put, List.setIfInBounds_toArray, List.set_cons_zero, List.set_cons_succ, i64_w, i32_w]; rfl
                           (refine pure_ (i := 11) (N := some 117) (v := ?_) (a' := ?_) #[true, true, true, true, true, true, true, true, true, true, true, true, false, false, false] rfl rfl (any_of HT_.out (by kernel_rfl)) (fun _ _ _ h => h) (Or.inl ⟨by rfl, ?_⟩) ?_ ?_); rotate_left
                           ·
                            intro w'; go_simp; (with_reducible rfl)
                           rotate_left
                           ·
                            simp only [Act.put, List.setIfInBounds_toArray, List.set_cons_zero, List.set_cons_succ, i64_w, i32_w]; rfl
                           (refine pure_ (i := 12) (N := some 118) (v := ?_) (a' := ?_) #[true, true, true, true, true, true, true, true, true, true, true, true, true, false, false] rfl rfl (any_of HT_.out (by kernel_rfl)) (fun _ _ _ h => h) (Or.inl ⟨by rfl, ?_⟩) ?_ ?_); rotate_left
                           ·
                            intro w'; go_simp; (with_reducible rfl)
                           rotate_left
                           ·
                            simp only [Act.put, List.setIfInBounds_toArray, List.set_cons_zero, List.set_cons_succ, i64_w, i32_w]; rfl
                           (refine pure_ (i := 13) (N := some 13) (v := ?_) (a' := ?_) #[true, true, true, true, true, true, true, true, true, true, true, true, true, true, false] rfl rfl (any_of HT_.out (by kernel_rfl)) (fun _ _ _ h => h) (Or.inl ⟨by rfl, ?_⟩) ?_ ?_); rotate_left
                           ·
                            intro w'; go_simp; (with_reducible rfl)
                           rotate_left
                           ·
                            simp only [Act.put, List.setIfInBounds_toArray, List.set_cons_zero, List.set_cons_succ, i64_w, i32_w]; rfl
                           (refine pure_ (i := 14) (N := some 14) (v := ?_) (a' := ?_) #[true, true, true, true, true, true, true, true, true, true, true, true, true, true, true] rfl rfl (any_of HT_.out (by kernel_rfl)) (fun _ _ _ h => h) (Or.inl ⟨by rfl, ?_⟩) ?_ ?_); rotate_left
                           ·
                            intro w'; go_simp; (with_reducible rfl)
                           rotate_left
                           ·
                            simp only [Act.put, List.setIfInBounds_toArray, List.set_cons_zero, List.set_cons_succ, i64_w, i32_w]; rfl
                           (refine done_ (done_of HT_.out (by kernel_rfl)) ?_); (try go_wp2); go_ret2; (exact ⟨_, by first | rfl | (simp [errW_none, errW_some] <;> rfl) | (simp [*, errW_none, errW_some] <;> rfl), by first | exact Kd.S_nil _ _ _ _ _ | exact Kd.N_nil _ _ _ _ _ | exact Kd.V_nil _ _ _ _ _ | exact Kd.Q_nil _ _ _ _ _ | exact Kd.R_nil _ _ _ _ _, by repeat (first | (with_reducible first | exact HB.out | apply below_alloc | apply pw_below_drewN | apply below_drew1) | exact HB.out)⟩)
                         ·
                          rw [if_neg c48] at H; (exact absurd H (by simp))
                        ·
                         rw [if_neg c47] at H; (exact absurd H (by simp))
                       ·
                        rw [if_neg c46] at H; (exact absurd H (by simp))
                      ·
                       rw [if_neg c45] at H; (exact absurd H (by simp))
                     ·
                      replace c44 := Bool.eq_false_iff.mpr c44; subst c44; (have H1 : (petrinetref08_Echelon.l3 kj38 l0 x4_5 x8_2 x9_2 (wrap64 (x12_5 + 1))) = some (r1, r2) := by rw [if_neg (show ¬ (false = true) by decide)] at H; exact H); clear H; have H := H1; clear H1; have H' := Aside0.mk H; clear H; go_wp2; (try simp only [← hl4_5]); go_roundg kj38
                      case measure => have := HK1.out; have := HK2.out; have := HJ10.out; have := HJ15.out; have := HK5.out; have := HJ38.out; omega
                      case rel => exact ⟨(x4_5), (wrap64 (x12_5 + 1)), (by first | rfl | (simp; done) | (simp [*]; done)), H', ⟨by have := HK1.out; have := HK2.out; have := HJ10.out; have := HJ15.out; have := HK5.out; have := HJ38.out; omega⟩, ⟨by (try simp only [hl4_5]); (with_reducible repeat (first | apply Kd.N_alloc | apply Kd.N_drewN | apply Kd.N_drew)); exact HO_4.out⟩, ⟨by repeat (first | (with_reducible first | exact HB.out | apply below_alloc | apply pw_below_drewN | apply below_drew1) | exact HB.out)⟩⟩
                  ·
                   rw [if_neg c38] at H; have c38b0 : decide (x12_5 < (x4_5.length : Int)) = false := decide_eq_false c38; clear c38; have H' := Aside0.mk H; clear H; go_wp2; (try simp only [← hl4_5]); go_roundg k5
                   case measure => have := HK1.out; have := HK2.out; have := HJ10.out; have := HJ15.out; have := HK5.out; omega
                   case rel => exact ⟨(x4_5), (wrap64 (x8_2 + 1)), (wrap64 (x9_2 + 1)), (by first | rfl | (simp; done) | (simp [*]; done)), (by first | rfl | (simp; done) | (simp [*]; done)), H', ⟨by have := HK1.out; have := HK2.out; have := HJ10.out; have := HJ15.out; have := HK5.out; omega⟩, ⟨by (try simp only [hl4_5]); (with_reducible repeat (first | apply Kd.N_alloc | apply Kd.N_drewN | apply Kd.N_drew)); exact HO_4.out⟩, ⟨by repeat (first | (with_reducible first | exact HB.out | apply below_alloc | apply pw_below_drewN | apply below_drew1) | exact HB.out)⟩⟩
               ·
                rw [if_neg c30] at H; (exact absurd H (by simp))
              ·
               rw [if_neg c29] at H; (exact absurd H (by simp))
             ·
              rw [if_neg c28] at H; (exact absurd H (by simp))
            ·
             rw [if_neg c27] at H; (exact absurd H (by simp))
        ·
         replace c15 := Bool.eq_false_iff.mpr c15; subst c15; (have H1 : (petrinetref08_Echelon.l4 kj10 x4_2 x8_2 ([] : List (List Int)) 0) = some (r1, r2) := by rw [if_neg (show ¬ (false = true) by decide)] at H; exact H); clear H; have H := H1; clear H1; have H' := Aside0.mk H; clear H; go_wp2
         go_loopg [15, 16] kj10 (fun kq v15 v16 w' => ∃ (x15_4 : List (List Int)) (x16_4 : Int), v16 = .int .i64 x16_4 ∧ Aside0 (petrinetref08_Echelon.l4 kq x4_2 x8_2 x15_4 x16_4 = some (r1, r2)) ∧ Aside0 (kq ≤ kj10) ∧ Aside0 (Kd.N (Kd.slice 2 (Kd.int .i64)) 33 w' w.heap.size (fun k_ => (w.heap.size ≤ k_) ∧ some k_ ≠ (v15 : Value).ownBlock) u4 x4_2) ∧ Aside0 (Kd.N (Kd.slice 2 (Kd.int .i64)) 33 w' w.heap.size (fun k_ => (w.heap.size ≤ k_) ∧ some k_ ≠ (u4 : Value).ownBlock) v15 x15_4) ∧ Aside0 (Below w.heap.size w w'))
         case atStart => exact ⟨(([] : List (List Int))), (0), (by first | rfl | (simp; done) | (simp [*]; done)), H', ⟨Nat.le_refl _⟩, ⟨by (with_reducible repeat (first | apply Kd.N_alloc | apply Kd.N_drewN | apply Kd.N_drew)); exact Kd.N_mono HO_4.out (fun _ hk => ⟨hk, (by simp [Value.ownBlock])⟩)⟩, ⟨by first | exact Kd.S_nil _ _ _ _ _ | exact Kd.N_nil _ _ _ _ _ | exact Kd.V_nil _ _ _ _ _ | exact Kd.Q_nil _ _ _ _ _ | exact Kd.R_nil _ _ _ _ _⟩, ⟨by repeat (first | (with_reducible first | exact HB.out | apply below_alloc | apply pw_below_drewN | apply below_drew1) | exact HB.out)⟩⟩
         case round =>
          clear H'; (try clear c1); (try clear c2); (try clear p2); (try clear c3); (try clear p3); (try clear q3); (try clear hx3); (try clear c4); (try clear c5); (try clear p5); (try clear q5); (try clear hx5); (try clear hf5); (try clear p6); (try clear c15); (try clear c27); (try clear c28); (try clear c29); (try clear c30); (try clear p31); (try clear q31); (try clear hx31); (try clear p32); (try clear q32); (try clear hx32); (try clear p33); (try clear q33); (try clear hx33); (try clear c34); (try clear p34); (try clear q34); (try clear hx34); (try clear hx36); (try clear c38); (try clear c38b0); (try clear c40); (try clear c40b0); (try clear c40b1); (try clear c41); (try clear c41b0); (try clear c42); (try clear c42b0); (try clear c43); (try clear c43b0); (try clear c44); (try clear c45); (try clear c45b0); (try clear c46); (try clear c46b0); (try clear c47); (try clear c47b0); (try clear c48); (try clear c48b0); (try clear c50); (try clear c51); (try clear p51); (try clear q51); (try clear hx51); (try clear hf51); (try clear c54); (try clear hx54); (try clear hf54); (try clear hx31_0); (try clear hx327_0); (try clear hx32_0); (try clear hx335_0); (try clear hx336_0); (try clear hx337_0); (try clear hx338_0); (try clear hx339_0); (try clear hx342_0); (try clear hx343_0); (try clear hx344_0); (try clear hx345_0); (try clear hx34_0); (try clear hx36_0); (try clear hx51_0); (try clear hx54_0); (try clear p2); (try clear p3); (try clear p31); (try clear p32); (try clear p327); (try clear p33); (try clear p335); (try clear p336); (try clear p337); (try clear p338); (try clear p339); (try clear p342); (try clear p343); (try clear p344); (try clear p345); (try clear p51); (try clear p6); (try clear q3); (try clear q31); (try clear q32); (try clear q327); (try clear q33); (try clear q335); (try clear q336); (try clear q337); (try clear q338); (try clear q339); (try clear q342); (try clear q343); (try clear q344); (try clear q345); (try clear q51); obtain ⟨x15_4, x16_4, rfl, HA, HK4, HO_4, HO_15, HB⟩ := hrel
          cases gk with
          | zero => exact absurd HA.out (by simp [petrinetref08_Echelon.l4])
          | succ k4 =>
           have H := HA.out; clear HA; simp only [petrinetref08_Echelon.l4] at H; by_cases c58 : x16_4 < x8_2
           ·
            rw [if_pos c58] at H; have c58b0 : decide (x16_4 < x8_2) = true := decide_eq_true c58; clear c58; by_cases c59 : 0 ≤ x16_4
            ·
             rw [if_pos c59] at H; have c59b0 : decide (0 ≤ x16_4) = true := decide_eq_true c59; clear c59; by_cases c60 : x16_4 < (x4_2.length : Int)
             ·
              rw [if_pos c60] at H; have c60b0 : decide (x16_4 < (x4_2.length : Int)) = true := decide_eq_true c60; clear c60; by_cases c61 : x15_4.length < 5864062014805
              ·
               rw [if_pos c61] at H; have LMc61 := Aside0.mk c61; clear c61; obtain ⟨y352, hy352⟩ : ∃ y_ : List (List Int), y_ = (x15_4 ++ [rd_L1 x4_2 x16_4]) := ⟨_, rfl⟩; (replace H : (petrinetref08_Echelon.l4 k4 x4_2 x8_2 y352 (wrap64 (x16_4 + 1))) = some (r1, r2) := by first | (rw [hy352]; with_reducible exact H) | (have H2_ := (Option.bind_some _ _).symm.trans H; rw [hy352]; with_reducible exact H2_) | (have H2_ := (Option.bind_some _ _).symm.trans H; with_reducible exact H2_) | with_reducible exact H | (rw [hy352]; exact H) | exact H); have Ny352 := Aside0.mk hy352; clear hy352; have H' := Aside0.mk H; clear H; obtain ⟨Ao62, co62, eo62⟩ := Kd.N_slice HO_4.out; subst eo62; (have p351 : 0 ≤ (x16_4 : Int) := of_decide_eq_true (by first | (with_reducible assumption) | assumption)); (have q351 : x16_4 < (x4_2.length : Int) := of_decide_eq_true (by first | (with_reducible assumption) | assumption)); obtain ⟨ad351, A351_0, c351_0, e351, hx351_0, hl351_0, hi351_0⟩ := at_L1 (Kd.N_reads' HO_4.out).2.2 x16_4 p351 q351
               cases e351
               (obtain ⟨ce351, hce351, hMe351, hcc351⟩ := Kd.N_get HO_4.out [] x16_4 p351 (by first | exact q351 | exact of_decide_eq_true (by first | (with_reducible assumption) | assumption) | (have e_ := (Kd.N_reads' HO_4.out).1; omega))); obtain ⟨ua351_0, uc351_0, rfl, ul351_0, ge351_0⟩ := Kd.FK_slice_open hMe351; have hv351_0 := hcc351 0 _ rfl; (rw [Nat.add_zero, show ((Kd.slice 2 (Kd.int .i64))).sz = 1 from rfl, Nat.mul_one] at hv351_0); replace hv351_0 := Option.some.inj (hv351_0.symm.trans hx351_0); injection hv351_0 with hva_ hvn_ hvc_; rw [hva_] at ge351_0; rw [hvc_] at ul351_0; (have HL351_0 := Aside0.mk (show Kd.V (Kd.int .i64) 2 _ w.heap.size _ _ (rd_L1 x4_2 x16_4) from Kd.V_mk ul351_0 ge351_0)); clear hva_ hvn_ hvc_ ge351_0 ul351_0; clear hcc351 hce351; have HR351_0 := Aside0.mk hi351_0; have HC351_0 := Aside0.mk hl351_0; clear hi351_0 hl351_0; replace p351 := eq_true p351; replace q351 := eq_true q351; (go_wp2_with (first | ((with_reducible refine gate_builtin (b := .append) (xs := #[.tmp 132, .tmp 137]) rfl ?_); (try (refine gate_guard (by rfl) ?_; dsimp only)); at_builtin; refine Kd.N_append (Kd.slice 2 (Kd.int .i64)) (w0 := w) w.heap.size rfl (.tmp 132) (.tmp 137) 22 33 (.slice none 0 0) 24 rfl Try.underlying22 info33 rfl (by decide) (by omega) u15 x15_4 (rd_L1 x4_2 x16_4) [.slice A351_0 (rd_L1 x4_2 x16_4).length c351_0] (fun k_ => (w.heap.size ≤ k_) ∧ some k_ ≠ (.slice (some ad351) x4_2.length co62 : Value).ownBlock) (fun k_ => ((fun k_ => (w.heap.size ≤ k_) ∧ some k_ ≠ (.slice (some ad351) x4_2.length co62 : Value).ownBlock)) k_ ∧ some k_ ≠ (u15 : Value).ownBlock) rfl rfl ?aP (fun _ hk => hk) ?aF ?aO ?aB ?aS ?aL ?_; (case aP => exact (Kd.FK_slice_mk (Kd.V_reads' (Kd.V_mono (ok' := (fun k_ => ((fun k_ => (w.heap.size ≤ k_) ∧ some k_ ≠ (.slice (some ad351) x4_2.length co62 : Value).ownBlock)) k_ ∧ some k_ ≠ (u15 : Value).ownBlock)) (HL351_0.out) (fun k_ hk => ⟨⟨hk.1.1, hk.2⟩, hk.1.2⟩))).2.1 (Kd.V_F (Kd.V_mono (ok' := (fun k_ => ((fun k_ => (w.heap.size ≤ k_) ∧ some k_ ≠ (.slice (some ad351) x4_2.length co62 : Value).ownBlock)) k_ ∧ some k_ ≠ (u15 : Value).ownBlock)) (HL351_0.out) (fun k_ hk => ⟨⟨hk.1.1, hk.2⟩, hk.1.2⟩))))); (case aB => exact (by repeat (first | (with_reducible first | exact HB.out | apply below_alloc | apply pw_below_drewN | apply below_drew1) | exact HB.out))); (case aF => exact (fun k_ hk => ⟨(Nat.le_trans (below_size (by repeat (first | (with_reducible first | exact HB.out | apply below_alloc | apply pw_below_drewN | apply below_drew1) | exact HB.out))) hk), Kd.fresh' (Kd.N_lt (by (with_reducible repeat (first | apply Kd.N_alloc | apply Kd.N_drewN | apply Kd.N_drew)); exact HO_4.out)) k_ hk⟩)); (case aO => exact (by (with_reducible repeat (first | apply Kd.N_alloc | apply Kd.N_drewN | apply Kd.N_drew)); exact HO_15.out)); (case aS => exact (below_size (by repeat (first | (with_reducible first | exact HB.out | apply below_alloc | apply pw_below_drewN | apply below_drew1) | exact HB.out)))); (case aL => have := LMc61.out; omega); intro v353 w63 ho hb hg hat; rw [← Ny352.out] at ho; have n0_ := Aside0.mk (Kd.N_afterv (ok := (fun k_ => (w.heap.size ≤ k_))) (by (with_reducible repeat (first | apply Kd.N_alloc | apply Kd.N_drewN | apply Kd.N_drew)); exact HO_4.out) hg hat); have n1_ := Aside0.mk (Kd.V_afterv (ok := (fun k_ => (w.heap.size ≤ k_) ∧ some k_ ≠ (.slice (some ad351) x4_2.length co62 : Value).ownBlock)) (by (with_reducible repeat (first | apply Kd.V_alloc | apply Kd.V_drewN | apply Kd.V_drew)); exact Kd.V_mono HL351_0.out (fun _ hk => ⟨⟨hk.1.1, hk.2⟩, hk.1.2⟩)) hg hat); have n2_ := Aside0.mk (hb); have n3_ := Aside0.mk (ho); clear HO_4; clear HL351_0; clear HB; clear HO_15; have HO_4 := n0_; have HL351_0 := n1_; have HB := n2_; have HO354 := n3_; clear n0_ n1_ n2_ n3_; clear ho hb hg hat))); go_roundg k4
               case measure => have := HK1.out; have := HK2.out; have := HJ10.out; have := HK4.out; omega
               case rel => exact ⟨(y352), (wrap64 (x16_4 + 1)), (by first | rfl | (simp; done) | (simp [*]; done)), H', ⟨by have := HK1.out; have := HK2.out; have := HJ10.out; have := HK4.out; omega⟩, ⟨by (with_reducible repeat (first | apply Kd.N_alloc | apply Kd.N_drewN | apply Kd.N_drew)); exact HO_4.out⟩, ⟨by (with_reducible repeat (first | apply Kd.N_alloc | apply Kd.N_drewN | apply Kd.N_drew)); exact HO354.out⟩, ⟨by repeat (first | (with_reducible first | exact HB.out | apply below_alloc | apply pw_below_drewN | apply below_drew1) | exact HB.out)⟩⟩
              ·
               rw [if_neg c61] at H; (exact absurd H (by simp))
             ·
              rw [if_neg c60] at H; (exact absurd H (by simp))
            ·
             rw [if_neg c59] at H; (exact absurd H (by simp))
           ·
            rw [if_neg c58] at H; have c58b0 : decide (x16_4 < x8_2) = false := decide_eq_false c58; clear c58; simp only [Option.some.injEq, Prod.mk.injEq] at H; obtain ⟨rfl, rfl⟩ := H; go_wp2; go_ret2; (exact ⟨_, by first | rfl | (simp [errW_none, errW_some] <;> rfl) | (simp [*, errW_none, errW_some] <;> rfl), by (with_reducible repeat (first | apply Kd.N_alloc | apply Kd.N_drewN | apply Kd.N_drew)); exact Kd.N_mono HO_15.out (fun _ hk => hk.1), by repeat (first | (with_reducible first | exact HB.out | apply below_alloc | apply pw_below_drewN | apply below_drew1) | exact HB.out)⟩)

end Go.Proofs.Ytckefohfahphpaa.Z
end
