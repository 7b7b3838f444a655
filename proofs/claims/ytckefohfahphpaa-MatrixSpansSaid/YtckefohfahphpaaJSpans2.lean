/- The statement Spans is proved here, for every input, out of the walks and the plain laws of the texts ahead of it. -/
import Derived.Test.YtckefohfahphpaaRows
import Derived.WalkKit
import Derived.ProofKit
import Derived.OpenShut
import Derived.ShutString
import Derived.ChangeOld
import Derived.Below
import Derived.SizedLaws
import Derived.Test.YtckefohfahphpaaJSpans0
import Derived.Test.YtckefohfahphpaaJSpans1
section
namespace Go.Proofs.Ytckefohfahphpaa.Z
open Go.RowKit Go.Proofs.YtckefohfahphpaaW.PrintWords Go.Proofs.YtckefohfahphpaaW.PrintLast Go.Proofs.YtckefohfahphpaaW.PrintMore
set_option linter.unusedVariables false
set_option linter.unusedSimpArgs false
def vec (l : List Int) : Vc := fun x => rd l (x : Int)
def rowsV (L : List (List Int)) : Nat → Vc := fun i => vec (rd_L1 L (i : Int))
def spanL (L : List (List Int)) : List Vc := vs (rowsV L) L.length
theorem vec_get {l : List Int} {x : Nat} (h : x < l.length) : vec l x = l[x] := by simp [vec, rd, List.getD_eq_getElem?_getD, h]
theorem vec_out {l : List Int} {x : Nat} (h : l.length ≤ x) : vec l x = 0 := by simp [vec, rd, List.getD_eq_getElem?_getD, h]
theorem vec_rd {l : List Int} {c : Int} (h : 0 ≤ c) : rd l c = vec l c.toNat := by unfold vec; rw [show ((c.toNat : Nat) : Int) = c by omega]
theorem vec_mem {l : List Int} {x : Nat} (h : x < l.length) : vec l x ∈ l := by rw [vec_get h]; exact List.getElem_mem h
theorem mem_vec {l : List Int} {y : Int} (h : y ∈ l) : ∃ x, x < l.length ∧ vec l x = y := by
 obtain ⟨i, hi, e⟩ := List.mem_iff_getElem.mp h
 exact ⟨i, hi, by rw [vec_get hi]; exact e⟩
theorem vec_map {f : Int → Int} (h0 : f 0 = 0) (l : List Int) (x : Nat) : vec (l.map f) x = f (vec l x) := by
 by_cases h : x < l.length
 ·
  rw [vec_get h, vec_get (by simpa using h)]; simp
 ·
  rw [vec_out (by simp; omega), vec_out (by omega), h0]
theorem vec_zip {op : Int → Int → Int} (h0 : op 0 0 = 0) {a b : List Int} (he : a.length = b.length) (x : Nat) : vec (List.zipWith op a b) x = op (vec a x) (vec b x) := by
 by_cases h : x < a.length
 ·
  rw [vec_get h, vec_get (show x < b.length by omega), vec_get (by simp; omega)]; simp
 ·
  rw [vec_out (by simp; omega), vec_out (show a.length ≤ x by omega), vec_out (show b.length ≤ x by omega), h0]
theorem vec_ext {a b : List Int} (he : a.length = b.length) (h : vec a = vec b) : a = b := by
 apply List.ext_getElem he
 intro i h1 h2
 rw [← vec_get h1, ← vec_get h2, h]
def okr (n : Nat) (l : List Int) : Prop := l.length = n ∧ ok64 l
theorem okr_in {n : Nat} {l : List Int} (h : okr n l) (x : Nat) : in64 (vec l x) := by
 by_cases hx : x < l.length
 ·
  exact h.2 _ (vec_mem hx)
 ·
  rw [vec_out (by omega)]; constructor <;> omega
def nl (x : Int) : Prop := -9223372036854775807 ≤ x ∧ x ≤ 9223372036854775807
theorem nl.in64 {x : Int} (h : nl x) : in64 x := ⟨by have := h.1; omega, h.2⟩
theorem nl_of {x : Int} (h : in64 x) (hl : x ≠ least) : nl x := by
 obtain ⟨h1, h2⟩ := h
 unfold least at hl
 exact ⟨by omega, h2⟩
def nlr (n : Nat) (l : List Int) : Prop := l.length = n ∧ ∀ z ∈ l, nl z
theorem nlr_in {n : Nat} {l : List Int} (h : nlr n l) (x : Nat) : nl (vec l x) := by
 by_cases hx : x < l.length
 ·
  exact h.2 _ (vec_mem hx)
 ·
  rw [vec_out (by omega)]; constructor <;> omega
theorem nlr.okr {n : Nat} {l : List Int} (h : nlr n l) : okr n l := ⟨h.1, fun z hz => (h.2 z hz).in64⟩
theorem nlr_of {n : Nat} {l : List Int} (h : okr n l) (hl : ∀ x, nl (vec l x)) : nlr n l := ⟨h.1, fun z hz => by
 obtain ⟨x, _, e⟩ := mem_vec hz
 rw [← e]
 exact hl x⟩
theorem gcdL_greatest {d : Int} : ∀ (a : List Int) (s : Int), d ∣ s → (∀ x ∈ a, d ∣ x) → d ∣ gcdL a s
 | [], _, h, _ => h
 | y :: a, s, h, ha => gcdL_greatest a _ (Int.dvd_coe_gcd h (ha y (by simp))) fun x hx => ha x (by simp [hx])
def big (v : Vc) : Prop := ∃ x, hb 8 < (v x).natAbs
theorem prim_spec {a : List Int} {n : Nat} (ha : okr n a) :
  (primG a = ([], 3) ∧ big (vec a)) ∨ ∃ s, primG a = (s, 0) ∧ okr n s ∧ (∀ x, vec s x ≠ least) ∧ ∃ g : Int, 0 < g ∧ (∀ x, vec a x = g * vec s x) ∧ ((∀ x, vec a x = 0) ∨ Prm (vec s)) := by
 by_cases hl : least ∈ a
 ·
  left
  refine ⟨by unfold primG; rw [if_pos hl], ?_⟩
  obtain ⟨x, _, e⟩ := mem_vec hl
  exact ⟨x, by rw [e, hb8]; decide⟩
 ·
  right
  have hg0 := gcdL_nonneg a 0 (Int.le_refl 0)
  obtain ⟨_, hdv⟩ := gcdL_dvd a 0
  refine ⟨a.map fun x => if gcdL a 0 > 0 then Int.tdiv x (gcdL a 0) else 0, by unfold primG; rw [if_neg hl], ⟨by simp [ha.1], ?_⟩, ?_, ?_⟩
  ·
   intro y hy
   obtain ⟨x, hx, rfl⟩ := List.mem_map.mp hy
   split
   ·
    exact tdiv_in (ha.2 x hx) (by omega)
   ·
    constructor <;> omega
  ·
   intro x
   rw [vec_map (by simp)]
   by_cases hx : x < a.length
   ·
    have hm := vec_mem hx
    have h1 := ha.2 _ hm
    have h2 : vec a x ≠ least := fun e => hl (e ▸ hm)
    split
    ·
     have h3 : (Int.tdiv (vec a x) (gcdL a 0)).natAbs ≤ (vec a x).natAbs := by rw [Int.natAbs_tdiv]; exact Nat.div_le_self _ _
     obtain ⟨h4, h5⟩ := h1
     unfold least at *
     omega
    ·
     unfold least; decide
   ·
    rw [vec_out (by omega)]
    unfold least
    simp
  ·
   by_cases hz : gcdL a 0 > 0
   ·
    refine ⟨gcdL a 0, hz, fun x => ?_, .inr fun d hd => ?_⟩
    ·
     rw [vec_map (by simp), if_pos hz]
     by_cases hx : x < a.length
     ·
      exact (Int.mul_tdiv_cancel' (hdv _ (vec_mem hx))).symm
     ·
      rw [vec_out (by omega)]; simp
    ·
     have h1 : gcdL a 0 * d ∣ gcdL a 0 := by
      refine gcdL_greatest a 0 ⟨0, by simp⟩ fun y hy => ?_
      obtain ⟨x, hx, rfl⟩ := mem_vec hy
      have := hd x
      rw [vec_map (by simp), if_pos hz] at this
      obtain ⟨q, hq⟩ := this
      refine ⟨q, ?_⟩
      rw [Int.mul_assoc, ← hq]
      exact (Int.mul_tdiv_cancel' (hdv _ (vec_mem hx))).symm
     obtain ⟨q, hq⟩ := h1
     refine ⟨q, ?_⟩
     have : gcdL a 0 * (d * q) = gcdL a 0 * 1 := by rw [← Int.mul_assoc, ← hq, Int.mul_one]
     exact (Int.eq_of_mul_eq_mul_left (by omega) this).symm
   ·
    have h0 : gcdL a 0 = 0 := by omega
    have hall : ∀ x, vec a x = 0 := fun x => by
     by_cases hx : x < a.length
     ·
      have := hdv _ (vec_mem hx)
      rw [h0] at this
      exact Int.zero_dvd.mp this
     ·
      exact vec_out (by omega)
    refine ⟨1, by omega, fun x => ?_, .inl hall⟩
    rw [hall x, vec_map (by simp), if_neg hz]
    rfl
theorem zip_cases {P : Int → Int → Bool} {op : Int → Int → Int} {Q : Int → Prop} (hQ : ∀ x y, P x y = true → Q (op x y)) : ∀ (a b acc : List Int), (∀ z ∈ acc, Q z) →
  (zipP P op a b acc = ([], 3) ∧ ∃ x ∈ a, ∃ y ∈ b, P x y = false) ∨ (zipP P op a b acc = (acc ++ List.zipWith op a b, 0) ∧ ∀ z ∈ acc ++ List.zipWith op a b, Q z)
 | x :: a, y :: b, acc, h => by
  rw [zipP]
  by_cases hp : P x y = true
  ·
   rw [if_pos hp]
   rcases zip_cases hQ a b (acc ++ [op x y]) (fun z hz => by
    rcases List.mem_append.mp hz with h1 | h1
    ·
     exact h z h1
    ·
     simp at h1; subst h1; exact hQ x y hp) with ⟨h1, x', hx', y', hy', h2⟩ | ⟨h1, h2⟩
   ·
    exact .inl ⟨h1, x', by simp [hx'], y', by simp [hy'], h2⟩
   ·
    refine .inr ⟨by rw [h1]; simp, fun z hz => h2 z (by simpa using hz)⟩
  ·
   rw [if_neg hp]
   exact .inl ⟨rfl, x, by simp, y, by simp, by simpa using hp⟩
 | [], b, acc, h => .inr ⟨by simp [zipP], by simpa using h⟩
 | x :: a, [], acc, h => .inr ⟨by simp [zipP], by simpa using h⟩
/-- A row cleared in column c by a row v. -/
structure Clr (n c : Nat) (u v w : List Int) : Prop where
 ok : okr n w
 lin : ∃ a b g : Int, 0 < a ∧ 0 < g ∧ ∀ x, g * vec w x = a * vec u x + b * vec v x
 zr : vec w c = 0
 nl : (∀ x, nl (vec u x)) → ∀ x, nl (vec w x)
 pr : (∀ x, vec w x = vec u x) ∨ Prm (vec w) ∨ ∀ x, vec w x = 0
theorem Clr.keep {n c : Nat} {u v : List Int} (h : okr n u) (h0 : vec u c = 0) : Clr n c u v u :=
 ⟨h, ⟨1, 0, 1, by decide, by decide, fun x => by simp⟩, h0, fun h => h, .inl fun _ => rfl⟩
theorem tdiv_gcd {x y : Int} (hy : 0 < y) : 0 < (Int.gcd x y : Int) ∧ (Int.gcd x y : Int) ≤ y ∧ (Int.gcd x y : Int) * Int.tdiv x (Int.gcd x y : Int) = x ∧ (Int.gcd x y : Int) * Int.tdiv y (Int.gcd x y : Int) = y ∧ 0 < Int.tdiv y (Int.gcd x y : Int) ∧ (Int.tdiv y (Int.gcd x y : Int)) ≤ y ∧ (Int.tdiv x (Int.gcd x y : Int)).natAbs ≤ x.natAbs := by
 have h1 : 0 < Int.gcd x y := Int.gcd_pos_of_ne_zero_right x (by omega)
 have h2 : (Int.gcd x y : Int) ≤ y := Int.le_of_dvd hy (Int.gcd_dvd_right ..)
 have h3 : (Int.gcd x y : Int) * Int.tdiv x (Int.gcd x y : Int) = x := Int.mul_tdiv_cancel' (Int.gcd_dvd_left ..)
 have h4 : (Int.gcd x y : Int) * Int.tdiv y (Int.gcd x y : Int) = y := Int.mul_tdiv_cancel' (Int.gcd_dvd_right ..)
 have h5 : (Int.tdiv y (Int.gcd x y : Int)).natAbs ≤ y.natAbs := by rw [Int.natAbs_tdiv]; exact Nat.div_le_self _ _
 have h6 : (Int.tdiv x (Int.gcd x y : Int)).natAbs ≤ x.natAbs := by rw [Int.natAbs_tdiv]; exact Nat.div_le_self _ _
 have h7 : 0 < Int.tdiv y (Int.gcd x y : Int) := by
  apply Classical.byContradiction
  intro hn
  have := Int.mul_nonneg (a := (Int.gcd x y : Int)) (b := -Int.tdiv y (Int.gcd x y : Int)) (by omega) (by omega)
  rw [Int.mul_neg, h4] at this
  omega
 exact ⟨by omega, h2, h3, h4, h7, by omega, h6⟩
theorem clear_spec {K n : Nat} {rows : List (List Int)} {i p c : Nat} (hK : 200 ≤ K) (hn : n ≤ 64) (hi : i < rows.length) (hp : p < rows.length) (hu : okr n (rd_L1 rows i)) (hv : okr n (rd_L1 rows p)) (hc : c < n)
  (hx : vec (rd_L1 rows i) c ≠ 0) (hy : 0 < vec (rd_L1 rows p) c) :
  (∃ s, table_clear.f K rows i p c = some (rows.set i s, 0) ∧ Clr n c (rd_L1 rows i) (rd_L1 rows p) s) ∨ (∃ rows', table_clear.f K rows i p c = some (rows', 3) ∧ (big (vec (rd_L1 rows i)) ∨ big (vec (rd_L1 rows p)))) := by
 unfold table_clear.f
 obtain ⟨u, hue⟩ : ∃ u, u = rd_L1 rows i := ⟨_, rfl⟩
 obtain ⟨v, hve⟩ : ∃ v, v = rd_L1 rows p := ⟨_, rfl⟩
 rw [← hue] at hu hx ⊢
 rw [← hve] at hv hy ⊢
 have hul := hu.1
 have hvl := hv.1
 rw [if_pos ⟨by omega, by omega, by omega, by omega, by omega, by omega, by omega⟩]
 have e1 : rd u (c : Int) = vec u c := rfl
 have e2 : rd v (c : Int) = vec v c := rfl
 rw [e1, e2]
 obtain ⟨x, hxe⟩ : ∃ x, x = vec u c := ⟨_, rfl⟩
 obtain ⟨y, hye⟩ : ∃ y, y = vec v c := ⟨_, rfl⟩
 have hxi : in64 x := hxe ▸ okr_in hu c
 have hyi : in64 y := hye ▸ okr_in hv c
 rw [← hxe] at hx ⊢
 rw [← hye] at hy ⊢
 obtain ⟨g1, g2, g3, g4, g5, g6, g7⟩ := tdiv_gcd (x := x) (y := y) hy
 obtain ⟨g, hge⟩ : ∃ g, g = (Int.gcd x y : Int) := ⟨_, rfl⟩
 unfold safeint_Gcd.f
 rw [if_pos ⟨hxi, hyi⟩]
 have hyu := hyi.2
 rw [if_pos (by omega)]
 simp only [Option.bind_some]
 rw [if_neg (by simp), ← hge]
 rw [← hge] at g1 g2 g3 g4 g5 g6 g7
 obtain ⟨al, hal⟩ : ∃ z, z = Int.tdiv y g := ⟨_, rfl⟩
 obtain ⟨be, hbe⟩ : ∃ z, z = Int.tdiv x g := ⟨_, rfl⟩
 rw [← hbe] at g3 g7 ⊢
 rw [← hal] at g4 g5 g6 ⊢
 obtain ⟨hx1, hx2⟩ := hxi
 obtain ⟨hy1, hy2⟩ := hyi
 have hbx : big (vec u) ∨ x.natAbs ≤ hb 8 := by
  by_cases h : hb 8 < x.natAbs
  ·
   exact .inl ⟨c, by rw [← hxe]; exact h⟩
  ·
   exact .inr (by omega)
 have hby : big (vec v) ∨ y.natAbs ≤ hb 8 := by
  by_cases h : hb 8 < y.natAbs
  ·
   exact .inl ⟨c, by rw [← hye]; exact h⟩
  ·
   exact .inr (by omega)
 by_cases hl : x = -9223372036854775808
 ·
  right
  rw [if_pos hl]
  refine ⟨_, rfl, .inl ⟨c, ?_⟩⟩
  rw [← hxe, hl, hb8]
  decide
 rw [if_neg hl, if_neg (by omega)]
 have w1 : wrap64 al = al := wrap64_id ⟨by omega, by omega⟩
 have w2 : wrap64 be = be := wrap64_id ⟨by omega, by omega⟩
 have w3 : wrap64 (-be) = -be := wrap64_id ⟨by omega, by omega⟩
 rw [w1, w2, w3, vcomb_eq hu.2 hv.2 ⟨by omega, by omega⟩ ⟨by omega, by omega⟩ (by omega), if_pos (by omega)]
 simp only [Option.bind_some]
 have hsmall : ∀ {a b : Int}, a.natAbs ≤ hb 8 → b.natAbs ≤ hb 8 → (a * b).natAbs ≤ 100000000000000000 := by
  intro a b h1 h2
  rw [Int.natAbs_mul]
  refine Nat.le_trans (Nat.mul_le_mul h1 h2) ?_
  rw [hb8]
  decide
 have hnb : ¬ big (vec u) → ¬ big (vec v) → al.natAbs ≤ hb 8 ∧ be.natAbs ≤ hb 8 ∧ ∀ z, (vec u z).natAbs ≤ hb 8 ∧ (vec v z).natAbs ≤ hb 8 := by
  intro h1 h2
  have hbx := hbx.resolve_left h1
  have hby := hby.resolve_left h2
  exact ⟨by omega, by omega, fun z => ⟨Nat.le_of_not_lt fun h => h1 ⟨z, h⟩, Nat.le_of_not_lt fun h => h2 ⟨z, h⟩⟩⟩
 rcases zip_cases (P := combP al (-be)) (op := fun x y => x * al + y * (-be)) (Q := in64) (fun x y h => by
  unfold combP at h
  simp only [Bool.and_eq_true, decide_eq_true_eq] at h
  exact h.2) u v [] (by simp) with ⟨h1, x', hx', y', hy', h2⟩ | ⟨h1, h2⟩
 ·
  right
  rw [h1, if_pos (by decide)]
  refine ⟨_, rfl, ?_⟩
  apply Classical.byContradiction
  intro hno
  have hno1 : ¬ big (vec u) := fun h => hno (.inl h)
  have hno2 : ¬ big (vec v) := fun h => hno (.inr h)
  obtain ⟨b1, b2, b3⟩ := hnb hno1 hno2
  obtain ⟨z1, _, rfl⟩ := mem_vec hx'
  obtain ⟨z2, _, rfl⟩ := mem_vec hy'
  have p1 := hsmall (b3 z1).1 b1
  have p2 := hsmall (a := vec v z2) (b := -be) (b3 z2).2 (by rw [Int.natAbs_neg]; exact b2)
  unfold combP at h2
  rw [decide_eq_true (show in64 (vec u z1 * al) from ⟨by omega, by omega⟩), decide_eq_true (show in64 (vec v z2 * -be) from ⟨by omega, by omega⟩), decide_eq_true (show in64 (vec u z1 * al + vec v z2 * -be) from ⟨by omega, by omega⟩)] at h2
  simp at h2
 ·
  rw [h1, if_neg (by simp)]
  simp only [List.nil_append] at h2 ⊢
  have hrl : okr n (List.zipWith (fun x y => x * al + y * (-be)) u v) := ⟨by simp; omega, h2⟩
  have hrv : ∀ z, vec (List.zipWith (fun x y => x * al + y * (-be)) u v) z = vec u z * al + vec v z * (-be) := fun z => vec_zip (by simp) (by omega) z
  generalize List.zipWith (fun x y => x * al + y * (-be)) u v = r at *
  rw [vprim_eq hrl.2 (by have := hrl.1; omega) K (by have := hrl.1; omega)]
  simp only [Option.bind_some]
  rcases prim_spec hrl with ⟨q1, z, q2⟩ | ⟨s, q1, q2, q3, g', q4, q5, q6⟩
  ·
   right
   rw [q1]
   refine ⟨_, rfl, ?_⟩
   apply Classical.byContradiction
   intro hno
   have hlm : least ∈ r := by
    apply Classical.byContradiction
    intro h
    unfold primG at q1
    rw [if_neg h] at q1
    simp at q1
   obtain ⟨z, _, hz⟩ := mem_vec hlm
   obtain ⟨b1, b2, b3⟩ := hnb (fun h => hno (.inl h)) (fun h => hno (.inr h))
   have p1 := hsmall (b3 z).1 b1
   have p2 := hsmall (a := vec v z) (b := -be) (b3 z).2 (by rw [Int.natAbs_neg]; exact b2)
   rw [hrv] at hz
   unfold least at hz
   omega
  ·
   left
   rw [q1]
   refine ⟨s, by simp, q2, ⟨al, -be, g', g5, q4, fun z => ?_⟩, ?_, fun _ z => nl_of (okr_in q2 z) (q3 z), ?_⟩
   ·
    rw [← q5, hrv, Int.mul_comm al, Int.mul_comm (-be)]
   ·
    have h5 := q5 c
    have h6 : vec u c * al + vec v c * -be = 0 := by
     rw [← hxe, ← hye]
     have : x * al + y * -be = x * al - y * be := by rw [Int.mul_neg]; omega
     rw [this]
     have h7 : g * (x * al - y * be) = 0 := by
      rw [Int.mul_sub, Int.mul_left_comm, g4, Int.mul_left_comm, g3, Int.mul_comm]
      omega
     exact (Int.mul_eq_zero.mp h7).resolve_left (by omega)
    rw [hrv, h6] at h5
    exact (Int.mul_eq_zero.mp h5.symm).resolve_left (by omega)
   ·
    rcases q6 with q6 | q6
    ·
     exact .inr (.inr fun z => by
      have := q5 z
      rw [q6 z] at this
      exact (Int.mul_eq_zero.mp this.symm).resolve_left (by omega))
    ·
     exact .inr (.inl q6)
end Go.Proofs.Ytckefohfahphpaa.Z
end
section
namespace Go.Proofs.Ytckefohfahphpaa.Z
open Go.RowKit Go.Proofs.YtckefohfahphpaaW.PrintWords Go.Proofs.YtckefohfahphpaaW.PrintLast Go.Proofs.YtckefohfahphpaaW.PrintMore
set_option linter.unusedVariables false
set_option linter.unusedSimpArgs false
theorem rdL_set {L : List (List Int)} {i : Nat} {s : List Int} (h : i < L.length) (j : Nat) : rd_L1 (L.set i s) (j : Int) = if j = i then s else rd_L1 L (j : Int) := by
 by_cases e : j = i
 ·
  subst e
  simp [rd_L1, List.getD_eq_getElem?_getD, h]
 ·
  rw [if_neg e]
  simp [rd_L1, List.getD_eq_getElem?_getD, List.getElem?_set_ne (Ne.symm e)]
theorem rdL_out {L : List (List Int)} {j : Nat} (h : L.length ≤ j) : rd_L1 L (j : Int) = [] := by simp [rd_L1, List.getD_eq_getElem?_getD, h]
def good (m n : Nat) (L : List (List Int)) : Prop := L.length = m ∧ ∀ i, i < m → okr n (rd_L1 L (i : Int))
theorem leadAt_spec {m n c : Nat} {L : List (List Int)} (hg : good m n L) (hc : c < n) : ∀ (d k : Nat), k + d = m → ∃ at_, table_leadAt (c : Int) (L.drop k) k = some at_ ∧ k ≤ at_ ∧ at_ ≤ m ∧ (∀ i, k ≤ i → i < at_ → vec (rd_L1 L (i : Int)) c = 0) ∧ (at_ < m → vec (rd_L1 L (at_ : Int)) c ≠ 0) := by
 intro d
 induction d with
 | zero =>
  intro k hk
  refine ⟨k, ?_, by omega, by omega, fun i h1 h2 => by omega, fun h => by omega⟩
  rw [List.drop_of_length_le (by rw [hg.1]; omega)]
  rfl
 | succ d ih =>
  intro k hk
  have hkl : k < L.length := by rw [hg.1]; omega
  have hr := hg.2 k (by omega)
  have hrl := hr.1
  rw [drop_L1 hkl, table_leadAt, if_pos ⟨by omega, by omega⟩]
  have e1 : rd (rd_L1 L (k : Int)) (c : Int) = vec (rd_L1 L (k : Int)) c := rfl
  rw [e1]
  by_cases h0 : vec (rd_L1 L (k : Int)) c = 0
  ·
   rw [if_pos h0]
   obtain ⟨at_, h1, h2, h3, h4, h5⟩ := ih (k + 1) (by omega)
   refine ⟨at_, h1, by omega, h3, fun i h6 h7 => ?_, h5⟩
   by_cases e : i = k
   ·
    rw [e]; exact h0
   ·
    exact h4 i (by omega) h7
  ·
   rw [if_neg h0]
   exact ⟨k, rfl, by omega, by omega, fun i h1 h2 => by omega, fun _ => h0⟩
/-- What bringing row q to place k does. -/
structure Led (m n k q c : Nat) (L M : List (List Int)) : Prop where
 qk : k ≤ q
 qm : q < m
 nq : vec (rd_L1 L (q : Int)) c ≠ 0
 gd : good m n M
 oth : ∀ i, i < m → i ≠ k → rd_L1 M (i : Int) = rd_L1 L ((if i = q then k else i : Nat) : Int)
 lin : ∃ a g : Int, a ≠ 0 ∧ g ≠ 0 ∧ ∀ x, g * vec (rd_L1 M (k : Int)) x = a * vec (rd_L1 L (q : Int)) x
 prm : Prm (vec (rd_L1 M (k : Int)))
 pos : 0 < vec (rd_L1 M (k : Int)) c
 nl : ∀ x, nl (vec (rd_L1 M (k : Int)) x)
theorem lead_spec {K m n c : Nat} {L : List (List Int)} {cols : List Int} (hK : 200 ≤ K) (hm : m ≤ 64) (hn : n ≤ 64) (hg : good m n L) (hc : c < n) (hk : cols.length < m) :
  (∃ M, table_lead.f K L cols c = some ((M, cols ++ [(c : Int)]), true, 0) ∧ ∃ q, Led m n cols.length q c L M) ∨
  (table_lead.f K L cols c = some ((L, cols), false, 0) ∧ ∀ i, cols.length ≤ i → i < m → vec (rd_L1 L (i : Int)) c = 0) ∨
  (∃ M, table_lead.f K L cols c = some ((M, cols), false, 3) ∧ ∃ i, i < m ∧ big (vec (rd_L1 L (i : Int)))) := by
 obtain ⟨k, hke⟩ : ∃ k, k = cols.length := ⟨_, rfl⟩
 have hL := hg.1
 unfold table_lead.f
 rw [if_pos ⟨by omega, by omega, by omega⟩, ← hke]
 obtain ⟨q, h1, h2, h3, h4, h5⟩ := leadAt_spec hg hc (m - k) k (by omega)
 rw [h1]
 simp only [Option.bind_some]
 unfold table_leadTo
 by_cases hq : q = L.length
 ·
  right; left
  rw [if_pos hq]
  exact ⟨rfl, fun i h6 h7 => h4 i h6 (by omega)⟩
 rw [if_neg hq, ← hke]
 have hr := hg.2 q (by omega)
 have hrl := hr.1
 rw [vprim_eq hr.2 (by omega) K (by omega)]
 simp only [Option.bind_some]
 rcases prim_spec hr with ⟨q1, q2⟩ | ⟨s, q1, q2, q3, g, q4, q5, q6⟩
 ·
  right; right
  rw [q1, if_neg (by decide)]
  exact ⟨_, rfl, q, by omega, q2⟩
 rw [q1, if_pos rfl]
 have hsl := q2.1
 rw [if_pos ⟨by omega, by dsimp only; omega⟩]
 have hnq := h5 (by omega)
 have hp : Prm (vec s) := q6.resolve_left fun h => hnq (h c)
 have hs0 : vec s c ≠ 0 := by
  intro h0
  have := q5 c
  rw [h0] at this
  exact hnq (by omega)
 have e1 : rd (s, (0 : Int)).1 (c : Int) = vec s c := rfl
 rw [e1]
 have place : ∀ r : List Int, okr n r → (∀ x, nl (vec r x)) → (∃ a g : Int, a ≠ 0 ∧ g ≠ 0 ∧ ∀ x, g * vec r x = a * vec (rd_L1 L (q : Int)) x) → Prm (vec r) → 0 < vec r c →
   Led m n k q c L (((L.set k (rd_L1 L (q : Int))).set q (rd_L1 L (k : Int))).set k r) := by
  intro r hr1 hr0 hr2 hr3 hr4
  have hMk : rd_L1 (((L.set k (rd_L1 L (q : Int))).set q (rd_L1 L (k : Int))).set k r) (k : Int) = r := by rw [rdL_set (by simp; omega), if_pos rfl]
  have hM : ∀ i, i < m → i ≠ k → rd_L1 (((L.set k (rd_L1 L (q : Int))).set q (rd_L1 L (k : Int))).set k r) (i : Int) = rd_L1 L ((if i = q then k else i : Nat) : Int) := by
   intro i hi hik
   rw [rdL_set (by simp; omega), if_neg hik, rdL_set (by simp; omega)]
   by_cases e : i = q
   ·
    rw [if_pos e, if_pos e]
   ·
    rw [if_neg e, if_neg e, rdL_set (by omega), if_neg hik]
  refine ⟨h2, by omega, hnq, ⟨by simp; omega, fun i hi => ?_⟩, hM, by rw [hMk]; exact hr2, by rw [hMk]; exact hr3, by rw [hMk]; exact hr4, by rw [hMk]; exact hr0⟩
  by_cases e : i = k
  ·
   rw [e, hMk]; exact hr1
  ·
   rw [hM i hi e]
   exact hg.2 _ (by split <;> omega)
 by_cases hneg : vec s c < 0
 ·
  rw [if_pos hneg, vscale_eq q2.2 (by constructor <;> omega) (by omega)]
  simp only [Option.bind_some]
  rcases zip_cases (P := scaleP (-1)) (op := fun x _ => x * (-1)) (Q := in64) (fun x y h => by
   unfold scaleP at h
   simpa using h) s s [] (by simp) with ⟨z1, x', hx', y', hy', z2⟩ | ⟨z1, z2⟩
  ·
   exfalso
   unfold scaleP at z2
   obtain ⟨i, _, rfl⟩ := mem_vec hx'
   have := okr_in q2 i
   have := q3 i
   unfold least at this
   rw [decide_eq_true (show in64 (vec s i * -1) from by unfold in64 at *; omega)] at z2
   simp at z2
  ·
   left
   rw [z1, if_pos rfl]
   simp only [List.nil_append] at z2 ⊢
   have hv : ∀ x, vec (List.zipWith (fun x _ => x * (-1)) s s) x = -vec s x := fun x => by
    rw [vec_zip (op := fun x _ => x * (-1)) (by simp) rfl]
    omega
   refine ⟨_, rfl, q, place _ ⟨by simp; omega, z2⟩ (fun x => by
    rw [hv]
    obtain ⟨n1, n2⟩ := nl_of (okr_in q2 x) (q3 x)
    constructor <;> omega) ⟨-1, g, by decide, by omega, fun x => ?_⟩ ?_ ?_⟩
   ·
    rw [hv, q5, Int.mul_neg]
    omega
   ·
    intro d hd
    refine hp d fun x => ?_
    have := hd x
    rw [hv] at this
    exact Int.dvd_neg.mp this
   ·
    rw [hv]; omega
 ·
  left
  rw [if_neg hneg]
  exact ⟨_, rfl, q, place s q2 (fun x => nl_of (okr_in q2 x) (q3 x)) ⟨1, g, by decide, by omega, fun x => by rw [q5]; omega⟩ hp (by omega)⟩
end Go.Proofs.Ytckefohfahphpaa.Z
end
section
namespace Go.Proofs.Ytckefohfahphpaa.Z
open Go.RowKit Go.Proofs.YtckefohfahphpaaW.PrintWords Go.Proofs.YtckefohfahphpaaW.PrintLast Go.Proofs.YtckefohfahphpaaW.PrintMore
set_option linter.unusedVariables false
set_option linter.unusedSimpArgs false
theorem redclear_spec {K m n p c : Nat} (hK : 200 ≤ K) (hn : n ≤ 64) (hp : p < m) (hc : c < n) : ∀ (d i : Nat) (L : List (List Int)), i + d = m → good m n L → 0 < vec (rd_L1 L (p : Int)) c →
  (∃ M, red_clear K p c d L i = some (M, 0) ∧ good m n M ∧ rd_L1 M (p : Int) = rd_L1 L (p : Int) ∧ (∀ j : Nat, j < i → rd_L1 M (j : Int) = rd_L1 L (j : Int)) ∧ ∀ j : Nat, i ≤ j → j < m → j ≠ p → Clr n c (rd_L1 L (j : Int)) (rd_L1 L (p : Int)) (rd_L1 M (j : Int))) ∨
  (∃ M, red_clear K p c d L i = some (M, 3) ∧ ∃ j : Nat, (i ≤ j ∨ j = p) ∧ j < m ∧ big (vec (rd_L1 L (j : Int)))) := by
 intro d
 induction d with
 | zero =>
  intro i L hi hg hv
  exact .inl ⟨L, rfl, hg, rfl, fun _ _ => rfl, fun j h1 h2 => by omega⟩
 | succ d ih =>
  intro i L hi hg hv
  have hL := hg.1
  have hr := hg.2 i (by omega)
  have hrl := hr.1
  rw [red_clear]
  by_cases hip : i = p
  ·
   rw [if_pos (by omega)]
   rcases ih (i + 1) L (by omega) hg hv with ⟨M, h1, h2, h3, h4, h5⟩ | h
   ·
    exact .inl ⟨M, h1, h2, h3, fun j hj => h4 j (by omega), fun j h6 h7 h8 => h5 j (by omega) h7 h8⟩
   ·
    obtain ⟨M, q1, j, q0, q2, q3⟩ := h
    exact .inr ⟨M, q1, j, by omega, q2, q3⟩
  rw [if_neg (by omega), if_pos ⟨by omega, by omega⟩]
  have e1 : rd (rd_L1 L (i : Int)) (c : Int) = vec (rd_L1 L (i : Int)) c := rfl
  rw [e1]
  by_cases h0 : vec (rd_L1 L (i : Int)) c = 0
  ·
   rw [if_pos h0]
   rcases ih (i + 1) L (by omega) hg hv with ⟨M, h1, h2, h3, h4, h5⟩ | h
   ·
    refine .inl ⟨M, h1, h2, h3, fun j hj => h4 j (by omega), fun j h6 h7 h8 => ?_⟩
    by_cases e : j = i
    ·
     subst e
     rw [h4 j (by omega)]
     exact .keep hr h0
    ·
     exact h5 j (by omega) h7 h8
   ·
    obtain ⟨M, q1, j, q0, q2, q3⟩ := h
    exact .inr ⟨M, q1, j, by omega, q2, q3⟩
  rw [if_neg h0]
  rcases clear_spec (i := i) (p := p) hK hn (by omega) (by omega) hr (hg.2 p hp) hc h0 hv with ⟨s, h1, h2⟩ | ⟨rows', h1, h2⟩
  ·
   rw [h1]
   simp only [Option.bind_some, if_true]
   have hs : ∀ j : Nat, rd_L1 (L.set i s) (j : Int) = if j = i then s else rd_L1 L (j : Int) := rdL_set (by omega)
   have hg' : good m n (L.set i s) := ⟨by simp; omega, fun j hj => by
    rw [hs]
    split
    ·
     exact h2.ok
    ·
     exact hg.2 j hj⟩
   have hsp : rd_L1 (L.set i s) (p : Int) = rd_L1 L (p : Int) := by rw [hs, if_neg (by omega)]
   rcases ih (i + 1) (L.set i s) (by omega) hg' (by rw [hsp]; exact hv) with ⟨M, q1, q2, q3, q4, q5⟩ | ⟨M, q1, j, q0, q2, q3⟩
   ·
    refine .inl ⟨M, q1, q2, by rw [q3, hsp], fun j hj => ?_, fun j h6 h7 h8 => ?_⟩
    ·
     rw [q4 j (by omega), hs, if_neg (by omega)]
    ·
     by_cases e : j = i
     ·
      subst e
      rw [q4 j (by omega), hs, if_pos rfl]
      exact h2
     ·
      have := q5 j (by omega) h7 h8
      rw [hsp, hs, if_neg e] at this
      exact this
   ·
    right
    rw [hs, if_neg (by omega)] at q3
    exact ⟨M, q1, j, by omega, q2, q3⟩
  ·
   rw [h1]
   simp only [Option.bind_some]
   rw [if_neg (by decide)]
   refine .inr ⟨rows', rfl, ?_⟩
   rcases h2 with h2 | h2
   ·
    exact ⟨i, by omega, by omega, h2⟩
   ·
    exact ⟨p, by omega, hp, h2⟩
/-- A state of the program's elimination ahead of column c. -/
structure Sta (a : List (List Int)) (m n : Nat) (L : List (List Int)) (cols : List Int) (p : Nat → Nat) (c : Nat) : Prop where
 gd : good m n L
 cs : ∀ i : Nat, i < cols.length → rd cols (i : Int) = (p i : Int)
 st : Stg (spanL a) m (rowsV L) cols.length p c
 ps : ∀ i, i < cols.length → 0 < rowsV L i (p i)
 nl : ∀ i, i < cols.length → ∀ x, nl (rowsV L i x)
 bd : ∃ R C, Bnd (spanL a) m (rowsV L) cols.length p R C
def tiny (a : List (List Int)) (m : Nat) : Prop := m ≤ 8 ∧ ∀ r ∈ spanL a, ∀ x, (r x).natAbs ≤ 3
theorem Sta.small {a : List (List Int)} {m n : Nat} {L : List (List Int)} {cols : List Int} {p : Nat → Nat} {c : Nat} (h : Sta a m n L cols p c) (ht : tiny a m) {i : Nat} (hi : i < m) : ¬ big (vec (rd_L1 L (i : Int))) := by
 obtain ⟨R, C, hb⟩ := h.bd
 rintro ⟨x, hx⟩
 have := hb.skip h.st ht.1 ht.2 i hi x
 unfold rowsV at this
 omega
theorem rd_snoc (l : List Int) (c : Int) (i : Nat) : rd (l ++ [c]) (i : Int) = if i = l.length then c else rd l (i : Int) := by
 simp only [rd, List.getD_eq_getElem?_getD, Int.toNat_natCast]
 by_cases h : i < l.length
 ·
  rw [if_neg (by omega), List.getElem?_append_left h]
 ·
  rw [List.getElem?_append_right (by omega)]
  by_cases e : i = l.length
  ·
   subst e; simp
  ·
   rw [if_neg e, List.getElem?_eq_none (by simp; omega), List.getElem?_eq_none (by omega)]
theorem pos_of_mul {a b : Int} (ha : 0 < a) (h : 0 < a * b) : 0 < b := by
 apply Classical.byContradiction
 intro hn
 have := Int.mul_nonneg (a := a) (b := -b) (by omega) (by omega)
 rw [Int.mul_neg] at this
 omega
theorem Sta.step {a : List (List Int)} {m n : Nat} {L M N : List (List Int)} {cols : List Int} {p : Nat → Nat} {c q : Nat} (h : Sta a m n L cols p c) (hl : Led m n cols.length q c L M) (hN : good m n N)
  (hk : rd_L1 N (cols.length : Int) = rd_L1 M (cols.length : Int)) (hc : ∀ j : Nat, j < m → j ≠ cols.length → Clr n c (rd_L1 M (j : Int)) (rd_L1 M (cols.length : Int)) (rd_L1 N (j : Int))) :
  Sta a m n N (cols ++ [(c : Int)]) (fun i => if i = cols.length then c else p i) (c + 1) := by
 have hkU : rowsV N cols.length = vec (rd_L1 M (cols.length : Int)) := by unfold rowsV; rw [hk]
 have hs : Stp m cols.length q c (rowsV L) (rowsV N) := by
  refine ⟨hl.qk, hl.qm, hl.nq, ?_, ?_, fun i hi hik => ?_, fun i hi hik => (hc i hi hik).zr, fun i hi hik => ?_⟩
  ·
   rw [hkU]; exact hl.lin
  ·
   rw [hkU]; exact hl.prm
  ·
   obtain ⟨a', b', g', ha, hg, e⟩ := (hc i hi hik).lin
   refine ⟨a', b', g', by omega, by omega, fun x => ?_⟩
   have := e x
   rw [hl.oth i hi hik] at this
   rw [hkU]
   exact this
  ·
   have := (hc i hi hik).pr
   rw [hl.oth i hi hik] at this
   exact this
 obtain ⟨R, C, hb⟩ := h.bd
 have hlen : (cols ++ [(c : Int)]).length = cols.length + 1 := by simp
 refine ⟨hN, fun i hi => ?_, by rw [hlen]; exact h.st.step hs, fun i hi => ?_, fun i hi x => ?_, by rw [hlen]; exact hb.step h.st hs⟩
 ·
  rw [rd_snoc]
  by_cases e : i = cols.length
  ·
   rw [if_pos e, if_pos e]
  ·
   rw [if_neg e, if_neg e]; exact h.cs i (by omega)
 ·
  by_cases e : i = cols.length
  ·
   rw [if_pos e, e, hkU]; exact hl.pos
  ·
   rw [if_neg e]
   have hi' : i < cols.length := by omega
   have hkm := hl.qm
   have hkq := hl.qk
   obtain ⟨a', b', g', ha, hg, e'⟩ := (hc i (by omega) e).lin
   have h1 := e' (p i)
   have h2 := (h.st.ukz hs).2.1 i hi'
   rw [hkU] at h2
   rw [h2, hl.oth i (by omega) e, if_neg (by omega), Int.mul_zero, Int.add_zero] at h1
   have h3 := Int.mul_pos ha (h.ps i hi')
   unfold rowsV at h3
   rw [← h1] at h3
   exact pos_of_mul hg h3
 ·
  by_cases e : i = cols.length
  ·
   rw [e, hkU]; exact hl.nl x
  ·
   have hkm := hl.qm
   have hkq := hl.qk
   refine (hc i (by omega) e).nl (fun x => ?_) x
   rw [hl.oth i (by omega) e, if_neg (by omega)]
   exact h.nl i (by omega) x
theorem redcols_spec {K m n : Nat} {a : List (List Int)} (hK : 200 ≤ K) (hm : m ≤ 64) (hn : n ≤ 64) : ∀ (d c : Nat) (L : List (List Int)) (cols : List Int) (p : Nat → Nat), c + d = n → Sta a m n L cols p c →
  (∃ N cols' p' c', red_cols K d L cols (c : Int) = some ((N, cols'), 0) ∧ Sta a m n N cols' p' c' ∧ c' ≤ n ∧ (cols'.length = m ∨ c' = n)) ∨ (∃ N cols', red_cols K d L cols (c : Int) = some ((N, cols'), 3) ∧ ¬ tiny a m) := by
 intro d
 induction d with
 | zero =>
  intro c L cols p hc hs
  exact .inl ⟨L, cols, p, c, rfl, hs, by omega, .inr (by omega)⟩
 | succ d ih =>
  intro c L cols p hc hs
  have hL := hs.gd.1
  have hkm := hs.st.km
  rw [red_cols]
  by_cases he : cols.length = L.length
  ·
   rw [if_pos he]
   exact .inl ⟨L, cols, p, c, rfl, hs, by omega, .inl (by omega)⟩
  rw [if_neg he]
  rcases lead_spec hK hm hn hs.gd (show c < n by omega) (cols := cols) (by omega) with ⟨M, h1, q, h2⟩ | ⟨h1, h2⟩ | ⟨M, h1, i, h2, h3⟩
  ·
   rw [h1]
   simp only [Option.bind_some, if_true]
   rw [show (((cols ++ [(c : Int)]).length : Int) - 1) = (cols.length : Int) by simp]
   have hM := h2.gd.1
   rcases redclear_spec hK hn (p := cols.length) (by omega) (show c < n by omega) M.length 0 M (by omega) h2.gd h2.pos with ⟨N, r1, r2, r3, r4, r5⟩ | ⟨N, r1, j, r0, r2, r3⟩
   ·
    have r1' : red_clear K (cols.length : Int) (c : Int) M.length M 0 = some (N, 0) := r1
    rw [r1']
    simp only [Option.bind_some, if_true]
    have := ih (c + 1) N (cols ++ [(c : Int)]) _ (by omega) (hs.step h2 r2 r3 fun j h3 h4 => r5 j (by omega) h3 h4)
    exact this
   ·
    have r1' : red_clear K (cols.length : Int) (c : Int) M.length M 0 = some (N, 3) := r1
    rw [r1']
    simp only [Option.bind_some]
    rw [if_neg (by decide)]
    refine .inr ⟨N, _, rfl, fun ht => ?_⟩
    by_cases e : j = cols.length
    ·
     obtain ⟨a', g', ha, hg, e'⟩ := h2.lin
     obtain ⟨x, hx⟩ := r3
     rw [e] at hx
     have := h2.prm.bound ha hg (fun x => (e' x).symm) x
     exact hs.small ht h2.qm ⟨x, by omega⟩
    ·
     rw [h2.oth j r2 e] at r3
     have := h2.qm
     have := h2.qk
     exact hs.small ht (by split <;> omega) r3
  ·
   rw [h1]
   simp only [Option.bind_some, if_true]
   rw [if_neg (by decide)]
   obtain ⟨R, C, hb⟩ := hs.bd
   exact ih (c + 1) L cols p (by omega) ⟨hs.gd, hs.cs, hs.st.skip h2, hs.ps, hs.nl, R, C, hb⟩
  ·
   rw [h1]
   simp only [Option.bind_some]
   rw [if_neg (by decide)]
   exact .inr ⟨M, cols, rfl, fun ht => hs.small ht h2 h3⟩
/-- What the program's elimination comes to. -/
structure Outc (a : List (List Int)) (n : Nat) (E : List (List Int)) (p : Nat → Nat) : Prop where
 ok : ∀ r ∈ E, nlr n r
 pn : ∀ i, i < E.length → p i < n
 fn : Fnl (spanL a) (rowsV E) E.length p
theorem Fnl.congr {A : List Vc} {T T' : Nat → Vc} {k : Nat} {p : Nat → Nat} (h : Fnl A T k p) (e : ∀ i, i < k → T i = T' i) : Fnl A T' k p := by
 have e1 : pairs T p k = pairs T' p k := List.map_congr_left fun i hi => by rw [e i (List.mem_range.mp hi)]
 have e2 : vs T k = vs T' k := List.map_congr_left fun i hi => e i (List.mem_range.mp hi)
 exact ⟨e1 ▸ h.red, fun i hi => e i hi ▸ h.up i hi, e2 ▸ h.dn, fun i hi => e i hi ▸ h.pr i hi⟩
theorem rdL_take {L : List (List Int)} {k i : Nat} (h : i < k) : rd_L1 (L.take k) (i : Int) = rd_L1 L (i : Int) := by
 simp [rd_L1, List.getD_eq_getElem?_getD, List.getElem?_take, h]
theorem good_mem {m n : Nat} {L : List (List Int)} (h : good m n L) {r : List Int} (hr : r ∈ L) : okr n r := by
 obtain ⟨i, hi, e⟩ := List.mem_iff_getElem.mp hr
 have := h.2 i (by rw [← h.1]; exact hi)
 rw [show rd_L1 L (i : Int) = r by simp [rd_L1, List.getD_eq_getElem?_getD, hi, e]] at this
 exact this
/-- What the bound of the rows gives the kernel's vectors. -/
def cram (E : List (List Int)) (p : Nat → Nat) : Prop := (∀ i, i < E.length → ∀ x, (rowsV E i x).natAbs ≤ hb 8) ∧ ∃ D : Int, D ≠ 0 ∧ D.natAbs ≤ hb 8 ∧ ∀ i, i < E.length → ∀ x, rowsV E i (p i) ∣ D * rowsV E i x
theorem reduce_spec {K : Nat} {a : List (List Int)} (hK : 200 ≤ K) (hv : validB a = true) (ha : ∀ r ∈ a, ok64 r) :
  (∃ E cols p, matrix_reduce.f K a = some ((E, cols), 0) ∧ Outc a (rd_L1 a 0).length E p ∧ cols.length = E.length ∧ (∀ i : Nat, i < E.length → rd cols (i : Int) = (p i : Int)) ∧ (tiny a a.length → cram E p)) ∨ (matrix_reduce.f K a = some (([], []), 3) ∧ ¬ tiny a a.length) := by
 obtain ⟨n, h1, h2, h3, h4, h5, h6⟩ := validB_iff.mp hv
 rw [h6]
 have hg : good a.length n a := ⟨rfl, fun i hi => by
  have := rdL_mem (a := a) (j := (i : Int)) (by omega) (by omega)
  exact ⟨h5 _ this, ha _ this⟩⟩
 unfold matrix_reduce.f
 rw [if_pos ⟨by omega, by omega, fun r hr => by rw [h5 r hr]; omega⟩, h6]
 have h0 : Sta a a.length n a [] (fun _ => 0) 0 := ⟨hg, fun i hi => by simp at hi, Stg.start _ _ _, fun i hi => by simp at hi, fun i hi => by simp at hi, [], [], Bnd.start _ _ _⟩
 rcases redcols_spec (K := K) (a := a) hK h2 h4 n 0 a [] _ (by omega) h0 with ⟨N, cols, p, c, r1, r2, r3, r4⟩ | ⟨N, cols, r1, r2⟩
 ·
  left
  have r1' : red_cols K n a [] 0 = some ((N, cols), 0) := r1
  rw [r1']
  simp only [Option.bind_some, if_true]
  have hN := r2.gd.1
  have hkm := r2.st.km
  rw [if_pos (by omega)]
  have hl : (N.take cols.length).length = cols.length := by simp; omega
  refine ⟨_, _, p, rfl, ⟨fun r hr => ?_, fun i hi => ?_, ?_⟩, hl.symm, fun i hi => r2.cs i (by omega), fun ht => ?_⟩
  ·
   obtain ⟨i, hi, e⟩ := List.mem_iff_getElem.mp hr
   have e1 : rd_L1 (N.take cols.length) (i : Int) = r := by rw [← e]; simp only [rd_L1, List.getD_eq_getElem?_getD, Int.toNat_natCast, List.getElem?_eq_getElem hi]; rfl
   have e2 : rowsV N i = vec r := by unfold rowsV; rw [← e1, rdL_take (by omega)]
   exact nlr_of (good_mem r2.gd (List.mem_of_mem_take hr)) fun x => by rw [← e2]; exact r2.nl i (by omega) x
  ·
   have := r2.st.lt i (by omega)
   omega
  ·
   rw [hl]
   refine (r2.st.fnl ?_ r2.ps).congr fun i hi => by unfold rowsV; rw [rdL_take hi]
   rcases r4 with r4 | r4
   ·
    exact .inl r4
   ·
    refine .inr fun i h7 h8 x => ?_
    by_cases hx : x < n
    ·
     exact r2.st.lo i h7 h8 x (by omega)
    ·
     exact vec_out (by have := (r2.gd.2 i h8).1; omega)
  ·
   obtain ⟨R, C, hb⟩ := r2.bd
   have hT : ∀ i, i < cols.length → rowsV (N.take cols.length) i = rowsV N i := fun i hi => by unfold rowsV; rw [rdL_take hi]
   refine ⟨fun i hi x => ?_, det R C, hb.dt, ?_, fun i hi x => ?_⟩
   ·
    rw [hT i (by omega)]
    exact hb.skip r2.st ht.1 ht.2 i (by omega) x
   ·
    have h7 := det_bound R C (fun r hr => ht.2 r (hb.ra r hr)) (by rw [hb.rl, hb.cl])
    have h8 := hb_mono (n := R.length) (m := 8) (by rw [hb.rl]; have := ht.1; omega)
    omega
   ·
    rw [hT i (by omega)]
    obtain ⟨v, D, _, h7, h8, h9⟩ := hb.cramer r2.st (show i < cols.length by omega)
    have h10 : rowsV N i (p i) ∣ D * rowsV N i x := ⟨v x, (h9 x).symm⟩
    rcases Int.natAbs_eq_natAbs_iff.mp h7 with e | e
    ·
     rw [← e]; exact h10
    ·
     rw [show det R C = -D by omega, Int.neg_mul]
     exact Int.dvd_neg.mpr h10
 ·
  right
  have r1' : red_cols K n a [] 0 = some ((N, cols), 3) := r1
  rw [r1']
  simp only [Option.bind_some]
  rw [if_neg (by decide)]
  exact ⟨rfl, r2⟩
end Go.Proofs.Ytckefohfahphpaa.Z
end
section
namespace Go.Proofs.Ytckefohfahphpaa.Z
open Go.RowKit Go.Proofs.YtckefohfahphpaaW.PrintWords Go.Proofs.YtckefohfahphpaaW.PrintLast Go.Proofs.YtckefohfahphpaaW.PrintMore
attribute [local go_sem] max2_int min2_int max_two min_two max_three min_three max_four min_four   -- for this text's walks alone
set_option linter.unusedVariables false
set_option linter.unusedSimpArgs false

/-! ### matrix_Transpose: function 19 -/
mutual
def matrix_Transpose.l0 : Nat → List (List Int) → List (List Int) → Int → Int → Option ((List (List Int)))
 | 0, _, _, _, _ => none
 | k + 1, x0, x3, x16, x17 => if x17 < x16 then (matrix_Transpose.l1 k x0 x3 x17 x16 x17 x0 (x0.length : Int) 0) else (some x3)
def matrix_Transpose.l1 : Nat → List (List Int) → List (List Int) → Int → Int → Int → List (List Int) → Int → Int → Option ((List (List Int)))
 | 0, _, _, _, _, _, _, _, _ => none
 | k + 1, x0, x3, x4, x16, x17, x20, x21, x22 => if x22 < x21 then (if 0 ≤ x22 then (if x22 < (x20.length : Int) then (if 0 ≤ x4 then (if x4 < (x3.length : Int) then (if x4 < ((rd_L1 x20 x22).length : Int) then (if (rd_L1 x3 x4).length < 17592186044416 then (matrix_Transpose.l1 k x0 (x3.set (x4 : Int).toNat ((rd_L1 x3 x4) ++ [rd (rd_L1 x20 x22) x4])) x4 x16 x17 x20 x21 (wrap64 (x22 + 1))) else (none)) else (none)) else (none)) else (none)) else (none)) else (none)) else (matrix_Transpose.l0 k x0 x3 x16 (wrap64 (x17 + 1)))
end
def matrix_Transpose.f (k : Nat) (l0 : List (List Int)) : Option ((List (List Int))) := (matrix_Valid.f k l0).bind fun t189 => (if t189 = true then (if 0 < (l0.length : Int) then (if 0 ≤ ((rd_L1 l0 0).length : Int) then (if (((rd_L1 l0 0).length : Int) : Int).toNat ≤ 11728124029610 then ((some (List.replicate (((rd_L1 l0 0).length : Int) : Int).toNat [] : List (List Int))).bind fun y191 => (matrix_Transpose.l0 k l0 y191 (y191.length : Int) 0)) else (none)) else (none)) else (none)) else (some ([] : List (List Int))))
theorem matrix_Transpose.mono_l : ∀ k, (∀ y0 y1 y2 y3, LeO (matrix_Transpose.l0 k y0 y1 y2 y3) (matrix_Transpose.l0 (k + 1) y0 y1 y2 y3)) ∧ (∀ y0 y1 y2 y3 y4 y5 y6 y7, LeO (matrix_Transpose.l1 k y0 y1 y2 y3 y4 y5 y6 y7) (matrix_Transpose.l1 (k + 1) y0 y1 y2 y3 y4 y5 y6 y7))
 | 0 => ⟨fun _ _ _ _ r h => by simp [matrix_Transpose.l0] at h, fun _ _ _ _ _ _ _ _ r h => by simp [matrix_Transpose.l1] at h⟩
 | k + 1 => by
  obtain ⟨ih0, ih1⟩ := matrix_Transpose.mono_l k
  refine ⟨?_, ?_⟩
  ·
   intro y0 y1 y2 y3
   unfold matrix_Transpose.l0
   repeat' first
   | (with_reducible exact ih0 _ _ _ _)
   | (with_reducible exact ih1 _ _ _ _ _ _ _ _)
   | (with_reducible exact matrix_Valid.mono _ _)
   | (with_reducible exact LeO.refl _)
   | (with_reducible exact LeO.none _)
   | (with_reducible refine LeO.ite ?_ ?_)
   | (with_reducible refine LeO.bind ?_ (fun _ => ?_))
   | exact ih0 _ _ _ _
   | exact ih1 _ _ _ _ _ _ _ _
   | exact matrix_Valid.mono _ _
   | exact LeO.none _
   | refine LeO.ite ?_ ?_
   | refine LeO.bind ?_ (fun _ => ?_)
  ·
   intro y0 y1 y2 y3 y4 y5 y6 y7
   unfold matrix_Transpose.l1
   repeat' first
   | (with_reducible exact ih0 _ _ _ _)
   | (with_reducible exact ih1 _ _ _ _ _ _ _ _)
   | (with_reducible exact matrix_Valid.mono _ _)
   | (with_reducible exact LeO.refl _)
   | (with_reducible exact LeO.none _)
   | (with_reducible refine LeO.ite ?_ ?_)
   | (with_reducible refine LeO.bind ?_ (fun _ => ?_))
   | exact ih0 _ _ _ _
   | exact ih1 _ _ _ _ _ _ _ _
   | exact matrix_Valid.mono _ _
   | exact LeO.none _
   | refine LeO.ite ?_ ?_
   | refine LeO.bind ?_ (fun _ => ?_)
theorem matrix_Transpose.mono : ∀ a0 k, LeO (matrix_Transpose.f k a0) (matrix_Transpose.f (k + 1) a0) := by
 intro a0 k
 obtain ⟨ih0, ih1⟩ := matrix_Transpose.mono_l k
 unfold matrix_Transpose.f
 repeat' first
   | (with_reducible exact ih0 _ _ _ _)
   | (with_reducible exact ih1 _ _ _ _ _ _ _ _)
   | (with_reducible exact matrix_Valid.mono _ _)
   | (with_reducible exact LeO.refl _)
   | (with_reducible exact LeO.none _)
   | (with_reducible refine LeO.ite ?_ ?_)
   | (with_reducible refine LeO.bind ?_ (fun _ => ?_))
   | exact ih0 _ _ _ _
   | exact ih1 _ _ _ _ _ _ _ _
   | exact matrix_Valid.mono _ _
   | exact LeO.none _
   | refine LeO.ite ?_ ?_
   | refine LeO.bind ?_ (fun _ => ?_)
def matrix_Transpose.T10 : Bool × List (List Nat × List Nat) := (true, [([], []), ([], []), ([], []), ([], []), ([2, 3], [2, 3]), ([4], [4]), ([], []), ([], []), ([6, 7], [6, 7]), ([8], [8]), ([9], [9]), ([5, 10], [5, 10]), ([0, 1, 0, 1, 2, 3, 4, 5, 6, 7, 8, 9, 10, 11], [0, 1]), ([12, 11, 11, 0, 1, 2, 3, 4, 5, 6, 7, 8, 9, 10, 11], [11, 12])])
def matrix_Transpose.B10 : List Nat := [0, 0, 0, 0, 12, 28, 0, 0, 192, 448, 960, 2044, 4095, 8191]
theorem matrix_Transpose.tab10 : rtab .any (opsOf Try.f19 10) = matrix_Transpose.T10 := by kernel_rfl
theorem matrix_Transpose.bits10 : waitsOk matrix_Transpose.T10.2 matrix_Transpose.B10 = true := by kernel_rfl
set_option maxHeartbeats 8000000 in
set_option maxRecDepth 100000 in
theorem matrix_Transpose.calls (k : Nat) (A0 : Option Addr) (c0 : Nat) (l0 : List (List Int)) (r : List (List Int)) (w : World) (hr0 : Kd.C (Kd.slice 2 (Kd.int .i64)) w A0 l0.length l0) (hc0 : l0.length ≤ c0) (h : matrix_Transpose.f k l0 = some r) :
  Calls Try.prog 19 #[.slice A0 l0.length c0] w fun e w' => ∃ v0_ : Value, e = .returned (v0_) ∧ Kd.S (Kd.slice 2 (Kd.int .i64)) 33 w' w.heap.size (fun _ => True) v0_ r ∧ Below w.heap.size w w' := by
 have HR0 := Aside0.mk hr0
 have HC0 := Aside0.mk hc0
 clear hr0 hc0
 have HB := Aside0.mk (Below.refl w.heap.size w)
 have H : ((matrix_Valid.f k l0).bind fun t189 => (if t189 = true then (if 0 < (l0.length : Int) then (if 0 ≤ ((rd_L1 l0 0).length : Int) then (if (((rd_L1 l0 0).length : Int) : Int).toNat ≤ 11728124029610 then ((some (List.replicate (((rd_L1 l0 0).length : Int) : Int).toNat [] : List (List Int))).bind fun y191 => (matrix_Transpose.l0 k l0 y191 (y191.length : Int) 0)) else (none)) else (none)) else (none)) else (some ([] : List (List Int))))) = some r := h
 clear h
 replace H := Option.bind_eq_some_iff.mp H
 obtain ⟨t189, A20, H⟩ := H
 replace H : (if t189 = true then (if 0 < (l0.length : Int) then (if 0 ≤ ((rd_L1 l0 0).length : Int) then (if (((rd_L1 l0 0).length : Int) : Int).toNat ≤ 11728124029610 then ((some (List.replicate (((rd_L1 l0 0).length : Int) : Int).toNat [] : List (List Int))).bind fun y191 => (matrix_Transpose.l0 k l0 y191 (y191.length : Int) 0)) else (none)) else (none)) else (none)) else (some ([] : List (List Int)))) = some r := H
 have A2 := Aside0.mk A20
 clear A20
 by_cases c3 : t189 = true
 ·
  subst c3
  have H1 : (if 0 < (l0.length : Int) then (if 0 ≤ ((rd_L1 l0 0).length : Int) then (if (((rd_L1 l0 0).length : Int) : Int).toNat ≤ 11728124029610 then ((some (List.replicate (((rd_L1 l0 0).length : Int) : Int).toNat [] : List (List Int))).bind fun y191 => (matrix_Transpose.l0 k l0 y191 (y191.length : Int) 0)) else (none)) else (none)) else (none)) = some r := by rw [if_pos rfl] at H; exact H
  clear H
  have H := H1
  clear H1
  by_cases c4 : 0 < (l0.length : Int)
  ·
   rw [if_pos c4] at H
   have c4b0 : decide (0 < (l0.length : Int)) = true := decide_eq_true c4
   have c4b1 : decide (0 < l0.length) = true := decide_eq_true (by omega)
   clear c4
   by_cases c5 : 0 ≤ ((rd_L1 l0 0).length : Int)
   ·
    rw [if_pos c5] at H
    have c5b0 := eq_true c5
    have c5b1 : decide (0 ≤ ((rd_L1 l0 0).length : Int)) = true := decide_eq_true c5
    clear c5
    by_cases c6 : (((rd_L1 l0 0).length : Int) : Int).toNat ≤ 11728124029610
    ·
     rw [if_pos c6] at H
     have c6b0 := eq_true c6
     have c6b1 : decide ((((rd_L1 l0 0).length : Int) : Int).toNat ≤ 11728124029610) = true := decide_eq_true c6
     clear c6
     obtain ⟨y191, hy191⟩ : ∃ y_ : List (List Int), y_ = (List.replicate (((rd_L1 l0 0).length : Int) : Int).toNat []) := ⟨_, rfl⟩
     replace H : (matrix_Transpose.l0 k l0 y191 (y191.length : Int) 0) = some r := by first | (rw [hy191]; with_reducible exact H) | (have H2_ := (Option.bind_some _ _).symm.trans H; rw [hy191]; with_reducible exact H2_) | (have H2_ := (Option.bind_some _ _).symm.trans H; with_reducible exact H2_) | with_reducible exact H | (rw [hy191]; exact H) | exact H
     have Ny191 := Aside0.mk hy191
     clear hy191
     have H' := Aside0.mk H
     clear H
     go_enter Try.func19, Try.ntmps19
     go_wp2_with (first | ((with_reducible refine gate_callee (f := 18) rfl ?_); refine goesL_ (some 8) rfl rfl Try.func18 (by kernel_rfl) rfl #[.slice A0 l0.length c0] rfl (by (try simp only [List.map_toArray, List.map_cons, List.map_nil]); first | done | rfl | (simp only [List.length_drop, List.length_take]; rfl)) ?_; (with_reducible refine (matrix_Valid.calls k _ _ l0 true _ ?side1 ?side2 A2.out).mono ?_); (case side1 => repeat (first | exact HR0.out | (with_reducible refine Kd.C_alloc ?_ _) | (with_reducible refine Kd.C_drewN ?_ _) | (with_reducible refine Kd.C_drew ?_))); (case side2 => exact HC0.out); rintro e w' ⟨rfl, ⟨nd, rfl⟩⟩; refine ⟨_, rfl, ?_⟩; have p190 : 0 ≤ (0 : Int) := (by omega); have q190 : 0 < (l0.length : Int) := of_decide_eq_true (by first | (with_reducible assumption) | assumption); obtain ⟨ad190, A190_0, c190_0, e190, hx190_0, hl190_0, hi190_0⟩ := at_L1 HR0.out 0 p190 q190; cases e190; have qi190 : (0 < l0.length) = True := eq_true (by omega); (try rw [show ((0 : Int)).toNat = 0 from rfl] at hx190_0); (try rw [Addr.add_zero'] at hx190_0); have HR190_0 := Aside0.mk hi190_0; have HC190_0 := Aside0.mk hl190_0; clear hi190_0 hl190_0; replace p190 := eq_true p190; replace q190 := eq_true q190) | ((with_reducible refine gate_dst (N := 14) rfl ?_); refine Kd.S_make (Kd.slice 2 (Kd.int .i64)) _ 33 rfl (N := 14) rfl 22 _ _ rfl ((rd_L1 l0 0).length : Int) rfl rfl Try.underlying22 (.slice none 0 0) 24 info33 rfl (by decide) (by omega) [] (ok := fun _ => True) (okp := fun _ => True) ⟨_, rfl, Kd.R_nil _ _ _ _ _⟩ (fun _ hk => hk) trivial (of_decide_eq_true (by first | (with_reducible assumption) | assumption)) (Nat.le_trans (Nat.mul_le_mul_right _ (of_decide_eq_true (by first | (with_reducible assumption) | assumption) : ((rd_L1 l0 0).length : Int).toNat ≤ 11728124029610)) (by omega)) (Below.refl _ _) (Nat.le_refl _) ?_; intro v192 w7 ho8 hb hg_ hnew_; clear hg_ hnew_; (first | rw [← Ny191.out] at ho8 | (simp only [Int.reduceToNat] at ho8; rw [← Ny191.out] at ho8)); have n0_ := Aside0.mk (Kd.S_lower ho8 (below_size (by repeat (first | (with_reducible first | exact HB.out | apply below_alloc | apply pw_below_drewN | apply below_drew1) | exact HB.out)))); have n1_ := Aside0.mk (below_step (by repeat (first | (with_reducible first | exact HB.out | apply below_alloc | apply pw_below_drewN | apply below_drew1) | exact HB.out)) hb); clear HB; have HO193 := n0_; have HB := n1_; clear n0_ n1_; clear hb ho8; obtain ⟨Ao9, co9, eo9⟩ := Kd.S_slice HO193.out; subst eo9))
     go_loopg [17] k (fun kq v17 w' => ∃ (x3_1 : List (List Int)) (x17_1 : Int), v17 = .int .i64 x17_1 ∧ Aside0 (matrix_Transpose.l0 kq l0 x3_1 (y191.length : Int) x17_1 = some r) ∧ Aside0 (kq ≤ k) ∧ Aside0 (Kd.S (Kd.slice 2 (Kd.int .i64)) 33 w' w.heap.size (fun _ => True) (.slice Ao9 y191.length co9) x3_1) ∧ Aside0 (Below w.heap.size w w'))
     case atStart => exact ⟨(y191), (0), (by first | rfl | (simp; done) | (simp [*]; done)), H', ⟨Nat.le_refl _⟩, ⟨by (with_reducible repeat (first | apply Kd.S_alloc | apply Kd.S_drewN | apply Kd.S_drew)); exact HO193.out⟩, ⟨by repeat (first | (with_reducible first | exact HB.out | apply below_alloc | apply pw_below_drewN | apply below_drew1) | exact HB.out)⟩⟩
     case round =>
      clear H'
      try clear c1
      try clear p1
      try clear q1
      try clear hx1
      try clear qi1
      try clear p2
      try clear c3
      try clear c4
      try clear c4b0
      try clear c4b1
      try clear c5
      try clear c5b0
      try clear c5b1
      try clear c6
      try clear c6b0
      try clear c6b1
      try clear hx190_0
      try clear p190
      try clear q190
      obtain ⟨x3_1, x17_1, rfl, HA, HK1, HO_3, HB⟩ := hrel
      have hl3_1 := (Kd.S_reads' HO_3.out).1
      rw [hl3_1] at HO_3
      (try simp only [hl3_1])
      cases gk with
      | zero => exact absurd HA.out (by simp [matrix_Transpose.l0])
      | succ k1 =>
       have H := HA.out
       clear HA
       simp only [matrix_Transpose.l0] at H
       by_cases c10 : x17_1 < (y191.length : Int)
       ·
        rw [if_pos c10] at H
        have c10b0 : decide (x17_1 < (y191.length : Int)) = true := decide_eq_true c10
        have c10b9 : decide (x17_1 < (x3_1.length : Int)) = true := by rw [← hl3_1]; exact c10b0
        clear c10
        have H' := Aside0.mk H
        clear H
        go_wp2
        go_loopg [22] k1 (fun kq v22 w' => ∃ (x3_2 : List (List Int)) (x22_2 : Int), v22 = .int .i64 x22_2 ∧ Aside0 (matrix_Transpose.l1 kq l0 x3_2 x17_1 (y191.length : Int) x17_1 l0 (l0.length : Int) x22_2 = some r) ∧ Aside0 (kq ≤ k1) ∧ Aside0 (Kd.S (Kd.slice 2 (Kd.int .i64)) 33 w' w.heap.size (fun _ => True) (.slice Ao9 x3_1.length co9) x3_2) ∧ Aside0 (Below w.heap.size w w'))
        case atStart => exact ⟨(x3_1), (0), (by first | rfl | (simp; done) | (simp [*]; done)), H', ⟨Nat.le_refl _⟩, ⟨by (try simp only [hl3_1]); (with_reducible repeat (first | apply Kd.S_alloc | apply Kd.S_drewN | apply Kd.S_drew)); exact HO_3.out⟩, ⟨by repeat (first | (with_reducible first | exact HB.out | apply below_alloc | apply pw_below_drewN | apply below_drew1) | exact HB.out)⟩⟩
        case round =>
         clear H'
         try clear c1
         try clear p1
         try clear q1
         try clear hx1
         try clear qi1
         try clear p2
         try clear c3
         try clear c4
         try clear c4b0
         try clear c4b1
         try clear c5
         try clear c5b0
         try clear c5b1
         try clear c6
         try clear c6b0
         try clear c6b1
         try clear c10
         try clear c10b0
         try clear hx190_0
         try clear p1
         try clear p190
         try clear p2
         try clear q1
         try clear q190
         obtain ⟨x3_2, x22_2, rfl, HA, HK2, HO_3, HB⟩ := hrel
         have hl3_2 := (Kd.S_reads' HO_3.out).1
         rw [hl3_2] at HO_3
         (try simp only [hl3_2])
         cases gk with
         | zero => exact absurd HA.out (by simp [matrix_Transpose.l1])
         | succ k2 =>
          have H := HA.out
          clear HA
          simp only [matrix_Transpose.l1] at H
          by_cases c11 : x22_2 < (l0.length : Int)
          ·
           rw [if_pos c11] at H
           have c11b0 : decide (x22_2 < (l0.length : Int)) = true := decide_eq_true c11
           clear c11
           by_cases c12 : 0 ≤ x22_2
           ·
            rw [if_pos c12] at H
            have c12b0 : decide (0 ≤ x22_2) = true := decide_eq_true c12
            clear c12
            by_cases c13 : x22_2 < (l0.length : Int)
            ·
             rw [if_pos c13] at H
             have c13b0 : decide (x22_2 < (l0.length : Int)) = true := decide_eq_true c13
             clear c13
             by_cases c14 : 0 ≤ x17_1
             ·
              rw [if_pos c14] at H
              have c14b0 : decide (0 ≤ x17_1) = true := decide_eq_true c14
              clear c14
              by_cases c15 : x17_1 < (x3_2.length : Int)
              ·
               rw [if_pos c15] at H
               have c15b0 : decide (x17_1 < (x3_2.length : Int)) = true := decide_eq_true c15
               clear c15
               by_cases c16 : x17_1 < ((rd_L1 l0 x22_2).length : Int)
               ·
                rw [if_pos c16] at H
                have c16b0 : decide (x17_1 < ((rd_L1 l0 x22_2).length : Int)) = true := decide_eq_true c16
                clear c16
                by_cases c17 : (rd_L1 x3_2 x17_1).length < 17592186044416
                ·
                 rw [if_pos c17] at H
                 have LMc17 := Aside0.mk c17
                 clear c17
                 obtain ⟨y197, hy197⟩ : ∃ y_ : List Int, y_ = ((rd_L1 x3_2 x17_1) ++ [rd (rd_L1 l0 x22_2) x17_1]) := ⟨_, rfl⟩
                 replace H : (matrix_Transpose.l1 k2 l0 (x3_2.set (x17_1 : Int).toNat y197) x17_1 (y191.length : Int) x17_1 l0 (l0.length : Int) (wrap64 (x22_2 + 1))) = some r := by first | (rw [hy197]; with_reducible exact H) | (have H2_ := (Option.bind_some _ _).symm.trans H; rw [hy197]; with_reducible exact H2_) | (have H2_ := (Option.bind_some _ _).symm.trans H; with_reducible exact H2_) | with_reducible exact H | (rw [hy197]; exact H) | exact H
                 have Ny197 := Aside0.mk hy197
                 clear hy197
                 obtain ⟨y200, hy200⟩ : ∃ y_ : List (List Int), y_ = (x3_2.set (x17_1 : Int).toNat y197) := ⟨_, rfl⟩
                 replace H : (matrix_Transpose.l1 k2 l0 y200 x17_1 (y191.length : Int) x17_1 l0 (l0.length : Int) (wrap64 (x22_2 + 1))) = some r := by first | (rw [hy200]; with_reducible exact H) | (have H2_ := (Option.bind_some _ _).symm.trans H; rw [hy200]; with_reducible exact H2_) | (have H2_ := (Option.bind_some _ _).symm.trans H; with_reducible exact H2_) | with_reducible exact H | (rw [hy200]; exact H) | exact H
                 have Ny200 := Aside0.mk hy200
                 clear hy200
                 have H' := Aside0.mk H
                 clear H
                 have p194 : 0 ≤ (x22_2 : Int) := of_decide_eq_true (by first | (with_reducible assumption) | assumption)
                 have q194 : x22_2 < (l0.length : Int) := of_decide_eq_true (by first | (with_reducible assumption) | assumption)
                 obtain ⟨ad194, A194_0, c194_0, e194, hx194_0, hl194_0, hi194_0⟩ := at_L1 HR0.out x22_2 p194 q194
                 obtain rfl : ad190 = ad194 := (by injection e194)
                 replace hx194_0 := (HB.out.cell (World.block_lt_of_cell? w _ hx194_0)).trans hx194_0
                 have HR194_0 := Aside0.mk hi194_0
                 have HC194_0 := Aside0.mk hl194_0
                 clear hi194_0 hl194_0
                 replace p194 := eq_true p194
                 replace q194 := eq_true q194
                 try go_wp2
                 have n0_ := Aside0.mk (Kd.S_drew HO_3.out)
                 have n1_ := Aside0.mk (below_drew1 HB.out)
                 clear HO_3
                 clear HB
                 have HO_3 := n0_
                 have HB := n1_
                 clear n0_ n1_
                 have p195 : 0 ≤ (x17_1 : Int) := of_decide_eq_true (by first | (with_reducible assumption) | assumption)
                 have q195 : x17_1 < (x3_2.length : Int) := of_decide_eq_true (by first | (with_reducible assumption) | assumption)
                 obtain ⟨ad195, A195_0, c195_0, e195, hx195_0, hl195_0, hi195_0⟩ := at_L1 (Kd.S_reads' HO_3.out).2.2 x17_1 p195 q195
                 cases e195
                 obtain ⟨ce195, hce195, hMe195, hcc195⟩ := Kd.S_get HO_3.out [] x17_1 p195 (by first | exact q195 | exact of_decide_eq_true (by first | (with_reducible assumption) | assumption) | (have e_ := (Kd.S_reads' HO_3.out).1; omega))
                 obtain ⟨ve195_0, rfl, ge195_0⟩ := hMe195
                 have hv195_0 := hcc195 0 _ rfl
                 rw [Nat.add_zero, show ((Kd.slice 2 (Kd.int .i64))).sz = 1 from rfl, Nat.mul_one] at hv195_0
                 replace hv195_0 := Option.some.inj (hv195_0.symm.trans hx195_0)
                 rw [hv195_0] at ge195_0
                 have HL195_0 := Aside0.mk (show Kd.R (Kd.int .i64) 2 _ _ _ _ (rd_L1 x3_2 x17_1) from ge195_0)
                 clear hv195_0 ge195_0
                 have HX195_0 := Aside0.mk hx195_0
                 clear hcc195 hce195
                 have HR195_0 := Aside0.mk hi195_0
                 have HC195_0 := Aside0.mk hl195_0
                 clear hi195_0 hl195_0
                 replace p195 := eq_true p195
                 replace q195 := eq_true q195
                 have p196 : 0 ≤ (x17_1 : Int) := of_decide_eq_true (by first | (with_reducible assumption) | assumption)
                 have q196 : x17_1 < ((rd_L1 l0 x22_2).length : Int) := of_decide_eq_true (by first | (with_reducible assumption) | assumption)
                 obtain ⟨ad196, e196, hx196_0⟩ := Kd.at_int HR194_0.out x17_1 p196 q196
                 have hw196_0 := hx196_0
                 cases e196
                 replace hx196_0 := (HB.out.cell (World.block_lt_of_cell? w _ hx196_0)).trans hx196_0
                 replace p196 := eq_true p196
                 replace q196 := eq_true q196
                 obtain ⟨go20, co20, eo20, gb20, gl20, cl20, HG20⟩ := Kd.S_form HO_3.out (by have h_ : (x17_1 : Int) < ((x3_2.length : Int) : Int) := of_decide_eq_true (by first | (with_reducible assumption) | assumption); have h2_ : 0 ≤ (x17_1 : Int) := (of_decide_eq_true (by first | (with_reducible assumption) | assumption)); omega)
                 (first | cases eo20 | (injection eo20 with ea_ en_ ec_; (first | subst ea_ | (injection ea_ with ea_; subst ea_)); subst ec_; clear en_))
                 have GB20 := Aside0.mk gb20
                 have GG20 := Aside0.mk HG20
                 clear gb20 gl20 HG20
                 (first | simp only [add_plain] at hx195_0 | skip)
                 obtain ⟨oki20, ce20, hcl20, hM20, hcc20, _, _, hH20⟩ := Kd.S_elem HO_3.out [] (x17_1 : Int) (of_decide_eq_true (by first | (with_reducible assumption) | assumption)) (by have h_ : (x17_1 : Int) < ((x3_2.length : Int) : Int) := of_decide_eq_true (by first | (with_reducible assumption) | assumption); first | exact h_ | (have e_ := (Kd.S_reads' HO_3.out).1; omega) | simpa using h_)
                 obtain ⟨ve20_0, rfl, ge20_0⟩ := hM20
                 have hv20 := hcc20 0 _ rfl
                 have hX20 := HX195_0.out
                 (try simp only [add_plain] at hX20)
                 (try simp only [Nat.add_zero] at hv20)
                 (try rw [show ((Kd.slice 2 (Kd.int .i64))).sz = 1 from rfl, Nat.mul_one] at hv20)
                 replace hv20 := Option.some.inj (hv20.symm.trans hX20)
                 subst hv20
                 clear hX20 hcc20 hcl20
                 have UU20 := Aside0.mk (show Kd.R (Kd.int .i64) 2 _ w.heap.size oki20 (.slice A195_0 (rd_L1 x3_2 x17_1).length c195_0) (rd_L1 x3_2 x17_1) from ge20_0)
                 have HH20 := Aside0.mk hH20
                 have HN20 := Aside0.mk (Kd.S_reads' HO_3.out).1
                 clear hH20 ge20_0
                 refine start_ (n := 14) (S := fun w' => w'.cell? ⟨go20, (x17_1).toNat, none⟩ = some (.slice A195_0 (rd_L1 x3_2 x17_1).length c195_0) ∧ w'.cell? (ad196.add (x17_1).toNat) = some (.int .i64 (rd (rd_L1 l0 x22_2) x17_1))) (ds := [13]) #[false, false, false, false, false, false, false, false, false, false, false, false, false, false] (by kernel_rfl) rfl rfl ⟨hx195_0, ((HB.out.cell (World.block_lt_of_cell? w _ hw196_0)).trans hw196_0)⟩ (fun hHeld => ?_); refine with_tabW matrix_Transpose.tab10 matrix_Transpose.bits10 (fun HT_ HW_ => ?_)
                 generalize wr.drew = w19 at HO_3 HB GG20 HH20 HL195_0 HR195_0 HX195_0 UU20 hx195_0 hx196_0 hHeld ⊢
                 refine pure_ (i := 0) (N := some 26) (v := ?_) (a' := ?_) #[true, false, false, false, false, false, false, false, false, false, false, false, false, false] rfl rfl (any_of HT_.out (by kernel_rfl)) (fun _ _ _ h => h) (Or.inl ⟨by rfl, ?_⟩) ?_ ?_
                 rotate_left
                 ·
                  intro w'
                  go_simp
                  with_reducible rfl
                 rotate_left
                 ·
                  simp only [Act.put, List.setIfInBounds_toArray, List.set_cons_zero, List.set_cons_succ, i64_w, i32_w]
                  rfl
                 refine pure_ (i := 1) (N := some 27) (v := ?_) (a' := ?_) #[true, true, false, false, false, false, false, false, false, false, false, false, false, false] rfl rfl (any_of HT_.out (by kernel_rfl)) (fun _ _ _ h => h) (Or.inl ⟨by rfl, ?_⟩) ?_ ?_
                 rotate_left
                 ·
                  intro w'
                  go_simp
                  with_reducible rfl
                 rotate_left
                 ·
                  simp only [Act.put, List.setIfInBounds_toArray, List.set_cons_zero, List.set_cons_succ, i64_w, i32_w]
                  rfl
                 refine pure_ (i := 2) (N := some 28) (v := ?_) (a' := ?_) #[true, true, true, false, false, false, false, false, false, false, false, false, false, false] rfl rfl (any_of HT_.out (by kernel_rfl)) (fun _ _ _ h => h) (Or.inl ⟨by rfl, ?_⟩) ?_ ?_
                 rotate_left
                 ·
                  intro w'
                  go_simp
                  with_reducible rfl
                 rotate_left
                 ·
                  simp only [Act.put, List.setIfInBounds_toArray, List.set_cons_zero, List.set_cons_succ, i64_w, i32_w]
                  rfl
                 refine pure_ (i := 3) (N := some 29) (v := ?_) (a' := ?_) #[true, true, true, true, false, false, false, false, false, false, false, false, false, false] rfl rfl (any_of HT_.out (by kernel_rfl)) (fun _ _ _ h => h) (Or.inl ⟨by rfl, ?_⟩) ?_ ?_
                 rotate_left
                 ·
                  intro w'
                  go_simp
                  with_reducible rfl
                 rotate_left
                 ·
                  simp only [Act.put, List.setIfInBounds_toArray, List.set_cons_zero, List.set_cons_succ, i64_w, i32_w]
                  rfl
                 refine pure_ (i := 4) (N := some 30) (v := ?_) (a' := ?_) #[true, true, true, true, true, false, false, false, false, false, false, false, false, false] rfl rfl (any_of HT_.out (by kernel_rfl)) (fun _ _ _ h => h) (Or.inl ⟨by rfl, ?_⟩) ?_ ?_
                 rotate_left
                 ·
                  intro w'
                  go_simp
                  with_reducible rfl
                 rotate_left
                 ·
                  simp only [Act.put, List.setIfInBounds_toArray, List.set_cons_zero, List.set_cons_succ, i64_w, i32_w]
                  rfl
                 refine pure_ (i := 6) (N := some 32) (v := ?_) (a' := ?_) #[true, true, true, true, true, false, true, false, false, false, false, false, false, false] rfl rfl (any_of HT_.out (by kernel_rfl)) (fun _ _ _ h => h) (Or.inl ⟨by rfl, ?_⟩) ?_ ?_
                 rotate_left
                 ·
                  intro w'
                  go_simp
                  with_reducible rfl
                 rotate_left
                 ·
                  simp only [Act.put, List.setIfInBounds_toArray, List.set_cons_zero, List.set_cons_succ, i64_w, i32_w]
                  rfl
                 refine pure_ (i := 7) (N := some 33) (v := ?_) (a' := ?_) #[true, true, true, true, true, false, true, true, false, false, false, false, false, false] rfl rfl (any_of HT_.out (by kernel_rfl)) (fun _ _ _ h => h) (Or.inl ⟨by rfl, ?_⟩) ?_ ?_
                 rotate_left
                 ·
                  intro w'
                  go_simp
                  with_reducible rfl
                 rotate_left
                 ·
                  simp only [Act.put, List.setIfInBounds_toArray, List.set_cons_zero, List.set_cons_succ, i64_w, i32_w]
                  rfl
                 refine pure_ (i := 8) (N := some 34) (v := ?_) (a' := ?_) #[true, true, true, true, true, false, true, true, true, false, false, false, false, false] rfl rfl (any_of HT_.out (by kernel_rfl)) (fun _ _ _ h => h) (Or.inl ⟨by rfl, ?_⟩) ?_ ?_
                 rotate_left
                 ·
                  intro w'
                  go_simp
                  with_reducible rfl
                 rotate_left
                 ·
                  simp only [Act.put, List.setIfInBounds_toArray, List.set_cons_zero, List.set_cons_succ, i64_w, i32_w]
                  rfl
                 refine take_ (i := 5) (N := some 31) (v := ?_) (a' := ?_) #[true, true, true, true, true, true, true, true, true, false, false, false, false, false] rfl rfl (take_ofW HT_.out HW_.out (by kernel_rfl)) (fun _ _ _ h => h) (Or.inl ⟨by rfl, ?_⟩) hHeld ?_ ?_
                 rotate_left
                 ·
                  rintro w' ⟨s0, s1⟩
                  go_simp
                  with_reducible rfl
                 rotate_left
                 ·
                  simp only [Act.put, List.setIfInBounds_toArray, List.set_cons_zero, List.set_cons_succ, i64_w, i32_w]
                  rfl
                 refine take_ (i := 9) (N := some 35) (v := ?_) (a' := ?_) #[true, true, true, true, true, true, true, true, true, true, false, false, false, false] rfl rfl (take_ofW HT_.out HW_.out (by kernel_rfl)) (fun _ _ _ h => h) (Or.inl ⟨by rfl, ?_⟩) hHeld ?_ ?_
                 rotate_left
                 ·
                  rintro w' ⟨s0, s1⟩
                  go_simp
                  with_reducible rfl
                 rotate_left
                 ·
                  simp only [Act.put, List.setIfInBounds_toArray, List.set_cons_zero, List.set_cons_succ, i64_w, i32_w]
                  rfl
                 refine one_ (i := 10) (N := some 36) #[true, true, true, true, true, true, true, true, true, true, true, false, false, false] rfl rfl (one_of HT_.out (by kernel_rfl)) (by decide) (fun K hK => ?_)
                 refine value_ (w1 := ?_) (v := ?_) (by rfl) rfl ?_ ?_
                 rotate_left 2
                 ·
                  go_simp
                  constructor
                  ·
                   rfl
                  ·
                   rfl
                 refine hK.out _ _ ⟨(World.cell?_alloc_lt _ _ _ (World.block_lt_of_cell? _ _ (hHeld.1))).trans (hHeld.1), (World.cell?_alloc_lt _ _ _ (World.block_lt_of_cell? _ _ (((HB.out.cell (World.block_lt_of_cell? w _ hw196_0)).trans hw196_0)))).trans (((HB.out.cell (World.block_lt_of_cell? w _ hw196_0)).trans hw196_0))⟩ (fun hHeld => ?_)
                 clear hK K
                 refine norm_ (a' := ?_) ?_ ?_
                 rotate_left
                 ·
                  show Act.put _ (some 36) _ = _
                  simp only [Act.put, List.setIfInBounds_toArray, List.set_cons_zero, List.set_cons_succ, i64_w, i32_w]
                  rfl
                 refine one_ (i := 11) (N := some 37) #[true, true, true, true, true, true, true, true, true, true, true, true, false, false] rfl rfl (one_of HT_.out (by kernel_rfl)) (by decide) (fun K hK => ?_)
                 refine Kd.R_append_step (Kd.int .i64) (w0 := w) w.heap.size (by rfl) (.tmp 31) (.tmp 36) 33 2 (.int .i64 0) 8 rfl Try.underlying33 info2 rfl (by decide) (by omega) (.slice A195_0 (rd_L1 x3_2 x17_1).length c195_0) (rd_L1 x3_2 x17_1) (rd (rd_L1 l0 x22_2) x17_1) [.int .i64 (rd (rd_L1 l0 x22_2) x17_1)] (fun k_ => oki20 k_ ∨ ((fun _ => True)) k_ ∧ w19.heap.size ≤ k_) (fun _ => False) rfl rfl ?aP (fun _ hk => hk.elim) ?aF ?aO ?aB ?aS ?aL ?_
                 (case aP => exact rfl)
                 (case aB => exact (by repeat (first | (with_reducible first | exact HB.out | apply below_alloc | apply pw_below_drewN | apply below_drew1) | exact HB.out)))
                 (case aF => exact (fun k_ hk => .inr ⟨trivial, hk⟩))
                 (case aO => exact (by (with_reducible repeat (first | apply Kd.R_alloc | apply Kd.R_drewN | apply Kd.R_drew)); exact Kd.R_mono UU20.out (fun _ hk => .inl hk)))
                 (case aS => exact (below_size (by repeat (first | (with_reducible first | exact HB.out | apply below_alloc | apply pw_below_drewN | apply below_drew1) | exact HB.out))))
                 (case aL => have := LMc17.out; omega)
                 intro v198 w21 ho hb hg hat
                 (first | have HS0_ := cell_grown hg (hHeld.1) (by first | (rw [add_block]; exact (fun e_ => ((HL195_0.out.1 _ e_.symm).2) rfl)) | (show some (Addr.add _ _).block ≠ _; rw [add_block]; exact (fun e_ => ((HL195_0.out.1 _ e_.symm).2) rfl)) | exact (fun e_ => ((HL195_0.out.1 _ e_.symm).2) rfl)) | have HS0_ := cell_grown hg (cell_unalloc (hHeld.1) (by first | (rw [add_block]; exact Kd.S_lt HO_3.out _ rfl) | (show (Addr.add _ _).block < _; rw [add_block]; exact Kd.S_lt HO_3.out _ rfl) | exact Kd.S_lt HO_3.out _ rfl)) (by first | (rw [add_block]; exact (fun e_ => ((HL195_0.out.1 _ e_.symm).2) rfl)) | (show some (Addr.add _ _).block ≠ _; rw [add_block]; exact (fun e_ => ((HL195_0.out.1 _ e_.symm).2) rfl)) | exact (fun e_ => ((HL195_0.out.1 _ e_.symm).2) rfl)))
                 rw [← Ny197.out] at ho
                 have n0_ := Aside0.mk (hb)
                 have n1_ := Aside0.mk (Kd.H_grown (Kd.H_widen (by repeat (first | exact HH20.out | refine Kd.H_alloc ?_ _ | refine Kd.H_drewN ?_ _ | refine Kd.H_drew ?_))) hg (fun k_ e_ => .inl (UU20.out.1 k_ e_)))
                 have n2_ := Aside0.mk (ho)
                 clear HB
                 clear HH20
                 clear HO_3
                 clear UU20
                 clear HL195_0
                 have HB := n0_
                 have HH20 := n1_
                 have HO199 := n2_
                 clear n0_ n1_ n2_
                 clear ho hb hg hat
                 have p18 : 0 ≤ (x17_1 : Int) := of_decide_eq_true (by first | (with_reducible assumption) | assumption)
                 have q18 : (x17_1 : Int) < ((x3_2.length : Int) : Int) := of_decide_eq_true (by first | (with_reducible assumption) | assumption)
                 replace p18 := eq_true p18
                 replace q18 := eq_true q18
                 obtain ⟨Ao24, co24, eo24⟩ := Kd.R_slice HO199.out
                 (first | subst eo24 | (injection eo24 with f1_ f2_ f3_; have f4_ := f1_.symm; have f5_ := f3_.symm; clear f1_ f2_ f3_; subst f4_; subst f5_))
                 obtain ⟨_, _, hraw22, _, _, hcc22, _⟩ := Kd.H_raw HH20.out (of_decide_eq_true (by first | (with_reducible assumption) | assumption)) (by have h_ : (x17_1 : Int) < ((x3_2.length : Int) : Int) := of_decide_eq_true (by first | (with_reducible assumption) | assumption); first | exact h_ | (have e_ := (HN20.out); omega) | simpa using h_)
                 obtain ⟨_, hfr22⟩ := Kd.H_at HH20.out (of_decide_eq_true (by first | (with_reducible assumption) | assumption)) (by have h_ : (x17_1 : Int) < ((x3_2.length : Int) : Int) := of_decide_eq_true (by first | (with_reducible assumption) | assumption); first | exact h_ | (have e_ := (HN20.out); omega) | simpa using h_)
                 have hx22_0 := hcc22 0 _ rfl
                 have hf22_0 := hfr22 0
                 (try simp only [Nat.add_zero] at hx22_0 hf22_0)
                 (try rw [show ((Kd.slice 2 (Kd.int .i64))).sz = 1 from rfl, Nat.mul_one] at hx22_0)
                 (try rw [show ((Kd.slice 2 (Kd.int .i64))).sz = 1 from rfl, Nat.mul_one] at hf22_0)
                 have HP22 := Kd.S_seg0 HH20.out (of_decide_eq_true (by first | (with_reducible assumption) | assumption)) (by have h_ : (x17_1 : Int) < ((x3_2.length : Int) : Int) := of_decide_eq_true (by first | (with_reducible assumption) | assumption); first | exact h_ | (have e_ := (HN20.out); omega) | simpa using h_) (seg := [.slice Ao24 y197.length co24]) (j := 0) (show 1 ≤ 1 from by decide) (x' := y197) (Kd.M_row HO199.out) (fun _ hk => hk)
                 (try simp only [show ((Kd.slice 2 (Kd.int .i64))).sz = 1 from rfl, Nat.mul_one, Nat.add_zero] at HP22)
                 clear hcc22 hfr22
                 have HS22 := HP22.1
                 rw [← Ny200.out] at HS22
                 have HQ22 := Aside0.mk HS22
                 obtain ⟨_, hgg22⟩ := Kd.R_typed hraw22 go20 rfl
                 have GG22_ := Aside0.mk hgg22
                 clear HP22 HS22 hgg22
                 refine hK.out _ _ ⟨HS0_, ((HB.out.cell (World.block_lt_of_cell? w _ hw196_0)).trans hw196_0)⟩ (fun hHeld => ?_)
                 clear hK K
                 refine norm_ (a' := ?_) ?_ ?_
                 rotate_left
                 ·
                  show Act.put _ (some 37) _ = _
                  simp only [Act.put, List.setIfInBounds_toArray, List.set_cons_zero, List.set_cons_succ, i64_w, i32_w]
                  rfl
                 refine pure_ (i := 12) (N := some 38) (v := ?_) (a' := ?_) #[true, true, true, true, true, true, true, true, true, true, true, true, true, false] rfl rfl (any_of HT_.out (by kernel_rfl)) (fun _ _ _ h => h) (Or.inl ⟨by rfl, ?_⟩) ?_ ?_
                 rotate_left
                 ·
                  intro w'
                  go_simp
                  with_reducible rfl
                 rotate_left
                 ·
                  simp only [Act.put, List.setIfInBounds_toArray, List.set_cons_zero, List.set_cons_succ, i64_w, i32_w]
                  rfl
                 refine last_ (i := 13) (N := none) #[true, true, true, true, true, true, true, true, true, true, true, true, true, true] rfl rfl (one_of HT_.out (by kernel_rfl)) (by decide) (fun K hK => ?_)
                 refine skip_ (w1 := ?_) (by rfl) rfl ?_ ?_
                 rotate_left
                 ·
                  go_simp
                  rfl
                 refine hK.out _ _ ?_
                 clear hK K
                 refine done_ (done_of HT_.out (by kernel_rfl)) ?_
                 try go_wp2
                 (try simp only [← hl3_2])
                 go_roundg k2
                 case measure => have := HK1.out; have := HK2.out; omega
                 case rel => exact ⟨(y200), (wrap64 (x22_2 + 1)), (by first | rfl | (simp; done) | (simp [*]; done)), H', ⟨by have := HK1.out; have := HK2.out; omega⟩, ⟨by (try simp only [hl3_1]); (try simp only [hl3_2]); (with_reducible repeat (first | apply Kd.S_alloc | apply Kd.S_drewN | apply Kd.S_drew)); exact HQ22.out⟩, ⟨by repeat (first | (with_reducible first | exact HB.out | apply below_alloc | apply pw_below_drewN | apply below_drew1 | refine below_set ?_ GB20.out) | exact HB.out)⟩⟩
                ·
                 rw [if_neg c17] at H
                 exact absurd H (by simp)
               ·
                rw [if_neg c16] at H
                exact absurd H (by simp)
              ·
               rw [if_neg c15] at H
               exact absurd H (by simp)
             ·
              rw [if_neg c14] at H
              exact absurd H (by simp)
            ·
             rw [if_neg c13] at H
             exact absurd H (by simp)
           ·
            rw [if_neg c12] at H
            exact absurd H (by simp)
          ·
           rw [if_neg c11] at H
           have c11b0 : decide (x22_2 < (l0.length : Int)) = false := decide_eq_false c11
           clear c11
           have H' := Aside0.mk H
           clear H
           go_wp2
           (try simp only [← hl3_1, ← hl3_2])
           go_roundg k2
           case measure => have := HK1.out; have := HK2.out; omega
           case rel => exact ⟨(x3_2), (wrap64 (x17_1 + 1)), (by first | rfl | (simp; done) | (simp [*]; done)), H', ⟨by have := HK1.out; have := HK2.out; omega⟩, ⟨by (try simp only [hl3_1]); (try simp only [hl3_2]); (with_reducible repeat (first | apply Kd.S_alloc | apply Kd.S_drewN | apply Kd.S_drew)); exact HO_3.out⟩, ⟨by repeat (first | (with_reducible first | exact HB.out | apply below_alloc | apply pw_below_drewN | apply below_drew1) | exact HB.out)⟩⟩
       ·
        rw [if_neg c10] at H
        have c10b0 : decide (x17_1 < (y191.length : Int)) = false := decide_eq_false c10
        have c10b9 : decide (x17_1 < (x3_1.length : Int)) = false := by rw [← hl3_1]; exact c10b0
        clear c10
        obtain rfl := Option.some.inj H
        go_wp2
        go_ret
        exact ⟨_, by first | rfl | (simp [errW_none, errW_some] <;> rfl) | (simp [*, errW_none, errW_some] <;> rfl), by (with_reducible repeat (first | apply Kd.S_alloc | apply Kd.S_drewN | apply Kd.S_drew)); exact HO_3.out, by repeat (first | (with_reducible first | exact HB.out | apply below_alloc | apply pw_below_drewN | apply below_drew1) | exact HB.out)⟩
    ·
     rw [if_neg c6] at H
     exact absurd H (by simp)
   ·
    rw [if_neg c5] at H
    exact absurd H (by simp)
  ·
   rw [if_neg c4] at H
   exact absurd H (by simp)
 ·
  replace c3 := Bool.eq_false_iff.mpr c3
  subst c3
  have H1 : (some ([] : List (List Int))) = some r := by rw [if_neg (show ¬ (false = true) by decide)] at H; exact H
  clear H
  have H := H1
  clear H1
  obtain rfl := Option.some.inj H
  go_enter Try.func19, Try.ntmps19
  go_wp2_with (first | ((with_reducible refine gate_callee (f := 18) rfl ?_); refine goesL_ (some 8) rfl rfl Try.func18 (by kernel_rfl) rfl #[.slice A0 l0.length c0] rfl (by (try simp only [List.map_toArray, List.map_cons, List.map_nil]); first | done | rfl | (simp only [List.length_drop, List.length_take]; rfl)) ?_; (with_reducible refine (matrix_Valid.calls k _ _ l0 false _ ?side1 ?side2 A2.out).mono ?_); (case side1 => repeat (first | exact HR0.out | (with_reducible refine Kd.C_alloc ?_ _) | (with_reducible refine Kd.C_drewN ?_ _) | (with_reducible refine Kd.C_drew ?_))); (case side2 => exact HC0.out); rintro e w' ⟨rfl, ⟨nd, rfl⟩⟩; refine ⟨_, rfl, ?_⟩))
  go_ret
  exact ⟨_, by first | rfl | (simp [errW_none, errW_some] <;> rfl) | (simp [*, errW_none, errW_some] <;> rfl), by first | exact Kd.S_nil _ _ _ _ _ | exact Kd.N_nil _ _ _ _ _ | exact Kd.V_nil _ _ _ _ _ | exact Kd.Q_nil _ _ _ _ _ | exact Kd.R_nil _ _ _ _ _, by repeat (first | (with_reducible first | exact HB.out | apply below_alloc | apply pw_below_drewN | apply below_drew1) | exact HB.out)⟩

end Go.Proofs.Ytckefohfahphpaa.Z
end
section
namespace Go.Proofs.Ytckefohfahphpaa.Z
open Go.RowKit Go.Proofs.YtckefohfahphpaaW.PrintWords Go.Proofs.YtckefohfahphpaaW.PrintLast Go.Proofs.YtckefohfahphpaaW.PrintMore
attribute [local go_sem] max2_int min2_int max_two min_two max_three min_three max_four min_four   -- for this text's walks alone
set_option linter.unusedVariables false
set_option linter.unusedSimpArgs false

/-! ### petrinetref08_column: function 35 -/
def petrinetref08_column.l0 : Nat → List (List Int) → Int → List Int → Int → Option (List Int)
 | 0, _, _, _, _ => none
 | k + 1, x0, x1, x5, x6 => if x6 < (x0.length : Int) then (if 0 ≤ x6 then (if 0 ≤ x1 then (if x1 < ((rd_L1 x0 x6).length : Int) then (if x5.length < 17592186044416 then (petrinetref08_column.l0 k x0 x1 (x5 ++ [rd (rd_L1 x0 x6) x1]) (wrap64 (x6 + 1))) else (none)) else (none)) else (none)) else (none)) else (some x5)
def petrinetref08_column.f (k : Nat) (l0 : List (List Int)) (a1 : Int) : Option (List Int) := petrinetref08_column.l0 k l0 a1 ([] : List Int) 0
theorem petrinetref08_column.mono_l : ∀ k, (∀ y0 y1 y2 y3, LeO (petrinetref08_column.l0 k y0 y1 y2 y3) (petrinetref08_column.l0 (k + 1) y0 y1 y2 y3))
 | 0 => fun _ _ _ _ r h => by simp [petrinetref08_column.l0] at h
 | k + 1 => by
  have ih0 := petrinetref08_column.mono_l k
  ·
   intro y0 y1 y2 y3
   unfold petrinetref08_column.l0
   repeat' first
   | (with_reducible exact ih0 _ _ _ _)
   | (with_reducible exact LeO.refl _)
   | (with_reducible exact LeO.none _)
   | (with_reducible refine LeO.ite ?_ ?_)
   | (with_reducible refine LeO.bind ?_ (fun _ => ?_))
   | exact ih0 _ _ _ _
   | exact LeO.none _
   | refine LeO.ite ?_ ?_
   | refine LeO.bind ?_ (fun _ => ?_)
theorem petrinetref08_column.mono : ∀ a0 a1 k, LeO (petrinetref08_column.f k a0 a1) (petrinetref08_column.f (k + 1) a0 a1) := by
 intro a0 a1 k
 have ih0 := petrinetref08_column.mono_l k
 unfold petrinetref08_column.f
 repeat' first
   | (with_reducible exact ih0 _ _ _ _)
   | (with_reducible exact LeO.refl _)
   | (with_reducible exact LeO.none _)
   | (with_reducible refine LeO.ite ?_ ?_)
   | (with_reducible refine LeO.bind ?_ (fun _ => ?_))
   | exact ih0 _ _ _ _
   | exact LeO.none _
   | refine LeO.ite ?_ ?_
   | refine LeO.bind ?_ (fun _ => ?_)
set_option maxHeartbeats 8000000 in
set_option maxRecDepth 100000 in
theorem petrinetref08_column.calls (k : Nat) (A0 : Option Addr) (c0 : Nat) (l0 : List (List Int)) (a1 : Int) (r : List Int) (w : World) (hr0 : Kd.C (Kd.slice 2 (Kd.int .i64)) w A0 l0.length l0) (hc0 : l0.length ≤ c0) (h : petrinetref08_column.f k l0 a1 = some r) :
  Calls Try.prog 35 #[.slice A0 l0.length c0, .int .i64 a1] w fun e w' => ∃ v0_ : Value, e = .returned (v0_) ∧ Kd.R (Kd.int .i64) 2 w' w.heap.size (fun _ => True) v0_ r ∧ Below w.heap.size w w' := by
 have HR0 := Aside0.mk hr0
 have HC0 := Aside0.mk hc0
 clear hr0 hc0
 have HB := Aside0.mk (Below.refl w.heap.size w)
 have H : (petrinetref08_column.l0 k l0 a1 ([] : List Int) 0) = some r := h
 clear h
 have H' := Aside0.mk H
 clear H
 go_enter Try.func35, Try.ntmps35
 go_wp2
 go_loopg [5, 6] k (fun kq v5 v6 w' => ∃ (x5_1 : List Int) (x6_1 : Int), v6 = .int .i64 x6_1 ∧ Aside0 (petrinetref08_column.l0 kq l0 a1 x5_1 x6_1 = some r) ∧ Aside0 (kq ≤ k) ∧ Aside0 (Kd.R (Kd.int .i64) 2 w' w.heap.size (fun _ => True) v5 x5_1) ∧ Aside0 (Below w.heap.size w w'))
 case atStart => exact ⟨(([] : List Int)), (0), (by first | rfl | (simp; done) | (simp [*]; done)), H', ⟨Nat.le_refl _⟩, ⟨by first | exact Kd.R_nil _ _ _ _ _ | exact Kd.N_nil _ _ _ _ _ | exact Kd.V_nil _ _ _ _ _ | exact Kd.Q_nil _ _ _ _ _ | exact Kd.S_nil _ _ _ _ _⟩, ⟨by repeat (first | (with_reducible first | exact HB.out | apply below_alloc | apply pw_below_drewN | apply below_drew1) | exact HB.out)⟩⟩
 case round =>
  clear H'
  try clear p2
  obtain ⟨x5_1, x6_1, rfl, HA, HK1, HO_5, HB⟩ := hrel
  cases gk with
  | zero => exact absurd HA.out (by simp [petrinetref08_column.l0])
  | succ k1 =>
   have H := HA.out
   clear HA
   simp only [petrinetref08_column.l0] at H
   by_cases c3 : x6_1 < (l0.length : Int)
   ·
    rw [if_pos c3] at H
    have c3b0 : decide (x6_1 < (l0.length : Int)) = true := decide_eq_true c3
    clear c3
    by_cases c4 : 0 ≤ x6_1
    ·
     rw [if_pos c4] at H
     have c4b0 : decide (0 ≤ x6_1) = true := decide_eq_true c4
     clear c4
     by_cases c5 : 0 ≤ a1
     ·
      rw [if_pos c5] at H
      have c5b0 : decide (0 ≤ a1) = true := decide_eq_true c5
      clear c5
      by_cases c6 : a1 < ((rd_L1 l0 x6_1).length : Int)
      ·
       rw [if_pos c6] at H
       have c6b0 : decide (a1 < ((rd_L1 l0 x6_1).length : Int)) = true := decide_eq_true c6
       clear c6
       by_cases c7 : x5_1.length < 17592186044416
       ·
        rw [if_pos c7] at H
        have LMc7 := Aside0.mk c7
        clear c7
        obtain ⟨y203, hy203⟩ : ∃ y_ : List Int, y_ = (x5_1 ++ [rd (rd_L1 l0 x6_1) a1]) := ⟨_, rfl⟩
        replace H : (petrinetref08_column.l0 k1 l0 a1 y203 (wrap64 (x6_1 + 1))) = some r := by first | (rw [hy203]; with_reducible exact H) | (have H2_ := (Option.bind_some _ _).symm.trans H; rw [hy203]; with_reducible exact H2_) | (have H2_ := (Option.bind_some _ _).symm.trans H; with_reducible exact H2_) | with_reducible exact H | (rw [hy203]; exact H) | exact H
        have Ny203 := Aside0.mk hy203
        clear hy203
        have H' := Aside0.mk H
        clear H
        have p201 : 0 ≤ (x6_1 : Int) := of_decide_eq_true (by first | (with_reducible assumption) | assumption)
        have q201 : x6_1 < (l0.length : Int) := of_decide_eq_true (by first | (with_reducible assumption) | assumption)
        obtain ⟨ad201, A201_0, c201_0, e201, hx201_0, hl201_0, hi201_0⟩ := at_L1 HR0.out x6_1 p201 q201
        cases e201
        replace hx201_0 := (HB.out.cell (World.block_lt_of_cell? w _ hx201_0)).trans hx201_0
        have HR201_0 := Aside0.mk hi201_0
        have HC201_0 := Aside0.mk hl201_0
        clear hi201_0 hl201_0
        replace p201 := eq_true p201
        replace q201 := eq_true q201
        have p202 : 0 ≤ (a1 : Int) := of_decide_eq_true (by first | (with_reducible assumption) | assumption)
        have q202 : a1 < ((rd_L1 l0 x6_1).length : Int) := of_decide_eq_true (by first | (with_reducible assumption) | assumption)
        obtain ⟨ad202, e202, hx202_0⟩ := Kd.at_int HR201_0.out a1 p202 q202
        cases e202
        replace hx202_0 := (HB.out.cell (World.block_lt_of_cell? w _ hx202_0)).trans hx202_0
        replace p202 := eq_true p202
        replace q202 := eq_true q202
        go_wp2_with (first | ((with_reducible refine gate_builtin (b := .append) (xs := #[.tmp 13, .tmp 21]) rfl ?_); at_builtin; refine Kd.R_append (Kd.int .i64) (w0 := w) w.heap.size rfl (.tmp 13) (.tmp 21) 33 2 (.int .i64 0) 8 rfl Try.underlying33 info2 rfl (by decide) (by omega) u5 x5_1 (rd (rd_L1 l0 x6_1) a1) [.int .i64 (rd (rd_L1 l0 x6_1) a1)] (fun _ => True) (fun _ => False) rfl rfl ?aP (fun _ hk => hk.elim) ?aF ?aO ?aB ?aS ?aL ?_; (case aP => exact rfl); (case aB => exact (by repeat (first | (with_reducible first | exact HB.out | apply below_alloc | apply pw_below_drewN | apply below_drew1) | exact HB.out))); (case aF => exact (fun _ _ => trivial)); (case aO => exact (by (with_reducible repeat (first | apply Kd.R_alloc | apply Kd.R_drewN | apply Kd.R_drew)); exact HO_5.out)); (case aS => exact (below_size (by repeat (first | (with_reducible first | exact HB.out | apply below_alloc | apply pw_below_drewN | apply below_drew1) | exact HB.out)))); (case aL => have := LMc7.out; omega); intro v204 w8 ho hb hg hat; rw [← Ny203.out] at ho; have n0_ := Aside0.mk (hb); have n1_ := Aside0.mk (ho); clear HB; clear HO_5; have HB := n0_; have HO205 := n1_; clear n0_ n1_; clear ho hb hg hat))
        go_roundg k1
        case measure => have := HK1.out; omega
        case rel => exact ⟨(y203), (wrap64 (x6_1 + 1)), (by first | rfl | (simp; done) | (simp [*]; done)), H', ⟨by have := HK1.out; omega⟩, ⟨by (with_reducible repeat (first | apply Kd.R_alloc | apply Kd.R_drewN | apply Kd.R_drew)); exact HO205.out⟩, ⟨by repeat (first | (with_reducible first | exact HB.out | apply below_alloc | apply pw_below_drewN | apply below_drew1) | exact HB.out)⟩⟩
       ·
        rw [if_neg c7] at H
        exact absurd H (by simp)
      ·
       rw [if_neg c6] at H
       exact absurd H (by simp)
     ·
      rw [if_neg c5] at H
      exact absurd H (by simp)
    ·
     rw [if_neg c4] at H
     exact absurd H (by simp)
   ·
    rw [if_neg c3] at H
    have c3b0 : decide (x6_1 < (l0.length : Int)) = false := decide_eq_false c3
    clear c3
    obtain rfl := Option.some.inj H
    go_wp2
    go_ret
    exact ⟨_, by first | rfl | (simp [errW_none, errW_some] <;> rfl) | (simp [*, errW_none, errW_some] <;> rfl), by (with_reducible repeat (first | apply Kd.R_alloc | apply Kd.R_drewN | apply Kd.R_drew)); exact HO_5.out, by repeat (first | (with_reducible first | exact HB.out | apply below_alloc | apply pw_below_drewN | apply below_drew1) | exact HB.out)⟩

end Go.Proofs.Ytckefohfahphpaa.Z
end
section
namespace Go.Proofs.Ytckefohfahphpaa.Z
open Go.RowKit Go.Proofs.YtckefohfahphpaaW.PrintWords Go.Proofs.YtckefohfahphpaaW.PrintLast Go.Proofs.YtckefohfahphpaaW.PrintMore
attribute [local go_sem] max2_int min2_int max_two min_two max_three min_three max_four min_four   -- for this text's walks alone
set_option linter.unusedVariables false
set_option linter.unusedSimpArgs false

/-! ### petrinetref08_Transpose: function 20 -/
def petrinetref08_Transpose.l0 : Nat → List (List Int) → List (List Int) → Int → Option ((List (List Int)))
 | 0, _, _, _ => none
 | k + 1, x0, x3, x4 => if 0 < (x0.length : Int) then (if x4 < ((rd_L1 x0 0).length : Int) then ((petrinetref08_column.f k x0 x4).bind fun t208 => (if x3.length < 5864062014805 then (petrinetref08_Transpose.l0 k x0 (x3 ++ [t208]) (wrap64 (x4 + 1))) else (none))) else (some x3)) else (none)
def petrinetref08_Transpose.f (k : Nat) (l0 : List (List Int)) : Option ((List (List Int))) := (petrinetref08_Valid.f k l0).bind fun t206 => (if t206 = true then (petrinetref08_Transpose.l0 k l0 ([] : List (List Int)) 0) else (some ([] : List (List Int))))
theorem petrinetref08_Transpose.mono_l : ∀ k, (∀ y0 y1 y2, LeO (petrinetref08_Transpose.l0 k y0 y1 y2) (petrinetref08_Transpose.l0 (k + 1) y0 y1 y2))
 | 0 => fun _ _ _ r h => by simp [petrinetref08_Transpose.l0] at h
 | k + 1 => by
  have ih0 := petrinetref08_Transpose.mono_l k
  ·
   intro y0 y1 y2
   unfold petrinetref08_Transpose.l0
   repeat' first
   | (with_reducible exact ih0 _ _ _)
   | (with_reducible exact petrinetref08_Valid.mono _ _)
   | (with_reducible exact petrinetref08_column.mono _ _ _)
   | (with_reducible exact LeO.refl _)
   | (with_reducible exact LeO.none _)
   | (with_reducible refine LeO.ite ?_ ?_)
   | (with_reducible refine LeO.bind ?_ (fun _ => ?_))
   | exact ih0 _ _ _
   | exact petrinetref08_Valid.mono _ _
   | exact petrinetref08_column.mono _ _ _
   | exact LeO.none _
   | refine LeO.ite ?_ ?_
   | refine LeO.bind ?_ (fun _ => ?_)
theorem petrinetref08_Transpose.mono : ∀ a0 k, LeO (petrinetref08_Transpose.f k a0) (petrinetref08_Transpose.f (k + 1) a0) := by
 intro a0 k
 have ih0 := petrinetref08_Transpose.mono_l k
 unfold petrinetref08_Transpose.f
 repeat' first
   | (with_reducible exact ih0 _ _ _)
   | (with_reducible exact petrinetref08_Valid.mono _ _)
   | (with_reducible exact petrinetref08_column.mono _ _ _)
   | (with_reducible exact LeO.refl _)
   | (with_reducible exact LeO.none _)
   | (with_reducible refine LeO.ite ?_ ?_)
   | (with_reducible refine LeO.bind ?_ (fun _ => ?_))
   | exact ih0 _ _ _
   | exact petrinetref08_Valid.mono _ _
   | exact petrinetref08_column.mono _ _ _
   | exact LeO.none _
   | refine LeO.ite ?_ ?_
   | refine LeO.bind ?_ (fun _ => ?_)
set_option maxHeartbeats 8000000 in
set_option maxRecDepth 100000 in
theorem petrinetref08_Transpose.calls (k : Nat) (A0 : Option Addr) (c0 : Nat) (l0 : List (List Int)) (r : List (List Int)) (w : World) (hr0 : Kd.C (Kd.slice 2 (Kd.int .i64)) w A0 l0.length l0) (hc0 : l0.length ≤ c0) (h : petrinetref08_Transpose.f k l0 = some r) :
  Calls Try.prog 20 #[.slice A0 l0.length c0] w fun e w' => ∃ v0_ : Value, e = .returned (v0_) ∧ Kd.S (Kd.slice 2 (Kd.int .i64)) 33 w' w.heap.size (fun _ => True) v0_ r ∧ Below w.heap.size w w' := by
 have HR0 := Aside0.mk hr0
 have HC0 := Aside0.mk hc0
 clear hr0 hc0
 have HB := Aside0.mk (Below.refl w.heap.size w)
 have H : ((petrinetref08_Valid.f k l0).bind fun t206 => (if t206 = true then (petrinetref08_Transpose.l0 k l0 ([] : List (List Int)) 0) else (some ([] : List (List Int))))) = some r := h
 clear h
 replace H := Option.bind_eq_some_iff.mp H
 obtain ⟨t206, A20, H⟩ := H
 replace H : (if t206 = true then (petrinetref08_Transpose.l0 k l0 ([] : List (List Int)) 0) else (some ([] : List (List Int)))) = some r := H
 have A2 := Aside0.mk A20
 clear A20
 by_cases c3 : t206 = true
 ·
  subst c3
  have H1 : (petrinetref08_Transpose.l0 k l0 ([] : List (List Int)) 0) = some r := by rw [if_pos rfl] at H; exact H
  clear H
  have H := H1
  clear H1
  have H' := Aside0.mk H
  clear H
  go_enter Try.func20, Try.ntmps20
  go_wp2_with (first | ((with_reducible refine gate_callee (f := 10) rfl ?_); refine goesL_ (some 6) rfl rfl Try.func10 (by kernel_rfl) rfl #[.slice A0 l0.length c0] rfl (by (try simp only [List.map_toArray, List.map_cons, List.map_nil]); first | done | rfl | (simp only [List.length_drop, List.length_take]; rfl)) ?_; (with_reducible refine (petrinetref08_Valid.calls k _ _ l0 true _ ?side1 ?side2 A2.out).mono ?_); (case side1 => repeat (first | exact HR0.out | (with_reducible refine Kd.C_alloc ?_ _) | (with_reducible refine Kd.C_drewN ?_ _) | (with_reducible refine Kd.C_drew ?_))); (case side2 => exact HC0.out); rintro e w' ⟨rfl, ⟨nd, rfl⟩⟩; refine ⟨_, rfl, ?_⟩))
  go_loopg [3, 4] k (fun kq v3 v4 w' => ∃ (x3_1 : List (List Int)) (x4_1 : Int), v4 = .int .i64 x4_1 ∧ Aside0 (petrinetref08_Transpose.l0 kq l0 x3_1 x4_1 = some r) ∧ Aside0 (kq ≤ k) ∧ Aside0 (Kd.S (Kd.slice 2 (Kd.int .i64)) 33 w' w.heap.size (fun _ => True) v3 x3_1) ∧ Aside0 (Below w.heap.size w w'))
  case atStart => exact ⟨(([] : List (List Int))), (0), (by first | rfl | (simp; done) | (simp [*]; done)), H', ⟨Nat.le_refl _⟩, ⟨by first | exact Kd.S_nil _ _ _ _ _ | exact Kd.N_nil _ _ _ _ _ | exact Kd.V_nil _ _ _ _ _ | exact Kd.Q_nil _ _ _ _ _ | exact Kd.R_nil _ _ _ _ _⟩, ⟨by repeat (first | (with_reducible first | exact HB.out | apply below_alloc | apply pw_below_drewN | apply below_drew1) | exact HB.out)⟩⟩
  case round =>
   clear H'
   try clear c1
   try clear c2
   try clear p2
   try clear c3
   obtain ⟨x3_1, x4_1, rfl, HA, HK1, HO_3, HB⟩ := hrel
   cases gk with
   | zero => exact absurd HA.out (by simp [petrinetref08_Transpose.l0])
   | succ k1 =>
    have H := HA.out
    clear HA
    simp only [petrinetref08_Transpose.l0] at H
    by_cases c4 : 0 < (l0.length : Int)
    ·
     rw [if_pos c4] at H
     have c4b0 : decide (0 < (l0.length : Int)) = true := decide_eq_true c4
     have c4b1 : decide (0 < l0.length) = true := decide_eq_true (by omega)
     clear c4
     by_cases c5 : x4_1 < ((rd_L1 l0 0).length : Int)
     ·
      rw [if_pos c5] at H
      have c5b0 : decide (x4_1 < ((rd_L1 l0 0).length : Int)) = true := decide_eq_true c5
      clear c5
      replace H := Option.bind_eq_some_iff.mp H
      obtain ⟨t208, A60, H⟩ := H
      replace H : (if x3_1.length < 5864062014805 then (petrinetref08_Transpose.l0 k1 l0 (x3_1 ++ [t208]) (wrap64 (x4_1 + 1))) else (none)) = some r := H
      have A6 := Aside0.mk A60
      clear A60
      by_cases c7 : x3_1.length < 5864062014805
      ·
       rw [if_pos c7] at H
       have LMc7 := Aside0.mk c7
       clear c7
       obtain ⟨y211, hy211⟩ : ∃ y_ : List (List Int), y_ = (x3_1 ++ [t208]) := ⟨_, rfl⟩
       replace H : (petrinetref08_Transpose.l0 k1 l0 y211 (wrap64 (x4_1 + 1))) = some r := by first | (rw [hy211]; with_reducible exact H) | (have H2_ := (Option.bind_some _ _).symm.trans H; rw [hy211]; with_reducible exact H2_) | (have H2_ := (Option.bind_some _ _).symm.trans H; with_reducible exact H2_) | with_reducible exact H | (rw [hy211]; exact H) | exact H
       have Ny211 := Aside0.mk hy211
       clear hy211
       have H' := Aside0.mk H
       clear H
       have p207 : 0 ≤ (0 : Int) := (by omega)
       have q207 : 0 < (l0.length : Int) := of_decide_eq_true (by first | (with_reducible assumption) | assumption)
       obtain ⟨ad207, A207_0, c207_0, e207, hx207_0, hl207_0, hi207_0⟩ := at_L1 HR0.out 0 p207 q207
       cases e207
       have qi207 : (0 < l0.length) = True := eq_true (by omega)
       (try rw [show ((0 : Int)).toNat = 0 from rfl] at hx207_0)
       (try rw [Addr.add_zero'] at hx207_0)
       replace hx207_0 := (HB.out.cell (World.block_lt_of_cell? w _ hx207_0)).trans hx207_0
       have HR207_0 := Aside0.mk hi207_0
       have HC207_0 := Aside0.mk hl207_0
       clear hi207_0 hl207_0
       replace p207 := eq_true p207
       replace q207 := eq_true q207
       go_wp2_with (first | ((with_reducible refine gate_callee (f := 35) rfl ?_); refine goesL_ (some 19) rfl rfl Try.func35 (by kernel_rfl) rfl #[.slice (some ad207) l0.length c0, .int .i64 x4_1] rfl (by (try simp only [List.map_toArray, List.map_cons, List.map_nil]); first | done | rfl | (simp only [List.length_drop, List.length_take]; rfl)) ?_; (with_reducible refine (petrinetref08_column.calls k1 _ _ l0 x4_1 t208 _ ?side1 ?side2 A6.out).mono ?_); (case side1 => repeat (first | exact (Kd.C_below HR0.out HB.out) | (with_reducible refine Kd.C_alloc ?_ _) | (with_reducible refine Kd.C_drewN ?_ _) | (with_reducible refine Kd.C_drew ?_))); (case side2 => exact HC0.out); rintro e w8 ⟨v209, rfl, ho0, hb⟩; refine ⟨_, rfl, ?_⟩; have n0_ := Aside0.mk (Kd.S_elder' (by (with_reducible repeat (first | apply Kd.S_alloc | apply Kd.S_drewN | apply Kd.S_drew)); exact HO_3.out) (Kd.R_base ho0) hb); have n1_ := Aside0.mk (Kd.R_lower ho0 (below_size (by repeat (first | (with_reducible first | exact HB.out | apply below_alloc | apply pw_below_drewN | apply below_drew1) | exact HB.out)))); have n2_ := Aside0.mk (below_step (by repeat (first | (with_reducible first | exact HB.out | apply below_alloc | apply pw_below_drewN | apply below_drew1) | exact HB.out)) hb); clear HO_3; clear HB; have HO_3 := n0_; have HO210 := n1_; have HB := n2_; clear n0_ n1_ n2_; (try clear hb); (try clear hb2); (try clear hk); (try clear hi); (try clear ho0); obtain ⟨Ao10, co10, eo10⟩ := Kd.R_slice HO210.out; subst eo10) | ((with_reducible refine gate_builtin (b := .append) (xs := #[.tmp 16, .tmp 20]) rfl ?_); at_builtin; refine Kd.S_append (Kd.slice 2 (Kd.int .i64)) (w0 := w) w.heap.size rfl (.tmp 16) (.tmp 20) 22 33 (.slice none 0 0) 24 rfl Try.underlying22 info33 rfl (by decide) (by omega) u3 x3_1 t208 [.slice Ao10 t208.length co10] (fun _ => True) (fun k_ => some k_ = (.slice Ao10 t208.length co10 : Value).ownBlock) rfl rfl ?aP (fun k_ hk_ => ((Kd.R_mono (ok' := fun k_ => ((fun _ => True)) k_ ∧ some k_ ≠ (u3 : Value).ownBlock) (Kd.R_apart' (HO210.out) (Kd.S_typed HO_3.out) (by decide)) (fun k_ hk => ⟨trivial, hk.2⟩))).1 k_ hk_.symm) ?aF ?aO ?aB ?aS ?aL ?_; (case aP => exact Kd.M_row (Kd.R_mono (Kd.R_tight rfl (Kd.R_mono (ok' := fun k_ => ((fun _ => True)) k_ ∧ some k_ ≠ (u3 : Value).ownBlock) (Kd.R_apart' (HO210.out) (Kd.S_typed HO_3.out) (by decide)) (fun k_ hk => ⟨trivial, hk.2⟩))) (fun _ h_ => h_))); (case aB => exact (by repeat (first | (with_reducible first | exact HB.out | apply below_alloc | apply pw_below_drewN | apply below_drew1) | exact HB.out))); (case aF => exact (fun _ _ => trivial)); (case aO => exact (by (with_reducible repeat (first | apply Kd.S_alloc | apply Kd.S_drewN | apply Kd.S_drew)); exact Kd.S_mono HO_3.out (fun k_ hk => ⟨trivial, fun e_ => hk.2 e_⟩))); (case aS => exact (below_size (by repeat (first | (with_reducible first | exact HB.out | apply below_alloc | apply pw_below_drewN | apply below_drew1) | exact HB.out)))); (case aL => have := LMc7.out; omega); intro v212 w9 ho hb hg hat; rw [← Ny211.out] at ho; have n0_ := Aside0.mk (hb); have n1_ := Aside0.mk (ho); clear HB; clear HO_3; clear HO210; have HB := n0_; have HO213 := n1_; clear n0_ n1_; clear ho hb hg hat))
       go_roundg k1
       case measure => have := HK1.out; omega
       case rel => exact ⟨(y211), (wrap64 (x4_1 + 1)), (by first | rfl | (simp; done) | (simp [*]; done)), H', ⟨by have := HK1.out; omega⟩, ⟨by (with_reducible repeat (first | apply Kd.S_alloc | apply Kd.S_drewN | apply Kd.S_drew)); exact HO213.out⟩, ⟨by repeat (first | (with_reducible first | exact HB.out | apply below_alloc | apply pw_below_drewN | apply below_drew1) | exact HB.out)⟩⟩
      ·
       rw [if_neg c7] at H
       exact absurd H (by simp)
     ·
      rw [if_neg c5] at H
      have c5b0 : decide (x4_1 < ((rd_L1 l0 0).length : Int)) = false := decide_eq_false c5
      clear c5
      obtain rfl := Option.some.inj H
      have p207 : 0 ≤ (0 : Int) := (by omega)
      have q207 : 0 < (l0.length : Int) := of_decide_eq_true (by first | (with_reducible assumption) | assumption)
      obtain ⟨ad207, A207_0, c207_0, e207, hx207_0, hl207_0, hi207_0⟩ := at_L1 HR0.out 0 p207 q207
      cases e207
      have qi207 : (0 < l0.length) = True := eq_true (by omega)
      (try rw [show ((0 : Int)).toNat = 0 from rfl] at hx207_0)
      (try rw [Addr.add_zero'] at hx207_0)
      replace hx207_0 := (HB.out.cell (World.block_lt_of_cell? w _ hx207_0)).trans hx207_0
      have HR207_0 := Aside0.mk hi207_0
      have HC207_0 := Aside0.mk hl207_0
      clear hi207_0 hl207_0
      replace p207 := eq_true p207
      replace q207 := eq_true q207
      go_wp2
      go_ret
      exact ⟨_, by first | rfl | (simp [errW_none, errW_some] <;> rfl) | (simp [*, errW_none, errW_some] <;> rfl), by (with_reducible repeat (first | apply Kd.S_alloc | apply Kd.S_drewN | apply Kd.S_drew)); exact HO_3.out, by repeat (first | (with_reducible first | exact HB.out | apply below_alloc | apply pw_below_drewN | apply below_drew1) | exact HB.out)⟩
    ·
     rw [if_neg c4] at H
     exact absurd H (by simp)
 ·
  replace c3 := Bool.eq_false_iff.mpr c3
  subst c3
  have H1 : (some ([] : List (List Int))) = some r := by rw [if_neg (show ¬ (false = true) by decide)] at H; exact H
  clear H
  have H := H1
  clear H1
  obtain rfl := Option.some.inj H
  go_enter Try.func20, Try.ntmps20
  go_wp2_with (first | ((with_reducible refine gate_callee (f := 10) rfl ?_); refine goesL_ (some 6) rfl rfl Try.func10 (by kernel_rfl) rfl #[.slice A0 l0.length c0] rfl (by (try simp only [List.map_toArray, List.map_cons, List.map_nil]); first | done | rfl | (simp only [List.length_drop, List.length_take]; rfl)) ?_; (with_reducible refine (petrinetref08_Valid.calls k _ _ l0 false _ ?side1 ?side2 A2.out).mono ?_); (case side1 => repeat (first | exact HR0.out | (with_reducible refine Kd.C_alloc ?_ _) | (with_reducible refine Kd.C_drewN ?_ _) | (with_reducible refine Kd.C_drew ?_))); (case side2 => exact HC0.out); rintro e w' ⟨rfl, ⟨nd, rfl⟩⟩; refine ⟨_, rfl, ?_⟩))
  go_ret
  exact ⟨_, by first | rfl | (simp [errW_none, errW_some] <;> rfl) | (simp [*, errW_none, errW_some] <;> rfl), by first | exact Kd.S_nil _ _ _ _ _ | exact Kd.N_nil _ _ _ _ _ | exact Kd.V_nil _ _ _ _ _ | exact Kd.Q_nil _ _ _ _ _ | exact Kd.R_nil _ _ _ _ _, by repeat (first | (with_reducible first | exact HB.out | apply below_alloc | apply pw_below_drewN | apply below_drew1) | exact HB.out)⟩

end Go.Proofs.Ytckefohfahphpaa.Z
end
section
namespace Go.Proofs.Ytckefohfahphpaa.Z
open Go.RowKit Go.Proofs.YtckefohfahphpaaW.PrintWords Go.Proofs.YtckefohfahphpaaW.PrintLast Go.Proofs.YtckefohfahphpaaW.PrintMore
set_option linter.unusedVariables false
set_option linter.unusedSimpArgs false
def colM (a : List (List Int)) (k : Int) : List Int := a.map fun r => rd r k
def transM (a : List (List Int)) : List (List Int) := (List.range (rd_L1 a 0).length).map fun k : Nat => colM a (k : Int)
theorem rdL_mid (A B : List (List Int)) (p : List Int) {i : Int} (hi : i = (A.length : Int)) : rd_L1 (A ++ p :: B) i = p := by
 subst hi
 simp [rd_L1, List.getD_eq_getElem?_getD]
theorem set_mid (A B : List (List Int)) (p q : List Int) {i : Nat} (hi : i = A.length) : (A ++ p :: B).set i q = A ++ q :: B := by
 subst hi
 simp
theorem colM_take {a : List (List Int)} {k j : Int} (h0 : 0 ≤ j) (h1 : j < (a.length : Int)) : colM (a.take j.toNat) k ++ [rd (rd_L1 a j) k] = colM (a.take (j + 1).toNat) k := by
 have h : j.toNat < a.length := by omega
 have e : rd_L1 a j = a[j.toNat] := by simp [rd_L1, List.getD_eq_getElem?_getD, h]
 unfold colM
 rw [show (j + 1).toNat = j.toNat + 1 by omega, List.take_succ_eq_append_getElem h, List.map_append, e]
 rfl
theorem rcol_l0 {a : List (List Int)} {n : Nat} (hl : a.length ≤ 1000000) (hr : ∀ r ∈ a, r.length = n) {k : Int} (hk : 0 ≤ k) (hk' : k < (n : Int)) : ∀ (d m : Nat) (j : Int), 0 ≤ j → (a.length : Int) - j = d → d + 2 ≤ m →
  petrinetref08_column.l0 m a k (colM (a.take j.toNat) k) j = some (colM a k) := by
 intro d
 induction d with
 | zero =>
  intro m j h0 hd hm
  obtain ⟨m, rfl⟩ : ∃ z, m = z + 1 := ⟨m - 1, by omega⟩
  rw [petrinetref08_column.l0, if_neg (by omega), List.take_of_length_le (by omega)]
 | succ d ih =>
  intro m j h0 hd hm
  obtain ⟨m, rfl⟩ : ∃ z, m = z + 1 := ⟨m - 1, by omega⟩
  have := hr _ (rdL_mem h0 (show j < (a.length : Int) by omega))
  rw [petrinetref08_column.l0, if_pos (by omega), if_pos h0, if_pos hk, if_pos (by omega), if_pos (by simp [colM]; omega), colM_take h0 (by omega), wrap64_small (by omega) (by omega)]
  exact ih m (j + 1) (by omega) (by omega) (by omega)
theorem rcol_eq {a : List (List Int)} {n : Nat} (hl : a.length ≤ 1000000) (hr : ∀ r ∈ a, r.length = n) {k : Int} (hk : 0 ≤ k) (hk' : k < (n : Int)) (m : Nat) (hm : a.length + 2 ≤ m) : petrinetref08_column.f m a k = some (colM a k) := by
 have := rcol_l0 hl hr hk hk' a.length m 0 (by omega) (by omega) (by omega)
 exact this
theorem transM_take (a : List (List Int)) {j : Int} (h0 : 0 ≤ j) : (List.range j.toNat).map (fun k : Nat => colM a (k : Int)) ++ [colM a j] = (List.range (j + 1).toNat).map fun k : Nat => colM a (k : Int) := by
 rw [show (j + 1).toNat = j.toNat + 1 by omega, List.range_succ, List.map_append]
 simp only [List.map_cons, List.map_nil]
 rw [show ((j.toNat : Nat) : Int) = j by omega]
theorem rtrans_l0 {a : List (List Int)} {n : Nat} (hn : n ≤ 1000000) (hp : 1 ≤ a.length) (hl : a.length ≤ 1000000) (hr : ∀ r ∈ a, r.length = n) : ∀ (d m : Nat) (j : Int), 0 ≤ j → (n : Int) - j = d → d + a.length + 4 ≤ m →
  petrinetref08_Transpose.l0 m a ((List.range j.toNat).map fun k : Nat => colM a (k : Int)) j = some (transM a) := by
 have hn0 : (rd_L1 a 0).length = n := hr _ (rdL_mem (by omega) (by omega))
 intro d
 induction d with
 | zero =>
  intro m j h0 hd hm
  obtain ⟨m, rfl⟩ : ∃ z, m = z + 1 := ⟨m - 1, by omega⟩
  rw [petrinetref08_Transpose.l0, if_pos (by omega), if_neg (by omega)]
  unfold transM
  rw [hn0, show j.toNat = n by omega]
 | succ d ih =>
  intro m j h0 hd hm
  obtain ⟨m, rfl⟩ : ∃ z, m = z + 1 := ⟨m - 1, by omega⟩
  rw [petrinetref08_Transpose.l0, if_pos (by omega), if_pos (by omega), rcol_eq hl hr h0 (by omega) m (by omega)]
  simp only [Option.bind_some]
  rw [if_pos (by simp; omega), transM_take a h0, wrap64_small (by omega) (by omega)]
  exact ih m (j + 1) (by omega) (by omega) (by omega)
theorem mtrans_l1 {a : List (List Int)} {n : Nat} (hn : n ≤ 1000000) (hl : a.length ≤ 1000000) (hr : ∀ r ∈ a, r.length = n) {A B : List (List Int)} {c : Int} (hA : c = (A.length : Int)) (hc' : c < (n : Int)) : ∀ (d m : Nat) (j : Int), 0 ≤ j → (a.length : Int) - j = d → d + 2 ≤ m →
  ∃ m', m' + d + 1 = m ∧ matrix_Transpose.l1 m a (A ++ colM (a.take j.toNat) c :: B) c n c a (a.length : Int) j = matrix_Transpose.l0 m' a (A ++ colM a c :: B) n (wrap64 (c + 1)) := by
 intro d
 induction d with
 | zero =>
  intro m j h0 hd hm
  obtain ⟨m, rfl⟩ : ∃ z, m = z + 1 := ⟨m - 1, by omega⟩
  refine ⟨m, by omega, ?_⟩
  rw [matrix_Transpose.l1, if_neg (by omega), List.take_of_length_le (by omega)]
 | succ d ih =>
  intro m j h0 hd hm
  obtain ⟨m, rfl⟩ : ∃ z, m = z + 1 := ⟨m - 1, by omega⟩
  obtain ⟨m', hm', e⟩ := ih m (j + 1) (by omega) (by omega) (by omega)
  refine ⟨m', by omega, ?_⟩
  have := hr _ (rdL_mem h0 (show j < (a.length : Int) by omega))
  rw [matrix_Transpose.l1, if_pos (by omega), if_pos h0, if_pos (by omega), if_pos (by omega), if_pos (by simp; omega), if_pos (by omega), rdL_mid A B _ hA, if_pos (by simp [colM]; omega), set_mid A B _ _ (by omega), colM_take h0 (by omega), wrap64_small (by omega) (by omega)]
  exact e
theorem mtrans_l0 {a : List (List Int)} {n : Nat} (hn : n ≤ 1000000) (hp : 1 ≤ a.length) (hl : a.length ≤ 1000000) (hr : ∀ r ∈ a, r.length = n) : ∀ (d m : Nat) (j : Nat), (n : Int) - j = d → d * (a.length + 3) + 4 ≤ m →
  matrix_Transpose.l0 m a ((List.range j).map (fun k : Nat => colM a (k : Int)) ++ List.replicate d []) n j = some (transM a) := by
 have hn0 : (rd_L1 a 0).length = n := hr _ (rdL_mem (by omega) (by omega))
 intro d
 induction d with
 | zero =>
  intro m j hd hm
  obtain ⟨m, rfl⟩ : ∃ z, m = z + 1 := ⟨m - 1, by omega⟩
  rw [matrix_Transpose.l0, if_neg (by omega)]
  unfold transM
  rw [hn0, show j = n by omega]
  simp
 | succ d ih =>
  intro m j hd hm
  have e1 : (d + 1) * (a.length + 3) = d * (a.length + 3) + (a.length + 3) := Nat.succ_mul _ _
  obtain ⟨m, rfl⟩ : ∃ z, m = z + 1 := ⟨m - 1, by omega⟩
  rw [matrix_Transpose.l0, if_pos (by omega), List.replicate_succ]
  obtain ⟨m', hm', e⟩ := mtrans_l1 (A := (List.range j).map fun k : Nat => colM a (k : Int)) (B := List.replicate d []) hn hl hr (c := (j : Int)) (by simp) (by omega) a.length m 0 (by omega) (by omega) (by omega)
  have e2 : colM (a.take (0 : Int).toNat) (j : Int) = [] := rfl
  rw [e2] at e
  rw [e, wrap64_small (by omega) (by omega), show ((j : Int) + 1) = ((j + 1 : Nat) : Int) by omega]
  have := ih m' (j + 1) (by omega) (by omega)
  rw [List.range_succ, List.map_append] at this
  simpa using this
def transG (a : List (List Int)) : List (List Int) := if validB a = true then transM a else []
theorem mtrans_eq (a : List (List Int)) (m : Nat) (hm : 10000 ≤ m) : matrix_Transpose.f m a = some (transG a) := by
 unfold matrix_Transpose.f transG
 rw [mvalid_eq a m (by omega)]
 simp only [Option.bind_some]
 by_cases hv : validB a = true
 ·
  rw [if_pos hv, if_pos hv]
  obtain ⟨n, h1, h2, h3, h4, h5, h6⟩ := validB_iff.mp hv
  rw [if_pos (by omega), if_pos (by omega), if_pos (by omega), h6]
  have hb : n * (a.length + 3) ≤ 64 * 67 := Nat.mul_le_mul h4 (by omega)
  have := mtrans_l0 (a := a) (by omega) h1 (by omega) h5 n m 0 (by omega) (by omega)
  simpa using this
 ·
  rw [if_neg hv, if_neg hv]
theorem rtrans_eq (a : List (List Int)) (m : Nat) (hm : 10000 ≤ m) : petrinetref08_Transpose.f m a = some (transG a) := by
 unfold petrinetref08_Transpose.f transG
 rw [rvalid_eq a m (by omega)]
 simp only [Option.bind_some]
 by_cases hv : validB a = true
 ·
  rw [if_pos hv, if_pos hv]
  obtain ⟨n, h1, h2, h3, h4, h5, h6⟩ := validB_iff.mp hv
  exact rtrans_l0 (n := n) (by omega) h1 (by omega) h5 n m 0 (by omega) (by omega) (by omega)
 ·
  rw [if_neg hv, if_neg hv]
theorem transG_small (a : List (List Int)) : (transG a).length ≤ 64 ∧ ∀ r ∈ transG a, r.length ≤ 64 := by
 unfold transG
 by_cases hv : validB a = true
 ·
  rw [if_pos hv]
  obtain ⟨n, h1, h2, h3, h4, h5, h6⟩ := validB_iff.mp hv
  refine ⟨by simp [transM]; omega, fun r hr => ?_⟩
  simp only [transM, List.mem_map] at hr
  obtain ⟨k, _, rfl⟩ := hr
  simp [colM]
  omega
 ·
  rw [if_neg hv]
  simp
end Go.Proofs.Ytckefohfahphpaa.Z
end
section
namespace Go.Proofs.Ytckefohfahphpaa.Z
open Go.RowKit Go.Proofs.YtckefohfahphpaaW.PrintWords Go.Proofs.YtckefohfahphpaaW.PrintLast Go.Proofs.YtckefohfahphpaaW.PrintMore
attribute [local go_sem] max2_int min2_int max_two min_two max_three min_three max_four min_four   -- for this text's walks alone
set_option linter.unusedVariables false
set_option linter.unusedSimpArgs false

/-! ### matrix_Rank: function 16, by hand -/
def matrix_Rank.f (k : Nat) (a : List (List Int)) : Option (Int × Int) := (matrix_Valid.f k a).bind fun v => if v = true then (matrix_reduce.f k a).bind fun r => some ((r.1.2.length : Int), r.2) else some (0, 2)
theorem matrix_Rank.mono (a : List (List Int)) (k : Nat) : LeO (matrix_Rank.f k a) (matrix_Rank.f (k + 1) a) := by
 unfold matrix_Rank.f
 exact LeO.bind (matrix_Valid.mono _ _) (fun _ => LeO.ite (LeO.bind (matrix_reduce.mono _ _) (fun _ => LeO.refl _)) (LeO.refl _))
set_option maxHeartbeats 8000000 in
set_option maxRecDepth 100000 in
theorem matrix_Rank.calls (k : Nat) (A0 : Option Addr) (c0 : Nat) (l0 : List (List Int)) (r1 : Int) (r2 : Int) (w : World) (hr0 : Kd.C (Kd.slice 2 (Kd.int .i64)) w A0 l0.length l0) (hc0 : l0.length ≤ c0) (h : matrix_Rank.f k l0 = some (r1, r2)) :
  Calls Try.prog 16 #[.slice A0 l0.length c0] w fun e w' => e = .returned (.tuple #[.int .i64 r1, .int .i64 r2]) ∧ Below w.heap.size w w' := by
 unfold matrix_Rank.f at h
 obtain ⟨v, hv, h⟩ := Option.bind_eq_some_iff.mp h
 have HV := Aside0.mk hv
 have HR := Aside0.mk hr0
 have HC := Aside0.mk hc0
 cases v
 ·
  have hE : (0 : Int) = r1 ∧ (2 : Int) = r2 := by simpa using h
  obtain ⟨rfl, rfl⟩ := hE
  clear hr0 hc0 h hv
  go_enter Try.func16, Try.ntmps16
  go_wp2_with (fail)
  refine (matrix_Valid.calls k _ _ l0 false _ HR.out HC.out HV.out).mono ?_
  rintro e w1 ⟨rfl, hd⟩
  have HD := Aside0.mk hd
  clear hd
  go_wp2
  go_ret2
  exact ⟨rfl, HD.out.below⟩
 ·
  simp only [if_true] at h
  obtain ⟨⟨⟨rows, cols⟩, e2⟩, hred, h⟩ := Option.bind_eq_some_iff.mp h
  have HRED := Aside0.mk hred
  obtain ⟨rfl, rfl⟩ : (cols.length : Int) = r1 ∧ e2 = r2 := by simpa using h
  clear hr0 hc0 hv hred h
  by_cases he : e2 = 0
  ·
   subst he
   go_enter Try.func16, Try.ntmps16
   go_wp2_with (fail)
   refine (matrix_Valid.calls k _ _ l0 true _ HR.out HC.out HV.out).mono ?_
   rintro e w1 ⟨rfl, hd⟩
   have HD := Aside0.mk hd.below
   clear hd
   go_wp2_with (fail)
   refine (matrix_reduce.calls k _ _ l0 rows cols 0 _ (Kd.C_below HR.out HD.out) HC.out HRED.out).mono ?_
   rintro e3 w3 ⟨p, rfl, hB, hz⟩
   obtain ⟨cv, rv, rfl, hT⟩ := hz rfl
   have HB := Aside0.mk (below_step HD.out hB)
   obtain ⟨Ac, cc, rfl⟩ := Kd.R_slice hT.col
   have hc1 := hT.c0
   clear hB hz hT
   go_wp2_with (fail)
   refine (pivots_rank.calls _ Ac cols.length cc _ hc1).mono ?_
   rintro e5 w5 ⟨rfl, hw⟩
   have hw := hw.symm
   subst hw
   go_wp2
   go_ret2
   exact ⟨rfl, HB.out⟩
  ·
   obtain ⟨rfl, rfl⟩ := reduce_bad HRED.out he
   have he3 : (e2 == 0) = false := beq_eq_false_iff_ne.mpr he
   have he4 : (e2 != 0) = true := bne_iff_ne.mpr he
   go_enter Try.func16, Try.ntmps16
   go_wp2_with (fail)
   refine (matrix_Valid.calls k _ _ l0 true _ HR.out HC.out HV.out).mono ?_
   rintro e w1 ⟨rfl, hd⟩
   have HD := Aside0.mk hd.below
   clear hd
   go_wp2_with (fail)
   refine (matrix_reduce.calls k _ _ l0 _ _ e2 _ (Kd.C_below HR.out HD.out) HC.out HRED.out).mono ?_
   rintro e3 w3 ⟨p, rfl, hB, hz⟩
   have HB := Aside0.mk (below_step HD.out hB)
   clear hB hz
   go_wp2
   go_ret2
   exact ⟨rfl, HB.out⟩

end Go.Proofs.Ytckefohfahphpaa.Z
end
section
namespace Go.Proofs.Ytckefohfahphpaa.Z
open Go.RowKit Go.Proofs.YtckefohfahphpaaW.PrintWords Go.Proofs.YtckefohfahphpaaW.PrintLast Go.Proofs.YtckefohfahphpaaW.PrintMore
set_option linter.unusedVariables false
set_option linter.unusedSimpArgs false
theorem tdiv_abs (x y : Int) : (Int.tdiv x y).natAbs ≤ x.natAbs := by rw [Int.natAbs_tdiv]; exact Nat.div_le_self _ _
theorem rd_vec (l : List Int) (x : Nat) : rd l (x : Int) = vec l x := rfl
theorem wsucc {i : Nat} (h : i ≤ 100000) : wrap64 ((i : Int) + 1) = ((i + 1 : Nat) : Int) := by rw [wrap64_small (by omega) (by omega)]; omega
theorem vec_cons0 (x : Int) (a : List Int) : vec (x :: a) 0 = x := by simp [vec, rd]
theorem vec_consS (x : Int) (a : List Int) (i : Nat) : vec (x :: a) (i + 1) = vec a i := by simp [vec, rd]
theorem mech_eq {K : Nat} {a : List (List Int)} (hK : 300 ≤ K) : matrix_Echelon.f K a = if validB a = true then (matrix_reduce.f K a).bind fun r => some (r.1.1, r.2) else some ([], 2) := by
 unfold matrix_Echelon.f
 rw [mvalid_eq a K (by omega)]
 rfl
theorem mrank_eq {K : Nat} {a : List (List Int)} (hK : 300 ≤ K) : matrix_Rank.f K a = if validB a = true then (matrix_reduce.f K a).bind fun r => some ((r.1.2.length : Int), r.2) else some (0, 2) := by
 unfold matrix_Rank.f
 rw [mvalid_eq a K (by omega)]
 rfl
theorem Fnl.inc {A : List Vc} {T : Nat → Vc} {k : Nat} {p : Nat → Nat} (h : Fnl A T k p) {i j : Nat} (hij : i < j) (hj : j < k) : p i < p j := by
 have := List.pairwise_iff_getElem.mp h.red.inc i j (by simp [pairs]; omega) (by simp [pairs]; omega) hij
 simpa [pairs] using this
theorem Outc.len {a : List (List Int)} {n : Nat} {E : List (List Int)} {p : Nat → Nat} (h : Outc a n E p) : E.length ≤ n := by
 have hp : ∀ i, i < E.length → i ≤ p i := by
  intro i
  induction i with
  | zero => intro _; omega
  | succ i ih =>
   intro hi
   have h1 := ih (by omega)
   have h2 := h.fn.inc (show i < i + 1 by omega) hi
   omega
 by_cases h0 : E.length = 0
 ·
  omega
 ·
  have h1 := hp (E.length - 1) (by omega)
  have h2 := h.pn (E.length - 1) (by omega)
  omega
theorem Outc.same {a : List (List Int)} {n : Nat} {E F : List (List Int)} {p q : Nat → Nat} (hE : Outc a n E p) (hF : Outc a n F q) : E = F := by
 obtain ⟨h1, h2⟩ := hE.fn.uniq hF.fn (fun v hv => .mem hv) (fun v hv => .mem hv)
 apply List.ext_getElem h1
 intro i hi hi'
 have h3 := (h2 i hi).2
 have e1 : rd_L1 E (i : Int) = E[i] := by simp [rd_L1, List.getD_eq_getElem?_getD, hi]
 have e2 : rd_L1 F (i : Int) = F[i] := by simp [rd_L1, List.getD_eq_getElem?_getD, hi']
 unfold rowsV at h3
 rw [e1, e2] at h3
 exact vec_ext (by rw [(hE.ok _ (List.getElem_mem hi)).1, (hF.ok _ (List.getElem_mem hi')).1]) h3
end Go.Proofs.Ytckefohfahphpaa.Z
end
section
namespace Go.Proofs.Ytckefohfahphpaa.Z
open Go.RowKit Go.Proofs.YtckefohfahphpaaW.PrintWords Go.Proofs.YtckefohfahphpaaW.PrintLast Go.Proofs.YtckefohfahphpaaW.PrintMore
set_option linter.unusedVariables false
set_option linter.unusedSimpArgs false
theorem quo_gcd {P F : Int} (hP : 0 < P) : ∃ g q m : Int, g = (Int.gcd P F : Int) ∧ 0 < g ∧ q = Int.tdiv P g ∧ m = Int.tdiv F g ∧ P = g * q ∧ F = g * m ∧ 0 < q ∧ q ≤ P ∧ m.natAbs ≤ F.natAbs ∧ ∀ t : Int, q ∣ t ↔ P ∣ F * t := by
 have h1 : 0 < Int.gcd P F := Int.gcd_pos_of_ne_zero_left F (by omega)
 obtain ⟨g, hg⟩ : ∃ g : Int, g = (Int.gcd P F : Int) := ⟨_, rfl⟩
 have hg0 : 0 < g := by omega
 have e1 : P = g * Int.tdiv P g := (Int.mul_tdiv_cancel' (hg ▸ Int.gcd_dvd_left ..)).symm
 have e2 : F = g * Int.tdiv F g := (Int.mul_tdiv_cancel' (hg ▸ Int.gcd_dvd_right ..)).symm
 have t1 := tdiv_abs P g
 have t2 := tdiv_abs F g
 have hq : 0 < Int.tdiv P g := pos_of_mul hg0 (by rw [← e1]; exact hP)
 refine ⟨g, _, _, hg, hg0, rfl, rfl, e1, e2, hq, by omega, t2, fun t => ⟨fun ⟨z, hz⟩ => ⟨Int.tdiv F g * z, ?_⟩, fun ⟨z, hz⟩ => ?_⟩⟩
 ·
  rw [hz]
  generalize Int.tdiv P g = q at *
  generalize Int.tdiv F g = m at *
  rw [e1, e2]
  grind
 ·
  generalize hq' : Int.tdiv P g = q at *
  generalize hm' : Int.tdiv F g = m at *
  have hc : Int.gcd q m = 1 := by
   have e := Int.gcd_mul_left g q m
   rw [← e1, ← e2] at e
   have h2 : g.natAbs * Int.gcd q m = g.natAbs * 1 := by rw [← e]; omega
   exact Nat.eq_of_mul_eq_mul_left (by omega) h2
  have h3 : q ∣ m * t := by
   refine ⟨z, ?_⟩
   have : g * (m * t) = g * (q * z) := by
    rw [← Int.mul_assoc, ← e2, hz, ← Int.mul_assoc, ← e1]
   exact Int.eq_of_mul_eq_mul_left (by omega) this
  exact Int.natAbs_dvd_natAbs.mp ((show Nat.Coprime q.natAbs m.natAbs from hc).dvd_of_dvd_mul_left (by rw [← Int.natAbs_mul]; exact Int.natAbs_dvd_natAbs.mpr h3))
/-- The least common multiple of s and q, as s/g*q. -/
theorem lcm_props {s q : Int} (hs : 0 < s) (hq : 0 < q) : ∃ L : Int, L = Int.tdiv s (Int.gcd s q : Int) * q ∧ L = s * Int.tdiv q (Int.gcd s q : Int) ∧ 0 < L ∧ s ∣ L ∧ q ∣ L ∧ ∀ t, s ∣ t → q ∣ t → L ∣ t := by
 obtain ⟨g, a, b, h1, h2, h3, h4, h5, h6, h7, h8, h9, h10⟩ := quo_gcd (P := s) (F := q) hs
 have hb : 0 < b := pos_of_mul h2 (by rw [← h6]; exact hq)
 rw [← h1, ← h3, ← h4]
 refine ⟨_, rfl, ?_, Int.mul_pos h7 hq, ⟨b, ?_⟩, ⟨a, Int.mul_comm _ _⟩, fun t ⟨z, hz⟩ hqt => ?_⟩
 ·
  rw [h5, h6]; grind
 ·
  rw [h5, h6]; grind
 ·
  obtain ⟨y, hy⟩ := hqt
  have e : g * (a * z) = g * (b * y) := by
   have e1 : g * (a * z) = t := by rw [hz, h5]; grind
   have e2 : g * (b * y) = t := by rw [hy, h6]; grind
   rw [e1, e2]
  have e3 := Int.eq_of_mul_eq_mul_left (show g ≠ 0 by omega) e
  have h11 : a ∣ y := (h10 y).mpr ⟨z * 1, by
   rw [h6, h5, Int.mul_one]
   have : b * y = a * z := e3.symm
   calc g * b * y = g * (b * y) := Int.mul_assoc _ _ _
    _ = g * (a * z) := by rw [this]
    _ = g * a * z := (Int.mul_assoc _ _ _).symm⟩
  obtain ⟨x, hx⟩ := h11
  exact ⟨x, by rw [hy, hx]; grind⟩
theorem mlcm_eq {k : Nat} {s q : Int} (hs : 0 < s) (hs' : s ≤ 9223372036854775807) (hq : 0 < q) (hq' : q ≤ 9223372036854775807) (hk : 5 ≤ k) :
  safeint_Lcm.f k s q = some (if Int.tdiv s (Int.gcd s q : Int) * q ≤ 9223372036854775807 then (Int.tdiv s (Int.gcd s q : Int) * q, true) else (0, false)) := by
 obtain ⟨k, rfl⟩ : ∃ m, k = m + 2 := ⟨k - 2, by omega⟩
 have hsz : ∀ {x : Int}, 0 < x → x ≤ 9223372036854775807 → safeint_size.f x = some x := by
  intro x h1 h2
  unfold safeint_size.f
  rw [if_neg (by omega), wrap_u64_id _ (by omega) (by omega)]
 unfold safeint_Lcm.f
 rw [if_neg (by omega), safeint_Lcm.j0, if_neg (by simp; omega), hsz hs hs', hsz hq hq']
 simp only [Option.bind_some]
 unfold safeint_common.f
 rw [if_pos ⟨by omega, by omega⟩]
 simp only [Option.bind_some]
 have h1 : 0 < Int.gcd s q := Int.gcd_pos_of_ne_zero_left q (by omega)
 obtain ⟨g, hg⟩ : ∃ g : Int, g = (Int.gcd s q : Int) := ⟨_, rfl⟩
 have hg0 : 0 < g := by omega
 have e1 : s = g * Int.tdiv s g := (Int.mul_tdiv_cancel' (hg ▸ Int.gcd_dvd_left ..)).symm
 have t1 := tdiv_abs s g
 have ha : 0 < Int.tdiv s g := pos_of_mul hg0 (by rw [← e1]; exact hs)
 rw [← hg, if_neg (by omega)]
 obtain ⟨a, hae⟩ : ∃ a, a = Int.tdiv s g := ⟨_, rfl⟩
 rw [← hae] at ha t1 ⊢
 rw [wrap_u64_id _ (by omega) (by omega)]
 unfold safeint_times.f
 rw [if_pos ⟨by omega, by omega, by omega, by omega⟩]
 simp only [Option.bind_some]
 have hp := Int.mul_pos ha hq
 generalize a * q = L at *
 by_cases c : L ≤ 9223372036854775807
 ·
  rw [if_pos (by omega), if_pos c]
  have h2 := safeint_Mul.signed (L % 18446744073709551616) false (by omega) (by omega)
  rw [if_neg (by decide), if_pos (by omega)] at h2
  have h3 := LeO.up (f := fun k => safeint_signed.f k (L % 18446744073709551616) false) (fun k => safeint_signed.mono _ _ k) h2 (k + 1) (by omega)
  have h3 : safeint_signed.f (k + 1) (L % 18446744073709551616) false = some (L % 18446744073709551616, true) := h3
  rw [h3]
  simp only [Option.bind_some]
  rw [show L % 18446744073709551616 = L by omega]
 ·
  rw [if_neg c]
  by_cases c2 : L / 18446744073709551616 = 0
  ·
   rw [if_pos c2]
   have h2 := safeint_Mul.signed (L % 18446744073709551616) false (by omega) (by omega)
   rw [if_neg (by decide), if_neg (by omega)] at h2
   have h3 := LeO.up (f := fun k => safeint_signed.f k (L % 18446744073709551616) false) (fun k => safeint_signed.mono _ _ k) h2 (k + 1) (by omega)
   have h3 : safeint_signed.f (k + 1) (L % 18446744073709551616) false = some (0, false) := h3
   rw [h3]
   rfl
  ·
   rw [if_neg c2]
end Go.Proofs.Ytckefohfahphpaa.Z
end
section
namespace Go.Proofs.Ytckefohfahphpaa.Z
open Go.RowKit Go.Proofs.YtckefohfahphpaaW.PrintWords Go.Proofs.YtckefohfahphpaaW.PrintLast Go.Proofs.YtckefohfahphpaaW.PrintMore
set_option linter.unusedVariables false
set_option linter.unusedSimpArgs false
/-- Every fraction of column f over a pivot becomes whole with t. -/
def DD (E : List (List Int)) (p : Nat → Nat) (f : Nat) (t : Int) : Prop := ∀ j, j < E.length → rowsV E j (p j) ∣ rowsV E j f * t
/-- The kernel's vector for the free column f. -/
structure KerV (E : List (List Int)) (p : Nat → Nat) (n f : Nat) (K : List Int) : Prop where
 ok : okr n K
 ps : 0 < vec K f
 dd : DD E p f (vec K f)
 le : ∀ t, DD E p f t → vec K f ∣ t
 pv : ∀ j, j < E.length → rowsV E j (p j) * vec K (p j) = -(rowsV E j f * vec K f)
 zr : ∀ x, x ≠ f → (∀ j, j < E.length → p j ≠ x) → vec K x = 0
theorem KerV.uniq {E : List (List Int)} {p : Nat → Nat} {n f : Nat} {K K' : List Int} (h : KerV E p n f K) (h' : KerV E p n f K') (hE : ∀ j, j < E.length → rowsV E j (p j) ≠ 0) : K = K' := by
 have hs : vec K f = vec K' f := Int.dvd_antisymm (by have := h.ps; omega) (by have := h'.ps; omega) (h.le _ h'.dd) (h'.le _ h.dd)
 apply vec_ext (by rw [h.ok.1, h'.ok.1])
 funext x
 by_cases hx : x = f
 ·
  rw [hx]; exact hs
 ·
  by_cases hp : ∃ j, j < E.length ∧ p j = x
  ·
   obtain ⟨j, hj, rfl⟩ := hp
   have h1 := h.pv j hj
   have h2 := h'.pv j hj
   rw [hs] at h1
   exact Int.eq_of_mul_eq_mul_left (hE j hj) (by rw [h1, h2])
  ·
   rw [h.zr x hx fun j hj e => hp ⟨j, hj, e⟩, h'.zr x hx fun j hj e => hp ⟨j, hj, e⟩]
/-- A vector that solves the rows and has no smaller one is a primitive row's. -/
theorem KerV.prim {E : List (List Int)} {p : Nat → Nat} {n f : Nat} {K s : List Int} {g : Int} (h : KerV E p n f K) (hs : okr n s) (hg : 0 < g) (e : ∀ x, vec K x = g * vec s x) : s = K := by
 have h1 : vec K f ∣ vec s f := h.le _ fun j hj => by
  have h2 := h.pv j hj
  rw [e, e (f)] at h2
  refine ⟨-vec s (p j), ?_⟩
  have : g * (rowsV E j f * vec s f) = g * (rowsV E j (p j) * -vec s (p j)) := by grind
  exact Int.eq_of_mul_eq_mul_left (by omega) this
 have h2 := e f
 have hp := h.ps
 have hsp : 0 < vec s f := pos_of_mul hg (by rw [← h2]; exact hp)
 have h3 := Int.le_of_dvd hsp h1
 have h4 : g = 1 := by
  apply Classical.byContradiction
  intro hne
  have h5 : 0 < (g - 1) * vec s f := Int.mul_pos (by omega) hsp
  rw [Int.sub_mul] at h5
  omega
 apply vec_ext (by rw [hs.1, h.ok.1])
 funext x
 rw [e x, h4, Int.one_mul]
theorem solscale_spec {K n f : Nat} {E : List (List Int)} {cols : List Int} {p : Nat → Nat} (hK : 200 ≤ K) (hE : ∀ j : Nat, j < E.length → okr n (rd_L1 E (j : Int))) (hcl : cols.length = E.length) (hc : ∀ j : Nat, j < E.length → rd cols (j : Int) = (p j : Int)) (hpn : ∀ j, j < E.length → p j < n) (hf : f < n) (hpos : ∀ j, j < E.length → 0 < rowsV E j (p j)) :
  ∀ (d i : Nat) (s : Int), i + d = E.length → 0 < s → s ≤ 9223372036854775807 →
  (∃ s', sol_scale K E f (cols.drop i) i s = some (some s') ∧ 0 < s' ∧ s' ≤ 9223372036854775807 ∧ s ∣ s' ∧ (∀ j, i ≤ j → j < E.length → rowsV E j (p j) ∣ rowsV E j f * s') ∧ ∀ t, s ∣ t → (∀ j, i ≤ j → j < E.length → rowsV E j (p j) ∣ rowsV E j f * t) → s' ∣ t) ∨
  (sol_scale K E f (cols.drop i) i s = some none ∧ ∀ D : Int, 0 < D → s ∣ D → (∀ j, i ≤ j → j < E.length → rowsV E j (p j) ∣ rowsV E j f * D) → 9223372036854775807 < D) := by
 intro d
 induction d with
 | zero =>
  intro i s hi hs hs'
  left
  rw [List.drop_of_length_le (by omega)]
  exact ⟨s, rfl, hs, hs', ⟨1, by simp⟩, fun j h1 h2 => by omega, fun t ht _ => ht⟩
 | succ d ih =>
  intro i s hi hs hs'
  have hiE : i < E.length := by omega
  have hr := hE i hiE
  have hrl := hr.1
  have hpi := hpn i hiE
  rw [drop_rd1 (by omega), hc i hiE, sol_scale, if_pos ⟨hiE, by omega, by omega, by omega, by omega⟩, rd_vec, rd_vec]
  have hP : 0 < vec (rd_L1 E (i : Int)) (p i) := hpos i hiE
  obtain ⟨b1, b2⟩ := okr_in hr (p i)
  obtain ⟨b3, b4⟩ := okr_in hr f
  obtain ⟨P, hPe⟩ : ∃ P, P = vec (rd_L1 E (i : Int)) (p i) := ⟨_, rfl⟩
  obtain ⟨F, hFe⟩ : ∃ F, F = vec (rd_L1 E (i : Int)) f := ⟨_, rfl⟩
  have eP : rowsV E i (p i) = P := hPe.symm
  have eF : rowsV E i f = F := hFe.symm
  rw [← hPe] at b1 b2 hP ⊢
  rw [← hFe] at b3 b4 ⊢
  obtain ⟨g, q, m, h1, h2, h3, h4, h5, h6, h7, h8, h9, h10⟩ := quo_gcd (P := P) (F := F) hP
  have hgP : g ≤ P := Int.le_of_dvd hP ⟨q, h5⟩
  unfold safeint_Gcd.f
  rw [if_pos ⟨⟨b1, b2⟩, b3, b4⟩, ← h1, if_pos (by omega)]
  simp only [Option.bind_some, if_true]
  rw [if_neg (by omega), ← h3, wrap64_id ⟨by omega, by omega⟩, mlcm_eq hs hs' h7 (by omega) (by omega)]
  obtain ⟨L, e1, e2, e3, e4, e5, e6⟩ := lcm_props hs h7
  rw [← e1]
  simp only [Option.bind_some]
  by_cases hL : L ≤ 9223372036854775807
  ·
   rw [if_pos hL, if_pos rfl]
   rcases ih (i + 1) L (by omega) e3 hL with ⟨s', r1, r2, r3, r4, r5, r6⟩ | ⟨r1, r2⟩
   ·
    refine .inl ⟨s', r1, r2, r3, Int.dvd_trans e4 r4, fun j h11 h12 => ?_, fun t h11 h12 => r6 t (e6 t h11 ?_) fun j h13 h14 => h12 j (by omega) h14⟩
    ·
     by_cases e : j = i
     ·
      rw [e, eP, eF]
      exact (h10 s').mp (Int.dvd_trans e5 r4)
     ·
      exact r5 j (by omega) h12
    ·
     have := h12 i (by omega) hiE
     rw [eP, eF] at this
     exact (h10 t).mpr this
   ·
    refine .inr ⟨r1, fun D h11 h12 h13 => r2 D h11 (e6 D h12 ?_) fun j h14 h15 => h13 j (by omega) h15⟩
    have := h13 i (by omega) hiE
    rw [eP, eF] at this
    exact (h10 D).mpr this
  ·
   rw [if_neg hL, if_neg (by decide)]
   refine .inr ⟨rfl, fun D h11 h12 h13 => ?_⟩
   have := h13 i (by omega) hiE
   rw [eP, eF] at this
   have := Int.le_of_dvd h11 (e6 D h12 ((h10 D).mpr this))
   omega
theorem vec_set {l : List Int} {i : Nat} {v : Int} (h : i < l.length) (x : Nat) : vec (l.set i v) x = if x = i then v else vec l x := by
 by_cases hx : x < l.length
 ·
  rw [vec_get (by simpa using hx), vec_get hx, List.getElem_set]
  by_cases e : i = x
  ·
   rw [if_pos e, if_pos e.symm]
  ·
   rw [if_neg e, if_neg fun h => e h.symm]
 ·
  rw [vec_out (by simp; omega), vec_out (by omega), if_neg (by omega)]
/-- The value at the pivot of a row, for the free column f and the scale s: both texts reckon it so. -/
theorem fill_val {P F s : Int} (hP : 0 < P) (hs : 0 < s) (hd : P ∣ F * s) : ∃ g q m w : Int, g = (Int.gcd P F : Int) ∧ 0 < g ∧ g ≤ P ∧ q = Int.tdiv P g ∧ m = Int.tdiv F g ∧ 0 < q ∧ q ≤ P ∧ m.natAbs ≤ F.natAbs ∧ w = Int.tdiv s q ∧ 0 < w ∧ w ≤ s ∧ P * (-m * w) = -(F * s) := by
 obtain ⟨g, q, m, h1, h2, h3, h4, h5, h6, h7, h8, h9, h10⟩ := quo_gcd (P := P) (F := F) hP
 have hq := (h10 s).mpr hd
 have e1 : q * Int.tdiv s q = s := Int.mul_tdiv_cancel' hq
 have hw : 0 < Int.tdiv s q := pos_of_mul h7 (by rw [e1]; exact hs)
 have t1 := tdiv_abs s q
 refine ⟨g, q, m, Int.tdiv s q, h1, h2, Int.le_of_dvd hP ⟨q, h5⟩, h3, h4, h7, h8, h9, rfl, hw, by omega, ?_⟩
 generalize Int.tdiv s q = w at *
 rw [h5, h6, ← e1]
 grind
theorem solfill_spec {n f : Nat} {E : List (List Int)} {cols : List Int} {p : Nat → Nat} {s : Int} (hE : ∀ j : Nat, j < E.length → nlr n (rd_L1 E (j : Int))) (hcl : cols.length = E.length) (hc : ∀ j : Nat, j < E.length → rd cols (j : Int) = (p j : Int)) (hpn : ∀ j, j < E.length → p j < n) (hf : f < n) (hpos : ∀ j, j < E.length → 0 < rowsV E j (p j))
  (hinj : ∀ i j, i < j → j < E.length → p i < p j) (hs : 0 < s) (hs' : s ≤ 9223372036854775807) (hdd : DD E p f s) :
  ∀ (d i : Nat) (out : List Int), i + d = E.length → okr n out →
  (∃ out', sol_fill E f s (cols.drop i) i out = some (some out') ∧ okr n out' ∧ (∀ x, (∀ j, i ≤ j → j < E.length → p j ≠ x) → vec out' x = vec out x) ∧ ∀ j, i ≤ j → j < E.length → rowsV E j (p j) * vec out' (p j) = -(rowsV E j f * s)) ∨
  (sol_fill E f s (cols.drop i) i out = some none ∧ ∃ j, j < E.length ∧ ∃ m w : Int, m.natAbs ≤ (rowsV E j f).natAbs ∧ 0 < w ∧ w ≤ s ∧ ¬ in64 (-m * w)) := by
 intro d
 induction d with
 | zero =>
  intro i out hi ho
  left
  rw [List.drop_of_length_le (by omega)]
  exact ⟨out, rfl, ho, fun _ _ => rfl, fun j h1 h2 => by omega⟩
 | succ d ih =>
  intro i out hi ho
  have hiE : i < E.length := by omega
  have hr := hE i hiE
  have hrl := hr.1
  have hol := ho.1
  have hpi := hpn i hiE
  rw [drop_rd1 (by omega), hc i hiE, sol_fill, if_pos ⟨hiE, by omega, by omega, by omega, by omega, by omega⟩, rd_vec, rd_vec]
  have hP : 0 < vec (rd_L1 E (i : Int)) (p i) := hpos i hiE
  have hd := hdd i hiE
  obtain ⟨b1, b2⟩ := nlr_in hr (p i)
  obtain ⟨b3, b4⟩ := nlr_in hr f
  obtain ⟨P, hPe⟩ : ∃ P, P = vec (rd_L1 E (i : Int)) (p i) := ⟨_, rfl⟩
  obtain ⟨F, hFe⟩ : ∃ F, F = vec (rd_L1 E (i : Int)) f := ⟨_, rfl⟩
  have eP : rowsV E i (p i) = P := hPe.symm
  have eF : rowsV E i f = F := hFe.symm
  rw [eP, eF] at hd
  rw [← hPe] at b1 b2 hP ⊢
  rw [← hFe] at b3 b4 ⊢
  obtain ⟨g, q, m, w, h1, h2, h3, h4, h5, h6, h7, h8, h9, h10, h11, h12⟩ := fill_val hP hs hd
  unfold safeint_Gcd.f
  rw [if_pos ⟨⟨by omega, b2⟩, by omega, b4⟩, ← h1, if_pos (by omega)]
  simp only [Option.bind_some]
  rw [if_neg (by omega), ← h4, wrap64_id ⟨by omega, by omega⟩, if_neg (by omega), ← h5, ← h9, wrap64_id (n := m) ⟨by omega, by omega⟩, wrap64_id (n := w) ⟨by omega, by omega⟩]
  rw [wrap64_id (n := -m) ⟨by omega, by omega⟩, mul_eq ⟨by omega, by omega⟩ ⟨by omega, by omega⟩]
  simp only [Option.bind_some]
  by_cases hin : in64 (-m * w)
  ·
   rw [chk_ok hin, if_pos rfl]
   have hset : ∀ x, vec (out.set (p i : Int).toNat (-m * w)) x = if x = p i then -m * w else vec out x := fun x => by
    rw [show ((p i : Int)).toNat = p i by omega]
    exact vec_set (by omega) x
   have hok : okr n (out.set (p i : Int).toNat (-m * w)) := ⟨by simp; omega, fun z hz => by
    rcases List.mem_or_eq_of_mem_set hz with h | h
    ·
     exact ho.2 z h
    ·
     rw [h]; exact hin⟩
   rcases ih (i + 1) _ (by omega) hok with ⟨out', r1, r2, r3, r4⟩ | h
   ·
    refine .inl ⟨out', r1, r2, fun x hx => ?_, fun j h13 h14 => ?_⟩
    ·
     rw [r3 x (fun j h13 h14 => hx j (by omega) h14), hset, if_neg fun e => hx i (by omega) hiE e.symm]
    ·
     by_cases e : j = i
     ·
      subst e
      rw [r3 _ (fun j' h15 h16 => by have := hinj j j' (by omega) h16; omega), hset, if_pos rfl, eP, eF]
      exact h12
     ·
      exact r4 j (by omega) h14
   ·
    exact .inr h
  ·
   rw [chk_no hin, if_neg (by decide)]
   exact .inr ⟨rfl, i, hiE, m, w, by rw [eF]; exact h8, h10, h11, hin⟩
end Go.Proofs.Ytckefohfahphpaa.Z
end
section
namespace Go.Proofs.Ytckefohfahphpaa.Z
open Go.RowKit Go.Proofs.YtckefohfahphpaaW.PrintWords Go.Proofs.YtckefohfahphpaaW.PrintLast Go.Proofs.YtckefohfahphpaaW.PrintMore
set_option linter.unusedVariables false
set_option linter.unusedSimpArgs false
/-! Uses Outc.len, Fnl.inc. -/
theorem cram.pos {E : List (List Int)} {p : Nat → Nat} (h : cram E p) : ∃ D : Int, 0 < D ∧ D ≤ (hb 8 : Int) ∧ ∀ j, j < E.length → ∀ x, rowsV E j (p j) ∣ rowsV E j x * D := by
 obtain ⟨_, D, h1, h2, h3⟩ := h
 refine ⟨(D.natAbs : Int), by omega, by omega, fun j hj x => ?_⟩
 have h4 := h3 j hj x
 rw [Int.mul_comm] at h4
 rcases Int.natAbs_eq D with e | e
 ·
  rw [← e]; exact h4
 ·
  have e2 : (D.natAbs : Int) = -D := by omega
  rw [e2, Int.mul_neg]
  exact Int.dvd_neg.mpr h4
theorem small_mul {a b : Int} (h1 : a.natAbs ≤ hb 8) (h2 : b.natAbs ≤ hb 8) : (a * b).natAbs ≤ 100000000000000000 := by
 rw [Int.natAbs_mul]
 refine Nat.le_trans (Nat.mul_le_mul h1 h2) ?_
 rw [hb8]
 decide
/-- What both texts' vectors have, ahead of the last step. -/
theorem KerV.mk' {E : List (List Int)} {p : Nat → Nat} {n f : Nat} {s : Int} {out : List Int} (ho : okr n out) (hs : 0 < s) (hdd : DD E p f s) (hle : ∀ t, DD E p f t → s ∣ t) (hf : ∀ j, j < E.length → p j ≠ f)
  (h1 : ∀ x, (∀ j, j < E.length → p j ≠ x) → vec out x = if x = f then s else 0) (h2 : ∀ j, j < E.length → rowsV E j (p j) * vec out (p j) = -(rowsV E j f * s)) : KerV E p n f out := by
 have hv : vec out f = s := by rw [h1 f hf, if_pos rfl]
 exact ⟨ho, by rw [hv]; exact hs, by rw [hv]; exact hdd, fun t ht => by rw [hv]; exact hle t ht, fun j hj => by rw [hv]; exact h2 j hj, fun x hx hp => by rw [h1 x hp, if_neg hx]⟩
theorem start_vec {n f : Nat} (hf : f < n) (s : Int) (x : Nat) : vec ((List.replicate n (0 : Int)).set f s) x = if x = f then s else 0 := by
 rw [vec_set (by simpa using hf)]
 split
 ·
  rfl
 ·
  by_cases hx : x < n
  ·
   rw [vec_get (by simpa using hx)]; simp
  ·
   rw [vec_out (by simp; omega)]
theorem start_ok {n f : Nat} {s : Int} (h1 : 0 < s) (h2 : s ≤ 9223372036854775807) : okr n ((List.replicate n (0 : Int)).set f s) := ⟨by simp, fun z hz => by
 rcases List.mem_or_eq_of_mem_set hz with h | h
 ·
  rw [(List.mem_replicate.mp h).2]; constructor <;> omega
 ·
  rw [h]; constructor <;> omega⟩
theorem sol_spec {K n f : Nat} {a E : List (List Int)} {cols : List Int} {p : Nat → Nat} (hK : 200 ≤ K) (hn : n ≤ 64) (hO : Outc a n E p) (hcl : cols.length = E.length) (hc : ∀ j : Nat, j < E.length → rd cols (j : Int) = (p j : Int)) (hf : f < n) (hfp : ∀ j, j < E.length → p j ≠ f) :
  (∃ v, table_solution.f K E cols f n = some (v, 0) ∧ KerV E p n f v) ∨ (∃ v, table_solution.f K E cols f n = some (v, 3) ∧ ¬ cram E p) := by
 have hlen := hO.len
 have hrow : ∀ j : Nat, j < E.length → nlr n (rd_L1 E (j : Int)) := fun j hj => hO.ok _ (rdL_mem (by omega) (by omega))
 have hpos : ∀ j, j < E.length → 0 < rowsV E j (p j) := fun j hj => (hO.fn.pr j hj).2
 unfold table_solution.f
 rw [if_pos ⟨by omega, by omega, by omega, by omega⟩]
 rcases solscale_spec (f := f) hK (fun j hj => (hrow j hj).okr) hcl hc hO.pn hf hpos E.length 0 1 (by omega) (by omega) (by omega) with ⟨s, r1, r2, r3, _, r5, r6⟩ | ⟨r1, r2⟩
 ·
  rw [List.drop_zero] at r1
  have r1' : sol_scale K E f cols 0 1 = some (some s) := r1
  rw [r1']
  simp only [Option.bind_some]
  have hdd : DD E p f s := fun j hj => r5 j (by omega) hj
  have hle : ∀ t, DD E p f t → s ∣ t := fun t ht => r6 t ⟨t, by simp⟩ fun j _ hj => ht j hj
  have hsD : cram E p → s ≤ (hb 8 : Int) := fun hcr => by
   obtain ⟨D, d1, d2, d3⟩ := hcr.pos
   have := Int.le_of_dvd d1 (hle D fun j hj => d3 j hj f)
   omega
  rw [show ((n : Int)).toNat = n by omega, show ((f : Int)).toNat = f by omega]
  rcases solfill_spec (f := f) hrow hcl hc hO.pn hf hpos (fun i j h1 h2 => hO.fn.inc h1 h2) r2 r3 hdd E.length 0 _ (by omega) (start_ok (n := n) (f := f) r2 r3) with ⟨o, q1, q2, q3, q4⟩ | ⟨q1, j, hj, m, w, q2, q3, q4, q5⟩
  ·
   rw [List.drop_zero] at q1
   have q1' : sol_fill E f s cols 0 ((List.replicate n 0).set f s) = some (some o) := q1
   rw [q1']
   simp only [Option.bind_some]
   have hol := q2.1
   have hk : KerV E p n f o := KerV.mk' q2 r2 hdd hle hfp (fun x hx => by rw [q3 x (fun j _ hj => hx j hj)]; exact start_vec hf s x) fun j hj => q4 j (by omega) hj
   rw [vprim_eq q2.2 (by omega) K (by omega)]
   rcases prim_spec q2 with ⟨h1, h2⟩ | ⟨v, h1, h2, h3, g, h4, h5, h6⟩
   ·
    right
    rw [h1]
    refine ⟨[], rfl, fun hcr => ?_⟩
    have hlm : least ∈ o := by
     apply Classical.byContradiction
     intro h
     unfold primG at h1
     rw [if_neg h] at h1
     simp at h1
    obtain ⟨x, _, hx⟩ := mem_vec hlm
    have hs8 := hsD hcr
    have h8 := hb8
    by_cases hxp : ∃ j, j < E.length ∧ p j = x
    ·
     obtain ⟨j, hj, rfl⟩ := hxp
     have h9 := q4 j (by omega) hj
     have h10 := hpos j hj
     have h11 := small_mul (a := rowsV E j f) (b := s) (hcr.1 j hj f) (by omega)
     rw [hx] at h9
     have h12 : (rowsV E j (p j) * least).natAbs = (rowsV E j (p j)).natAbs * 9223372036854775808 := by rw [Int.natAbs_mul]; rfl
     rw [h9, Int.natAbs_neg] at h12
     have h13 : 1 * 9223372036854775808 ≤ (rowsV E j (p j)).natAbs * 9223372036854775808 := Nat.mul_le_mul_right _ (by omega)
     omega
    ·
     rw [q3 x (fun j _ hj e => hxp ⟨j, hj, e⟩), start_vec hf] at hx
     unfold least at hx
     split at hx <;> omega
   ·
    left
    rw [h1]
    exact ⟨v, rfl, hk.prim h2 h4 h5 ▸ hk⟩
  ·
   rw [List.drop_zero] at q1
   have q1' : sol_fill E f s cols 0 ((List.replicate n 0).set f s) = some none := q1
   rw [q1']
   refine .inr ⟨[], rfl, fun hcr => q5 ?_⟩
   have hs8 := hsD hcr
   have h11 := small_mul (a := -m) (b := w) (by rw [Int.natAbs_neg]; exact Nat.le_trans q2 (hcr.1 j hj f)) (by omega)
   constructor <;> omega
 ·
  rw [List.drop_zero] at r1
  have r1' : sol_scale K E f cols 0 1 = some none := r1
  rw [r1']
  refine .inr ⟨[], rfl, fun hcr => ?_⟩
  obtain ⟨D, d1, d2, d3⟩ := hcr.pos
  have h1 := r2 D d1 ⟨D, by simp⟩ fun j _ hj => d3 j hj f
  have h8 := hb8
  omega
/-- The list of the kernel's vectors from column f on. -/
inductive KL (E : List (List Int)) (p : Nat → Nat) (n : Nat) : Nat → List (List Int) → Prop
 | done : KL E p n n []
 | skip {f : Nat} {l : List (List Int)} : f < n → (∃ j, j < E.length ∧ p j = f) → KL E p n (f + 1) l → KL E p n f l
 | take {f : Nat} {v : List Int} {l : List (List Int)} : f < n → (∀ j, j < E.length → p j ≠ f) → KerV E p n f v → KL E p n (f + 1) l → KL E p n f (v :: l)
theorem KL.uniq {E : List (List Int)} {p : Nat → Nat} {n : Nat} (hE : ∀ j, j < E.length → rowsV E j (p j) ≠ 0) {f : Nat} {l : List (List Int)} (h : KL E p n f l) : ∀ {l' : List (List Int)}, KL E p n f l' → l = l' := by
 induction h with
 | done => intro l' h'; cases h' with
  | done => rfl
  | skip h => omega
  | take h => omega
 | skip h1 h2 _ ih => intro l' h'; cases h' with
  | done => omega
  | skip _ _ h3 => exact ih h3
  | take _ h3 =>
   obtain ⟨j, hj, e⟩ := h2
   exact absurd e (h3 j hj)
 | take h1 h2 h3 _ ih => intro l' h'; cases h' with
  | done => omega
  | skip _ h4 =>
   obtain ⟨j, hj, e⟩ := h4
   exact absurd e (h2 j hj)
  | take _ _ h4 h5 => rw [h3.uniq h4 hE, ih h5]
theorem kern_spec {K n : Nat} {a E : List (List Int)} {cols : List Int} {p : Nat → Nat} (hK : 200 ≤ K) (hn : n ≤ 64) (hO : Outc a n E p) (hcl : cols.length = E.length) (hc : ∀ j : Nat, j < E.length → rd cols (j : Int) = (p j : Int)) : ∀ (d f nx : Nat) (out : List (List Int)), f + d = n → nx ≤ E.length → (∀ j, j < nx → p j < f) → (∀ j, nx ≤ j → j < E.length → f ≤ p j) →
  (∃ l, kern_go K E cols n d f nx out = some (out ++ l, 0) ∧ KL E p n f l) ∨ (kern_go K E cols n d f nx out = some ([], 3) ∧ ¬ cram E p) := by
 intro d
 induction d with
 | zero =>
  intro f nx out hf h1 h2 h3
  left
  have : f = n := by omega
  subst this
  exact ⟨[], by simp [kern_go], .done⟩
 | succ d ih =>
  intro f nx out hf h1 h2 h3
  rw [kern_go]
  by_cases hp : nx < cols.length ∧ rd cols (nx : Int) = (f : Int)
  ·
   rw [if_pos hp]
   have hpf : p nx = f := by have := hc nx (by omega); omega
   rcases ih (f + 1) (nx + 1) out (by omega) (by omega) (fun j hj => by
    by_cases e : j = nx
    ·
     rw [e]; omega
    ·
     have := h2 j (by omega); omega) (fun j h4 h5 => by
    have := hO.fn.inc (show nx < j by omega) h5
    omega) with ⟨l, r1, r2⟩ | h
   ·
    exact .inl ⟨l, r1, .skip (by omega) ⟨nx, by omega, hpf⟩ r2⟩
   ·
    exact .inr h
  ·
   rw [if_neg hp]
   have hfp : ∀ j, j < E.length → p j ≠ f := fun j hj e => by
    rcases Nat.lt_trichotomy j nx with h | h | h
    ·
     have := h2 j h; omega
    ·
     subst h
     exact hp ⟨by omega, by rw [hc j hj, e]⟩
    ·
     have h4 := hO.fn.inc h hj
     have h5 := h3 nx (by omega) (by omega)
     omega
   rcases sol_spec hK hn hO hcl hc (show f < n by omega) hfp with ⟨v, r1, r2⟩ | ⟨v, r1, r2⟩
   ·
    rw [r1]
    simp only [Option.bind_some, if_true]
    rcases ih (f + 1) nx (out ++ [v]) (by omega) h1 (fun j hj => by have := h2 j hj; omega) (fun j h4 h5 => by
     have := h3 j h4 h5
     have := hfp j h5
     omega) with ⟨l, q1, q2⟩ | h
    ·
     exact .inl ⟨v :: l, by rw [q1]; simp, .take (by omega) hfp r2 q2⟩
    ·
     exact .inr h
   ·
    rw [r1]
    simp only [Option.bind_some]
    rw [if_neg (by decide)]
    exact .inr ⟨rfl, r2⟩
theorem mkern_spec {K : Nat} {a : List (List Int)} (hK : 300 ≤ K) (hv : validB a = true) (ha : ∀ r ∈ a, ok64 r) :
  (∃ E cols p l, matrix_Kernel.f K a = some (l, 0) ∧ matrix_reduce.f K a = some ((E, cols), 0) ∧ Outc a (rd_L1 a 0).length E p ∧ cols.length = E.length ∧ KL E p (rd_L1 a 0).length 0 l) ∨ (matrix_Kernel.f K a = some ([], 3) ∧ ¬ tiny a a.length) := by
 obtain ⟨n, h1, h2, h3, h4, h5, h6⟩ := validB_iff.mp hv
 unfold matrix_Kernel.f
 rw [mvalid_eq a K (by omega), h6]
 simp only [Option.bind_some]
 rw [if_pos hv]
 rcases reduce_spec (K := K) (by omega) hv ha with ⟨E, cols, p, r1, r2, r3, r4, r5⟩ | ⟨r1, r2⟩
 ·
  rw [h6] at r2
  rw [r1]
  simp only [Option.bind_some, if_true]
  rcases kern_spec (K := K) (by omega) h4 r2 r3 r4 n 0 0 [] (by omega) (by omega) (fun j h => by omega) (fun j _ _ => by omega) with ⟨l, q1, q2⟩ | ⟨q1, q2⟩
  ·
   exact .inl ⟨E, cols, p, l, by rw [q1]; rfl, rfl, r2, r3, q2⟩
  ·
   exact .inr ⟨q1, fun ht => q2 (r5 ht)⟩
 ·
  rw [r1]
  simp only [Option.bind_some]
  rw [if_neg (by decide)]
  exact .inr ⟨rfl, r2⟩
end Go.Proofs.Ytckefohfahphpaa.Z
end
section
namespace Go.Proofs.Ytckefohfahphpaa.Z
open Go.RowKit Go.Proofs.YtckefohfahphpaaW.PrintWords Go.Proofs.YtckefohfahphpaaW.PrintLast Go.Proofs.YtckefohfahphpaaW.PrintMore
set_option linter.unusedVariables false
set_option linter.unusedSimpArgs false
/-! Uses Outc.same. -/
theorem KL.congr {E : List (List Int)} {p q : Nat → Nat} {n : Nat} (hpq : ∀ j, j < E.length → p j = q j) {f : Nat} {l : List (List Int)} (h : KL E q n f l) : KL E p n f l := by
 induction h with
 | done => exact .done
 | skip h1 h2 _ ih =>
  obtain ⟨j, hj, e⟩ := h2
  exact .skip h1 ⟨j, hj, by rw [hpq j hj, e]⟩ ih
 | take h1 h2 h3 _ ih =>
  refine .take h1 (fun j hj => by rw [hpq j hj]; exact h2 j hj) ?_ ih
  rename_i f' v' l' _
  have hd : ∀ t, DD E p f' t ↔ DD E q f' t := fun t => ⟨fun h j hj => by rw [← hpq j hj]; exact h j hj, fun h j hj => by rw [hpq j hj]; exact h j hj⟩
  exact ⟨h3.ok, h3.ps, (hd _).mpr h3.dd, fun t ht => h3.le t ((hd t).mp ht), fun j hj => by rw [hpq j hj]; exact h3.pv j hj, fun x hx hp => h3.zr x hx fun j hj => by rw [← hpq j hj]; exact hp j hj⟩
theorem KL.size {E : List (List Int)} {p : Nat → Nat} {n f : Nat} {l : List (List Int)} (h : KL E p n f l) : l.length + f ≤ n ∧ ∀ v ∈ l, ∃ g, g < n ∧ (∀ j, j < E.length → p j ≠ g) ∧ KerV E p n g v := by
 induction h with
 | done => exact ⟨by simp, fun v hv => by simp at hv⟩
 | skip h1 _ _ ih => exact ⟨by have := ih.1; omega, ih.2⟩
 | take h1 h2 h3 _ ih =>
  refine ⟨by have := ih.1; simp; omega, fun v hv => ?_⟩
  rcases List.mem_cons.mp hv with rfl | hv
  ·
   exact ⟨_, h1, h2, h3⟩
  ·
   exact ih.2 v hv
theorem KL.same {a E F : List (List Int)} {p q : Nat → Nat} {n : Nat} (hE : Outc a n E p) (hF : Outc a n F q) {l l' : List (List Int)} (h : KL E p n 0 l) (h' : KL F q n 0 l') : l = l' := by
 have e := hE.same hF
 subst e
 obtain ⟨_, h2⟩ := hE.fn.uniq hF.fn (fun v hv => .mem hv) (fun v hv => .mem hv)
 exact h.uniq (fun j hj => by have := (hE.fn.pr j hj).2; omega) (h'.congr fun j hj => (h2 j hj).1)
end Go.Proofs.Ytckefohfahphpaa.Z
end
section
namespace Go.Proofs.Ytckefohfahphpaa.Z
open Go.RowKit Go.Proofs.YtckefohfahphpaaW.PrintWords Go.Proofs.YtckefohfahphpaaW.PrintLast Go.Proofs.YtckefohfahphpaaW.PrintMore
set_option linter.unusedVariables false
set_option linter.unusedSimpArgs false
theorem Sp.split {b : Vc} {B : List Vc} {v : Vc} (h : Sp (b :: B) v) : ∃ d c : Int, d ≠ 0 ∧ Sp B fun x => d * v x - c * b x := by
 induction h with
 | mem ha =>
  rcases List.mem_cons.mp ha with rfl | ha
  ·
   exact ⟨1, 1, by decide, Sp.zero.eq fun x => by simp⟩
  ·
   exact ⟨1, 0, by decide, (Sp.mem ha).eq fun x => by simp⟩
 | zero => exact ⟨1, 0, by decide, Sp.zero.eq fun x => by simp⟩
 | comb c1 c2 _ _ i j =>
  obtain ⟨du, cu, hu, iu⟩ := i
  obtain ⟨dv, cv, hv, iv⟩ := j
  exact ⟨du * dv, c1 * dv * cu + c2 * du * cv, Int.mul_ne_zero hu hv, (Sp.comb (c1 * dv) (c2 * du) iu iv).eq fun x => by grind⟩
 | div c hc _ i =>
  obtain ⟨d, c0, hd, i⟩ := i
  exact ⟨d * c, c0, Int.mul_ne_zero hd hc, i.eq fun x => by grind⟩
/-- As many rows with pivots as there are spanning vectors, and no more. -/
theorem stein : ∀ (B : List Vc) (k : Nat) (T : Nat → Vc) (q : Nat → Nat), (∀ i, i < k → T i (q i) ≠ 0) → (∀ i, i < k → ∀ j, j < k → i ≠ j → T i (q j) = 0) → (∀ i, i < k → Sp B (T i)) → k ≤ B.length := by
 intro B
 induction B with
 | nil =>
  intro k T q h1 _ h3
  apply Classical.byContradiction
  intro hk
  exact h1 0 (by simp at hk; omega) ((h3 0 (by simp at hk; omega)).at fun a ha => by simp at ha)
 | cons b B ih =>
  intro k T q h1 h2 h3
  have hex : ∀ i, ∃ z : Int × Int, i < k → z.1 ≠ 0 ∧ Sp B fun x => z.1 * T i x - z.2 * b x := fun i => by
   by_cases hi : i < k
   ·
    obtain ⟨d, c, hd, hs⟩ := (h3 i hi).split
    exact ⟨(d, c), fun _ => ⟨hd, hs⟩⟩
   ·
    exact ⟨(0, 0), fun h => absurd h hi⟩
  obtain ⟨z, hz⟩ := Classical.axiomOfChoice hex
  by_cases hall : ∀ i, i < k → (z i).2 = 0
  ·
   have := ih k T q h1 h2 fun i hi => by
    have h4 := (hz i hi).2
    rw [hall i hi] at h4
    exact Sp.div _ (hz i hi).1 (h4.eq fun x => by simp)
   simp
   omega
  ·
   have hex0 : ∃ i0, i0 < k ∧ (z i0).2 ≠ 0 := by
    apply Classical.byContradiction
    intro hno
    exact hall fun i hi => Classical.byContradiction fun h => hno ⟨i, hi, h⟩
   obtain ⟨i0, hi0, hc0⟩ := hex0
   obtain ⟨s, hs⟩ : ∃ s : Nat → Nat, ∀ i, s i = if i < i0 then i else i + 1 := ⟨_, fun _ => rfl⟩
   have hsk : ∀ i, i < k - 1 → s i < k := fun i hi => by rw [hs]; split <;> omega
   have hs0 : ∀ i, s i ≠ i0 := fun i => by rw [hs]; split <;> omega
   have hsi : ∀ i j, i ≠ j → s i ≠ s j := fun i j hij => by rw [hs, hs]; split <;> split <;> omega
   have := ih (k - 1) (fun i x => (z i0).2 * (z (s i)).1 * T (s i) x + (-((z (s i)).2 * (z i0).1)) * T i0 x) (fun i => q (s i)) (fun i hi => ?_) (fun i hi j hj hij => ?_) fun i hi => ?_
   ·
    simp
    omega
   ·
    rw [h2 i0 hi0 _ (hsk i hi) (fun e => hs0 i e.symm)]
    simp only [Int.mul_zero, Int.add_zero]
    exact Int.mul_ne_zero (Int.mul_ne_zero hc0 (hz _ (hsk i hi)).1) (h1 _ (hsk i hi))
   ·
    rw [h2 i0 hi0 _ (hsk j hj) (fun e => hs0 j e.symm), h2 _ (hsk i hi) _ (hsk j hj) (hsi i j hij)]
    simp
   ·
    exact (Sp.comb (z i0).2 (-(z (s i)).2) (hz _ (hsk i hi)).2 (hz i0 hi0).2).eq fun x => by grind
/-- Every column is spanned by the pivots' columns. -/
theorem colspan : ∀ (E : List (Nat × Vc)), (∀ e ∈ E, e.2 e.1 ≠ 0) → ∀ (V : Nat → Vc) (x : Nat), ∃ d : Int, d ≠ 0 ∧ Sp (E.map fun e i => V i e.1) fun i => d * V i x - res E (V i) x := by
 intro E
 induction E with
 | nil => intro _ V x; exact ⟨1, by decide, Sp.zero.eq fun i => by simp [res]⟩
 | cons e E ih =>
  intro hE V x
  obtain ⟨d, hd, h⟩ := ih (fun f hf => hE f (List.mem_cons_of_mem _ hf)) (fun i y => e.2 e.1 * V i y - V i e.1 * e.2 y) x
  have hP := hE e List.mem_cons_self
  have h0 : Sp ((e :: E).map fun e i => V i e.1) fun i => V i e.1 := .mem (by simp)
  refine ⟨d * e.2 e.1, Int.mul_ne_zero hd hP, ?_⟩
  have h' : Sp ((e :: E).map fun e i => V i e.1) fun i => d * (e.2 e.1 * V i x - V i e.1 * e.2 x) - res E (fun y => e.2 e.1 * V i y - V i e.1 * e.2 y) x := h.sub fun a ha => by
   obtain ⟨f, hf, rfl⟩ := List.mem_map.mp ha
   have h1 : Sp ((e :: E).map fun e i => V i e.1) fun i => V i f.1 := .mem (List.mem_map.mpr ⟨f, List.mem_cons_of_mem _ hf, rfl⟩)
   exact (Sp.comb (e.2 e.1) (-e.2 f.1) h1 h0).eq fun i => by grind
  exact (Sp.comb 1 (d * e.2 x) h' h0).eq fun i => by simp only [res]; grind
theorem Fnl.transpose {A A' : List Vc} {T T' : Nat → Vc} {k k' : Nat} {p p' : Nat → Nat} {V : Nat → Vc} (h : Fnl A T k p) (h' : Fnl A' T' k' p') (hV : ∀ i, Sp A (V i)) (hA' : ∀ v ∈ A', ∃ x, v = fun i => V i x) : k' ≤ k := by
 have hcol : ∀ x, Sp ((pairs T p k).map fun e i => V i e.1) fun i => V i x := fun x => by
  obtain ⟨d, hd, hs⟩ := colspan (pairs T p k) h.red.piv.nz V x
  refine Sp.div d hd (hs.eq fun i => ?_)
  rw [res_span h.red.piv.zr (by rw [rowsOf_pairs]; exact (hV i).sub h.dn) x]
  simp
 have := stein ((pairs T p k).map fun e i => V i e.1) k' T' p' (fun i hi => by have := (h'.pr i hi).2; omega) (fun i hi j hj hij => ?_) fun i hi => (h'.up i hi).sub fun v hv => by
  obtain ⟨x, rfl⟩ := hA' v hv
  exact hcol x
 ·
  simpa [pairs] using this
 ·
  have hp : p' i ≠ p' j := by
   rcases Nat.lt_or_gt_of_ne hij with e | e
   ·
    have := List.pairwise_iff_getElem.mp h'.red.inc i j (by simp [pairs]; omega) (by simp [pairs]; omega) e
    simp [pairs] at this
    omega
   ·
    have := List.pairwise_iff_getElem.mp h'.red.inc j i (by simp [pairs]; omega) (by simp [pairs]; omega) e
    simp [pairs] at this
    omega
  exact pw_apart h'.red.piv.zr (e := (p' i, T' i)) (f := (p' j, T' j)) (mem_pairs.mpr ⟨i, hi, rfl⟩) (mem_pairs.mpr ⟨j, hj, rfl⟩) hp
/-- Sums over columns. -/
def sm : Nat → (Nat → Int) → Int
 | 0, _ => 0
 | n + 1, g => g 0 + sm n fun x => g (x + 1)
theorem sm_zero : ∀ (n : Nat) (g : Nat → Int), (∀ x, x < n → g x = 0) → sm n g = 0
 | 0, _, _ => rfl
 | n + 1, g, h => by rw [sm, h 0 (by omega), sm_zero n _ fun x hx => h (x + 1) (by omega)]; rfl
theorem sm_comb : ∀ (n : Nat) (c d : Int) (g h : Nat → Int), sm n (fun x => c * g x + d * h x) = c * sm n g + d * sm n h
 | 0, _, _, _, _ => by simp [sm]
 | n + 1, c, d, g, h => by rw [sm, sm_comb n c d (fun x => g (x + 1)) fun x => h (x + 1), sm, sm]; grind
theorem sm_one : ∀ (n : Nat) (g : Nat → Int) (f : Nat), f < n → (∀ x, x < n → x ≠ f → g x = 0) → sm n g = g f
 | 0, _, _, h, _ => by omega
 | n + 1, g, 0, _, h => by rw [sm, sm_zero n _ fun x hx => h (x + 1) (by omega) (by omega)]; simp
 | n + 1, g, f + 1, hf, h => by
  rw [sm, h 0 (by omega) (by omega), sm_one n (fun x => g (x + 1)) f (by omega) fun x hx hxf => h (x + 1) (by omega) (by omega)]
  simp
theorem sm_two {n : Nat} {g : Nat → Int} {f p : Nat} (hf : f < n) (hp : p < n) (hfp : f ≠ p) (h : ∀ x, x < n → x ≠ f → x ≠ p → g x = 0) : sm n g = g f + g p := by
 have e : g = fun x => 1 * (if x = f then g f else 0) + 1 * (if x = f then 0 else g x) := by
  funext x
  by_cases hx : x = f
  ·
   rw [if_pos hx, if_pos hx, hx]; simp
  ·
   rw [if_neg hx, if_neg hx]; simp
 have h1 := sm_one n (fun x => if x = f then g f else 0) f hf fun x _ hxf => if_neg hxf
 have h2 := sm_one n (fun x => if x = f then 0 else g x) p hp fun x hx hxp => by
  by_cases hxf : x = f
  ·
   exact if_pos hxf
  ·
   rw [if_neg hxf]; exact h x hx hxf hxp
 rw [e, sm_comb, h1, h2, if_pos rfl, if_neg (fun e => hfp e.symm)]
 grind
end Go.Proofs.Ytckefohfahphpaa.Z
end
section
namespace Go.Proofs.Ytckefohfahphpaa.Z
open Go.RowKit Go.Proofs.YtckefohfahphpaaW.PrintWords Go.Proofs.YtckefohfahphpaaW.PrintLast Go.Proofs.YtckefohfahphpaaW.PrintMore
set_option linter.unusedVariables false
set_option linter.unusedSimpArgs false
/-! Uses Outc.len, Fnl.inc, KL.size, KerV.ok, Fnl.transpose, Fnl.uniq. -/
theorem dotG_cases : ∀ (n : Nat) (a b : List Int) (s : Int), a.length = n → b.length = n → (dotG a b s = (0, 3) ∨ dotG a b s = (s + sm n (fun x => vec a x * vec b x), 0))
 | 0, a, b, s, ha, hb => by
  obtain rfl : a = [] := List.length_eq_zero_iff.mp ha
  obtain rfl : b = [] := List.length_eq_zero_iff.mp hb
  right
  simp [dotG, sm]
 | n + 1, a, b, s, ha, hb => by
  obtain ⟨x, a, rfl⟩ := List.exists_cons_of_length_eq_add_one ha
  obtain ⟨y, b, rfl⟩ := List.exists_cons_of_length_eq_add_one hb
  rw [dotG]
  by_cases h1 : in64 (x * y)
  ·
   rw [if_pos h1]
   by_cases h2 : in64 (s + x * y)
   ·
    rw [if_pos h2]
    rcases dotG_cases n a b (s + x * y) (by simpa using ha) (by simpa using hb) with h | h
    ·
     exact .inl h
    ·
     right
     rw [h, sm, vec_cons0, vec_cons0]
     simp only [vec_consS]
     rw [Int.add_assoc]
   ·
    rw [if_neg h2]; exact .inl rfl
  ·
   rw [if_neg h1]; exact .inl rfl
theorem sm_span {A : List Vc} {n : Nat} {K : Nat → Int} (h : ∀ a ∈ A, sm n (fun x => a x * K x) = 0) {v : Vc} (hv : Sp A v) : sm n (fun x => v x * K x) = 0 := by
 induction hv with
 | mem ha => exact h _ ha
 | zero => exact sm_zero n _ fun x _ => by simp
 | @comb u w c d _ _ i j =>
  have := sm_comb n c d (fun x => u x * K x) (fun x => w x * K x)
  rw [i, j] at this
  simp only [Int.mul_zero, Int.add_zero] at this
  rw [← this]
  congr 1
  funext x
  grind
 | @div u c hc _ i =>
  have := sm_comb n c 0 (fun x => u x * K x) (fun _ => 0)
  have e : (fun x => c * (u x * K x) + 0 * (fun _ => (0 : Int)) x) = fun x => c * u x * K x := by funext x; simp [Int.mul_assoc]
  rw [e, i] at this
  simp only [Int.zero_mul, Int.add_zero] at this
  exact (Int.mul_eq_zero.mp this.symm).resolve_left hc
theorem ker_dot {a E : List (List Int)} {p : Nat → Nat} {n f : Nat} {K : List Int} (hO : Outc a n E p) (hf : f < n) (hfp : ∀ j, j < E.length → p j ≠ f) (hK : KerV E p n f K) {v : Vc} (hv : v ∈ spanL a) : sm n (fun x => v x * vec K x) = 0 := by
 refine sm_span (fun r hr => ?_) (hO.fn.dn v hv)
 obtain ⟨j, hj, rfl⟩ := mem_vs.mp hr
 rw [sm_two hf (hO.pn j hj) (fun e => hfp j hj e.symm) fun x hx hxf hxp => ?_]
 ·
  have := hK.pv j hj
  omega
 ·
  by_cases h : ∃ i, i < E.length ∧ p i = x
  ·
   obtain ⟨i, hi, rfl⟩ := h
   have h1 := pw_apart hO.fn.red.piv.zr (e := (p j, rowsV E j)) (f := (p i, rowsV E i)) (mem_pairs.mpr ⟨j, hj, rfl⟩) (mem_pairs.mpr ⟨i, hi, rfl⟩) (fun e => hxp e.symm)
   dsimp only at h1
   rw [h1]
   simp
  ·
   rw [hK.zr x hxf fun i hi e => h ⟨i, hi, e⟩]
   simp
theorem KL.count {a E : List (List Int)} {p : Nat → Nat} {n : Nat} (hO : Outc a n E p) {f : Nat} {l : List (List Int)} (h : KL E p n f l) : ∀ nx, nx ≤ E.length → (∀ j, j < nx → p j < f) → (∀ j, nx ≤ j → j < E.length → f ≤ p j) → l.length + E.length + f = n + nx := by
 induction h with
 | done =>
  intro nx h1 h2 h3
  have : nx = E.length := by
   apply Classical.byContradiction
   intro hne
   have h4 := h3 nx (Nat.le_refl _) (by omega)
   have h5 := hO.pn nx (by omega)
   omega
  simp
  omega
 | @skip f l hf hp _ ih =>
  intro nx h1 h2 h3
  obtain ⟨j, hj, e⟩ := hp
  have hjn : j = nx := by
   rcases Nat.lt_trichotomy j nx with h | h | h
   ·
    have := h2 j h; omega
   ·
    exact h
   ·
    have h4 := hO.fn.inc h hj
    have h5 := h3 nx (Nat.le_refl _) (by omega)
    omega
  subst hjn
  have := ih (j + 1) (by omega) (fun i hi => by
   by_cases e' : i = j
   ·
    rw [e']; omega
   ·
    have := h2 i (by omega); omega) (fun i h4 h5 => by
   have := hO.fn.inc (show j < i by omega) h5
   omega)
  omega
 | @take f v l hf hp _ _ ih =>
  intro nx h1 h2 h3
  have := ih nx h1 (fun i hi => by have := h2 i hi; omega) (fun i h4 h5 => by
   have h6 := h3 i h4 h5
   have h7 := hp i h5
   omega)
  simp
  omega
theorem Outc.again {a b E F : List (List Int)} {n : Nat} {p q : Nat → Nat} (hE : Outc a n E p) (hF : Outc b n F q) (h1 : ∀ v ∈ spanL a, Sp (spanL b) v) (h2 : ∀ v ∈ spanL b, Sp (spanL a) v) : E = F := by
 obtain ⟨h1, h2⟩ := hE.fn.uniq hF.fn h1 h2
 apply List.ext_getElem h1
 intro i hi hi'
 have h3 := (h2 i hi).2
 have e1 : rd_L1 E (i : Int) = E[i] := by simp [rd_L1, List.getD_eq_getElem?_getD, hi]
 have e2 : rd_L1 F (i : Int) = F[i] := by simp [rd_L1, List.getD_eq_getElem?_getD, hi']
 unfold rowsV at h3
 rw [e1, e2] at h3
 exact vec_ext (by rw [(hE.ok _ (List.getElem_mem hi)).1, (hF.ok _ (List.getElem_mem hi')).1]) h3
theorem Outc.idem {a E F : List (List Int)} {n : Nat} {p q : Nat → Nat} (hE : Outc a n E p) (hF : Outc E n F q) : E = F :=
 hE.again hF hE.fn.dn fun v hv => by
  obtain ⟨i, hi, rfl⟩ := mem_vs.mp hv
  exact hE.fn.up i hi
theorem validB_mk {a : List (List Int)} {n : Nat} (h1 : 1 ≤ a.length) (h2 : a.length ≤ 64) (h3 : 1 ≤ n) (h4 : n ≤ 64) (h5 : ∀ r ∈ a, r.length = n) : validB a = true ∧ (rd_L1 a 0).length = n := by
 have h0 : (rd_L1 a 0).length = n := h5 _ (rdL_mem (by omega) (by omega))
 exact ⟨validB_iff.mpr ⟨n, h1, h2, h3, h4, h5, h0⟩, h0⟩
theorem trans_row {a : List (List Int)} {n x : Nat} (hn : (rd_L1 a 0).length = n) (hx : x < n) : rd_L1 (transM a) (x : Int) = colM a (x : Int) := by
 unfold transM
 rw [hn]
 simp [rd_L1, List.getD_eq_getElem?_getD, hx]
theorem colM_vec (a : List (List Int)) (x i : Nat) : vec (colM a (x : Int)) i = rowsV a i x := by
 unfold colM rowsV
 by_cases hi : i < a.length
 ·
  rw [vec_get (by simpa using hi)]
  simp only [List.getElem_map]
  rw [show rd_L1 a (i : Int) = a[i] by simp [rd_L1, List.getD_eq_getElem?_getD, hi]]
  rfl
 ·
  rw [vec_out (by simp; omega), rdL_out (by omega)]
  rfl
theorem trans_valid {a : List (List Int)} (hv : validB a = true) (ha : ∀ r ∈ a, ok64 r) : validB (transM a) = true ∧ (∀ r ∈ transM a, ok64 r) ∧ (rd_L1 (transM a) 0).length = a.length := by
 obtain ⟨n, h1, h2, h3, h4, h5, h6⟩ := validB_iff.mp hv
 have hl : (transM a).length = n := by unfold transM; simp; omega
 have hr : ∀ r ∈ transM a, r.length = a.length := fun r hr => by
  unfold transM at hr
  obtain ⟨k, _, rfl⟩ := List.mem_map.mp hr
  simp [colM]
 obtain ⟨v1, v2⟩ := validB_mk (a := transM a) (n := a.length) (by omega) (by omega) h1 h2 hr
 refine ⟨v1, fun r hr' y hy => ?_, v2⟩
 unfold transM at hr'
 obtain ⟨k, _, rfl⟩ := List.mem_map.mp hr'
 unfold colM at hy
 obtain ⟨z, hz, rfl⟩ := List.mem_map.mp hy
 rw [rd_vec]
 by_cases hk : k < z.length
 ·
  exact ha z hz _ (vec_mem hk)
 ·
  rw [vec_out (by omega)]; constructor <;> omega
theorem trans_rank {a E F : List (List Int)} {p q : Nat → Nat} (hv : validB a = true) (hE : Outc a (rd_L1 a 0).length E p) (hF : Outc (transM a) a.length F q) : E.length = F.length := by
 obtain ⟨n, h1, h2, h3, h4, h5, h6⟩ := validB_iff.mp hv
 have hl : (transM a).length = n := by unfold transM; simp; omega
 have hrow : ∀ x, x < n → rowsV (transM a) x = fun i => rowsV a i x := fun x hx => by
  funext i
  unfold rowsV
  rw [trans_row h6 hx]
  exact colM_vec a x i
 have hzero : ∀ i, a.length ≤ i → ∀ x, rowsV a i x = 0 := fun i hi x => by unfold rowsV; rw [rdL_out hi]; rfl
 have hout : ∀ i x, n ≤ x → rowsV a i x = 0 := fun i x hx => by
  by_cases hi : i < a.length
  ·
   unfold rowsV
   exact vec_out (by rw [h5 _ (rdL_mem (by omega) (by omega))]; exact hx)
  ·
   exact hzero i (by omega) x
 apply Nat.le_antisymm
 ·
  refine hF.fn.transpose hE.fn (V := fun x i => rowsV a i x) (fun x => ?_) fun v hv => ?_
  ·
   by_cases hx : x < n
   ·
    exact (Sp.mem (vs_of (show x < (transM a).length by omega))).eq fun i => by rw [hrow x hx]
   ·
    exact Sp.zero.eq fun i => (hout i x (by omega)).symm
  ·
   obtain ⟨i, hi, rfl⟩ := mem_vs.mp hv
   exact ⟨i, rfl⟩
 ·
  refine hE.fn.transpose hF.fn (V := rowsV a) (fun i => ?_) fun v hv => ?_
  ·
   by_cases hi : i < a.length
   ·
    exact .mem (vs_of hi)
   ·
    exact Sp.zero.eq fun x => (hzero i (by omega) x).symm
  ·
   obtain ⟨x, hx, rfl⟩ := mem_vs.mp hv
   exact ⟨x, hrow x (by omega)⟩
end Go.Proofs.Ytckefohfahphpaa.Z
end
section
namespace Go.Proofs.Ytckefohfahphpaa.Z
open Go.RowKit Go.Proofs.YtckefohfahphpaaW.PrintWords Go.Proofs.YtckefohfahphpaaW.PrintLast Go.Proofs.YtckefohfahphpaaW.PrintMore
attribute [local go_sem] max2_int min2_int max_two min_two max_three min_three max_four min_four   -- for this text's walks alone
set_option linter.unusedVariables false
set_option linter.unusedSimpArgs false

/-! ### petrinetlaw08_MatrixSpans: function 5, by hand -/
/-- What MatrixSpans comes to, on the ways to true. -/
def petrinetlaw08_MatrixSpans.f (k : Nat) (a : List (List Int)) : Option Bool :=
 (matrix_Echelon.f k a).bind fun x => if x.2 ≠ 0 then petrinetlaw08_exampleHolds.f k else
  (petrinetref08_Valid.f k a).bind fun v => if v = false then petrinetlaw08_exampleHolds.f k else
   if (a.length : Int) + (x.1.length : Int) > 64 then (if a.length ≤ 1000000 ∧ x.1.length ≤ 1000000 then petrinetlaw08_exampleHolds.f k else none) else
    (matrix_Rank.f k (a ++ x.1)).bind fun r => if r.2 = 0 ∧ r.1 ≠ (x.1.length : Int) then none else
     if 0 < a.length ∧ ∀ z ∈ x.1, z.length = (rd_L1 a 0).length then petrinetlaw08_exampleHolds.f k else none
theorem spans_info33 : (Try.prog.info? 33).map (fun i => (i.zero, i.size, i.bytes)) = some (some (.slice none 0 0), 1, 24) := by kernel_rfl
theorem spans_gt {n m : Nat} (h : (n : Int) + (m : Int) > 64) (hn : n ≤ 1000000) (hm : m ≤ 1000000) : decide ((n : Int) + (m : Int) > 64) = true := decide_eq_true h
set_option maxHeartbeats 8000000 in
set_option maxRecDepth 100000 in
theorem petrinetlaw08_MatrixSpans.calls (k : Nat) (A0 : Option Addr) (c0 : Nat) (l0 : List (List Int)) (r : Bool) (w : World) (hr0 : Kd.C (Kd.slice 2 (Kd.int .i64)) w A0 l0.length l0) (hc0 : l0.length ≤ c0) (h : petrinetlaw08_MatrixSpans.f k l0 = some r) :
  Calls Try.prog 5 #[.slice A0 l0.length c0] w fun e w' => e = .returned (.bool r) ∧ Below w.heap.size w w' := by
 unfold petrinetlaw08_MatrixSpans.f at h
 obtain ⟨⟨x, er⟩, hx, h⟩ := Option.bind_eq_some_iff.mp h
 have HX := Aside0.mk hx
 have HC := Aside0.mk hr0
 have HCC := Aside0.mk hc0
 clear hx hr0 hc0
 by_cases he : er = 0
 case neg =>
  have hex : petrinetlaw08_exampleHolds.f k = some r := by simpa [he] using h
  have HEX := Aside0.mk hex
  clear h hex
  have heb : (er != 0) = true := bne_iff_ne.mpr he
  have heb2 : (er == 0) = false := beq_eq_false_iff_ne.mpr he
  have HE := Aside0.mk he
  clear he
  go_enter Try.func5, Try.ntmps5
  go_wp2_with (first | (go_at_call 15; (with_reducible refine (matrix_Echelon.calls k _ _ l0 x er _ HC.out HCC.out HX.out).mono ?_); rintro e1 w1 ⟨v, rfl, hN, hb⟩; have HB := Aside0.mk hb; clear hb hN) | (go_at_call 11; (with_reducible refine (petrinetlaw08_exampleHolds.calls k r _ HEX.out).mono ?_); rintro e2 w2 ⟨rfl, hb⟩; have HB2 := Aside0.mk (below_step HB.out hb); clear hb))
  go_ret
  exact ⟨rfl, HB2.out⟩
 subst he
 have h1 : ((petrinetref08_Valid.f k l0).bind fun v => if v = false then petrinetlaw08_exampleHolds.f k else if (l0.length : Int) + (x.length : Int) > 64 then (if l0.length ≤ 1000000 ∧ x.length ≤ 1000000 then petrinetlaw08_exampleHolds.f k else none) else (matrix_Rank.f k (l0 ++ x)).bind fun r => if r.2 = 0 ∧ r.1 ≠ (x.length : Int) then none else if 0 < l0.length ∧ ∀ z ∈ x, z.length = (rd_L1 l0 0).length then petrinetlaw08_exampleHolds.f k else none) = some r := by simpa using h
 clear h
 obtain ⟨v, hv, h2⟩ := Option.bind_eq_some_iff.mp h1
 have HV := Aside0.mk hv
 clear h1 hv
 cases v with
 | false =>
  have hex : petrinetlaw08_exampleHolds.f k = some r := by simpa using h2
  have HEX := Aside0.mk hex
  clear h2 hex
  go_enter Try.func5, Try.ntmps5
  go_wp2_with (first | (go_at_call 15; (with_reducible refine (matrix_Echelon.calls k _ _ l0 x 0 _ HC.out HCC.out HX.out).mono ?_); rintro e1 w1 ⟨v, rfl, hN, hb⟩; have HB := Aside0.mk hb; clear hb hN) | (go_at_call 10; (with_reducible refine (petrinetref08_Valid.calls k _ _ l0 false _ (Kd.C_below HC.out HB.out) HCC.out HV.out).mono ?_); rintro e2 w2 ⟨rfl, hd⟩; have hB := below_step HB.out hd.below; clear HB hd; have HB := Aside0.mk hB; clear hB) | (go_at_call 11; (with_reducible refine (petrinetlaw08_exampleHolds.calls k r _ HEX.out).mono ?_); rintro e2 w3 ⟨rfl, hb⟩; have HB2 := Aside0.mk (below_step HB.out hb); clear hb))
  go_ret
  exact ⟨rfl, HB2.out⟩
 | true =>
  have h3 : (if (l0.length : Int) + (x.length : Int) > 64 then (if l0.length ≤ 1000000 ∧ x.length ≤ 1000000 then petrinetlaw08_exampleHolds.f k else none) else (matrix_Rank.f k (l0 ++ x)).bind fun r => if r.2 = 0 ∧ r.1 ≠ (x.length : Int) then none else if 0 < l0.length ∧ ∀ z ∈ x, z.length = (rd_L1 l0 0).length then petrinetlaw08_exampleHolds.f k else none) = some r := by simpa using h2
  clear h2
  by_cases hg : (l0.length : Int) + (x.length : Int) > 64
  ·
   rw [if_pos hg] at h3
   split at h3
   case isFalse => cases h3
   rename_i hsm
   have HEX := Aside0.mk h3
   clear h3
   obtain ⟨hs1, hs2⟩ := hsm
   have hgd := spans_gt hg hs1 hs2
   clear hg
   go_enter Try.func5, Try.ntmps5
   go_wp2_with (first | (go_at_call 15; (with_reducible refine (matrix_Echelon.calls k _ _ l0 x 0 _ HC.out HCC.out HX.out).mono ?_); rintro e1 w1 ⟨v, rfl, hN, hb⟩; have HB := Aside0.mk hb; obtain ⟨Ax, cx, rfl⟩ := Kd.N_slice hN; clear hb hN) | (go_at_call 10; (with_reducible refine (petrinetref08_Valid.calls k _ _ l0 true _ (Kd.C_below HC.out HB.out) HCC.out HV.out).mono ?_); rintro e2 w2 ⟨rfl, hd⟩; have hB := below_step HB.out hd.below; clear HB hd; have HB := Aside0.mk hB; clear hB) | (go_at_call 11; (with_reducible refine (petrinetlaw08_exampleHolds.calls k r _ HEX.out).mono ?_); rintro e2 w3 ⟨rfl, hb⟩; have HB2 := Aside0.mk (below_step HB.out hb); clear hb))
   go_ret
   exact ⟨rfl, HB2.out⟩
  ·
   rw [if_neg hg] at h3
   obtain ⟨⟨q1, q2⟩, hq, h4⟩ := Option.bind_eq_some_iff.mp h3
   obtain ⟨y, hy⟩ : ∃ y, y = l0 ++ x := ⟨_, rfl⟩
   have hq0 : matrix_Rank.f k y = some (q1, q2) := by rw [hy]; exact hq
   have HY := Aside0.mk hy
   have HQ := Aside0.mk hq0
   clear h3 hq hq0 hy
   have hs1 : l0.length ≤ 64 := by omega
   have hs2 : x.length ≤ 64 := by omega
   have hgd : decide ((l0.length : Int) + (x.length : Int) > 64) = false := decide_eq_false hg
   have HLE := Aside0.mk hg
   clear hg
   have HS1 := Aside0.mk hs1
   have HS2 := Aside0.mk hs2
   have h5 : (q2 == 0 && q1 != (x.length : Int)) = false ∧ (if 0 < l0.length ∧ ∀ z ∈ x, z.length = (rd_L1 l0 0).length then petrinetlaw08_exampleHolds.f k else none) = some r := by
    by_cases hc : q2 = 0 ∧ q1 ≠ (x.length : Int)
    ·
     rw [if_pos hc] at h4; cases h4
    ·
     rw [if_neg hc] at h4
     refine ⟨?_, h4⟩
     by_cases e : q2 = 0
     ·
      have : q1 = (x.length : Int) := Classical.byContradiction fun hn => hc ⟨e, hn⟩
      simp [e, this]
     ·
      simp [e]
   clear h4
   obtain ⟨h6, h7⟩ := h5
   split at h7
   case isFalse => cases h7
   rename_i hall
   have HEX := Aside0.mk h7
   have HALL := Aside0.mk hall.2
   have hl0 := hall.1
   clear h7 hall
   have hle : (l0.length : Int) + (x.length : Int) ≤ 64 := by have := HLE.out; omega
   have hgd2 : decide (64 < (l0.length : Int) + (x.length : Int)) = false := decide_eq_false (by omega)
   have hq : (q2 = 0 ∧ q1 = (x.length : Int)) ∨ (q2 == 0) = false := by
    by_cases e : q2 = 0
    ·
     left
     have := h6
     rw [e] at this
     simp at this
     exact ⟨e, this⟩
    ·
     exact .inr (beq_eq_false_iff_ne.mpr e)
   clear h6
   have hl1 : (0 : Int) < (l0.length : Int) := by omega
   rcases hq with ⟨rfl, rfl⟩ | hq
   all_goals
    go_enter Try.func5, Try.ntmps5
    go_wp2_with (first
     | (go_at_call 15; (with_reducible refine (matrix_Echelon.calls k _ _ l0 x 0 _ HC.out HCC.out HX.out).mono ?_); rintro e1 w1 ⟨v, rfl, hN, hb⟩; have HB := Aside0.mk hb; obtain ⟨Ax, cx, rfl⟩ := Kd.N_slice hN; have HN := Aside0.mk hN; clear hb hN)
     | (go_at_call 10; (with_reducible refine (petrinetref08_Valid.calls k _ _ l0 true _ (Kd.C_below HC.out HB.out) HCC.out HV.out).mono ?_); rintro e2 w2 ⟨rfl, hd⟩; have hB := below_step HB.out hd.below; have hN := Kd.N_below HN.out hd.below; clear HB HN hd; have HB := Aside0.mk hB; have HN := Aside0.mk hN; clear hB hN)
     | ((with_reducible refine gate_builtin (b := .append) (xs := #[.tmp 30, .tmp 31]) rfl ?_); at_builtin; refine Kd.N_append_rows (Kd.slice 2 (Kd.int .i64)) (w0 := w) w.heap.size rfl (.tmp 30) (.tmp 31) 22 33 (.slice none 0 0) 24 rfl Try.underlying22 spans_info33 rfl (by decide) (by omega) (.slice none 0 0) [] l0 A0 l0.length c0 (fun _ => True) (fun k_ => k_ < w.heap.size) rfl rfl (Kd.N_nil _ _ _ _ _) ?aF (fun k_ hk => ⟨trivial, by simp [Value.ownBlock]⟩) (fun _ _ => trivial) ?aB ?aS ?aL ?_; (case aF => exact Kd.F_below (Kd.C_F (Kd.heap_slice 2 (Kd.heap_int .i64)) HC.out) (by repeat (first | (with_reducible exact HB.out) | apply below_alloc | apply pw_below_drewN | apply below_drew1))); (case aB => exact (by repeat (first | (with_reducible exact HB.out) | apply below_alloc | apply pw_below_drewN | apply below_drew1))); (case aS => exact below_size (by repeat (first | (with_reducible exact HB.out) | apply below_alloc | apply pw_below_drewN | apply below_drew1))); (case aL => have := HS1.out; simp; omega); intro v1 w4 ho hb hg hat; rw [List.nil_append] at ho; have hN := Kd.N_after (Kd.N_apart_nil (by (with_reducible repeat (first | apply Kd.N_alloc | apply Kd.N_drewN | apply Kd.N_drew)); exact HN.out)) hg hat; clear HB HN; have HB := Aside0.mk hb; have HN := Aside0.mk hN; obtain ⟨A1, c1, rfl⟩ := Kd.N_slice ho; have HO := Aside0.mk ho; clear hb hN ho hg hat)
     | ((with_reducible refine gate_builtin (b := .append) (xs := #[.tmp 33, .tmp 34]) rfl ?_); at_builtin; refine Kd.N_append_rows (Kd.slice 2 (Kd.int .i64)) (w0 := w) w.heap.size rfl (.tmp 33) (.tmp 34) 22 33 (.slice none 0 0) 24 rfl Try.underlying22 spans_info33 rfl (by decide) (by omega) (.slice A1 l0.length c1) l0 x Ax x.length cx (fun _ => True) (fun k_ => w.heap.size ≤ k_ ∧ some k_ ≠ (Value.slice A1 l0.length c1).ownBlock) rfl rfl ?aO ?aF (fun k_ hk => ⟨trivial, hk.2⟩) (fun _ _ => trivial) ?aB ?aS ?aL ?_; (case aO => exact (by (with_reducible repeat (first | apply Kd.N_alloc | apply Kd.N_drewN | apply Kd.N_drew)); exact HO.out)); (case aF => exact Kd.N_F (by (with_reducible repeat (first | apply Kd.N_alloc | apply Kd.N_drewN | apply Kd.N_drew)); exact HN.out)); (case aB => exact (by repeat (first | (with_reducible exact HB.out) | apply below_alloc | apply pw_below_drewN | apply below_drew1))); (case aS => exact below_size (by repeat (first | (with_reducible exact HB.out) | apply below_alloc | apply pw_below_drewN | apply below_drew1))); (case aL => have := HS1.out; have := HS2.out; omega); intro v2 w5 ho hb hg hat; rw [← HY.out] at ho; have hN := Kd.N_after (by (with_reducible repeat (first | apply Kd.N_alloc | apply Kd.N_drewN | apply Kd.N_drew)); exact HN.out) hg hat; clear HB HN HO; have HB := Aside0.mk hb; have HN := Aside0.mk hN; obtain ⟨A2, c2, rfl⟩ := Kd.N_slice ho; have HO := Aside0.mk ho; clear hb hN ho hg hat)
     | (go_at_call 16; (with_reducible refine (matrix_Rank.calls k _ _ y _ _ _ (Kd.N_reads' HO.out).2.2 (Kd.N_reads' HO.out).2.1 HQ.out).mono ?_); rintro e3 w6 ⟨rfl, hb⟩; have hB := below_step HB.out hb; have hN := Kd.N_below HN.out hb; clear HB HN hb; have HB := Aside0.mk hB; have HN := Aside0.mk hN; clear hB hN))
    go_loopw [8] (fun s8 W => ∃ j : Nat, j ≤ x.length ∧ s8 = .int .i64 (j : Int) ∧ Aside0 (Below w.heap.size w W) ∧ Aside0 (Kd.C (Kd.slice 2 (Kd.int .i64)) W Ax x.length x)) (fun s8 _ => x.length - (intOf s8).toNat)
    case atStart => exact ⟨0, Nat.zero_le _, rfl, HB, ⟨(Kd.N_reads' HN.out).2.2⟩⟩
    case round =>
     clear HB HN HO
     obtain ⟨j, hj, rfl, HB, HCX⟩ := hrel
     by_cases hlt : j < x.length
     ·
      have hlt1 : (j : Int) < (x.length : Int) := by omega
      have hd1 : decide ((j : Int) < (x.length : Int)) = true := decide_eq_true hlt1
      obtain ⟨ad, Ai, ci, ead, hx, hl, hin⟩ := at_L1 HCX.out (j : Int) (by omega) hlt1
      cases ead
      obtain ⟨ad0, Ai0, ci0, ead0, hx0, hli0, hin0⟩ := at_L1 (Kd.C_below HC.out HB.out) 0 (by omega) (by omega)
      cases ead0
      rw [show ((0 : Int)).toNat = 0 from rfl, Addr.add_zero'] at hx0
      rw [Int.toNat_natCast] at hx
      have hlen : (((rd_L1 x (j : Int)).length : Int) != ((rd_L1 l0 0).length : Int)) = false := by
       have := HALL.out _ (rd_L1_mem hlt)
       rw [bne_eq_false_iff_eq]
       omega
      have hz0 : (0 : Int) ≤ (j : Int) := by omega
      clear hl hin hli0 hin0
      go_wp2_with (fail)
      go_quiet (fail)
      go_wp2_with (fail)
      go_roundw
      case measure => simp [intOf]; omega
      case rel => exact ⟨j + 1, by omega, by go_num, ⟨by repeat (first | (with_reducible exact HB.out) | apply below_alloc | apply pw_below_drewN | apply below_drew1)⟩, ⟨by repeat (first | (with_reducible exact HCX.out) | (with_reducible refine Kd.C_alloc ?_ _) | (with_reducible refine Kd.C_drewN ?_ _) | (with_reducible refine Kd.C_drew ?_))⟩⟩
     ·
      have hd1 : decide ((j : Int) < (x.length : Int)) = false := decide_eq_false (by omega)
      go_wp2_with (first | (go_at_call 11; (with_reducible refine (petrinetlaw08_exampleHolds.calls k r _ HEX.out).mono ?_); rintro e2 w3 ⟨rfl, hb⟩; have HB2 := Aside0.mk (below_step HB.out hb); clear hb))
      go_ret
      exact ⟨rfl, HB2.out⟩

/-- The one pure statement of petrinetlaw08_MatrixSpans. -/
def petrinetlaw08_MatrixSpans.Pure : Prop := ∀ (x0 : List (List Int)), (fun l => l.length ≤ maxLen ∧ ∀ x ∈ l, (fun l => l.length ≤ maxLen ∧ ∀ x ∈ l, (fun n => (Lit.int .i64 n).wf = true) x) x) x0 → ∃ k, petrinetlaw08_MatrixSpans.f k x0 = some true

end Go.Proofs.Ytckefohfahphpaa.Z
end
section
namespace Go.Proofs.Ytckefohfahphpaa.Pure
open Go.RowKit Go.Proofs.Ytckefohfahphpaa.Z Go.Proofs.YtckefohfahphpaaW.PrintWords Go.Proofs.YtckefohfahphpaaW.PrintLast Go.Proofs.YtckefohfahphpaaW.PrintMore
set_option linter.unusedVariables false
set_option linter.unusedSimpArgs false
/-! Uses Outc.len, Outc.again. -/
theorem rdL_app (a b : List (List Int)) (i : Nat) : rd_L1 (a ++ b) (i : Int) = if i < a.length then rd_L1 a (i : Int) else rd_L1 b ((i - a.length : Nat) : Int) := by
 simp only [rd_L1, List.getD_eq_getElem?_getD, Int.toNat_natCast]
 by_cases h : i < a.length
 ·
  rw [if_pos h, List.getElem?_append_left h]
 ·
  rw [if_neg h, List.getElem?_append_right (by omega)]
theorem MatrixSpans : petrinetlaw08_MatrixSpans.Pure := by
 intro a hw
 have ha : ∀ r ∈ a, ok64 r := fun r hr => ok64_wf (hw.2 r hr).2
 clear hw
 refine ⟨2000, ?_⟩
 unfold petrinetlaw08_MatrixSpans.f
 rw [rvalid_eq a _ (by omega), example_eq _ (by omega), mech_eq (by omega)]
 by_cases hv : validB a = true
 case neg =>
  rw [if_neg hv]
  simp
 rw [if_pos hv]
 obtain ⟨n, h1, h2, h3, h4, h5, h6⟩ := validB_iff.mp hv
 rcases reduce_spec (K := 2000) (by omega) hv ha with ⟨E, cols, p, r1, r2, r3, _⟩ | ⟨r1, _⟩
 ·
  rw [r1, h6] at *
  have hlen := r2.len
  have hEr : ∀ z ∈ E, z.length = n := fun z hz => (r2.ok z hz).1
  simp only [Option.bind_some, hv]
  rw [if_neg (by decide), if_neg (by decide)]
  by_cases hg : (a.length : Int) + (E.length : Int) > 64
  ·
   rw [if_pos hg, if_pos ⟨by omega, by omega⟩]
  rw [if_neg hg]
  have hall : ∀ z ∈ a ++ E, z.length = n := fun z hz => by
   rcases List.mem_append.mp hz with h | h
   ·
    exact h5 z h
   ·
    exact hEr z h
  obtain ⟨w1, w2⟩ := validB_mk (a := a ++ E) (n := n) (by simp; omega) (by simp; omega) h3 h4 hall
  have hok : ∀ z ∈ a ++ E, ok64 z := fun z hz => by
   rcases List.mem_append.mp hz with h | h
   ·
    exact ha z h
   ·
    exact (r2.ok z h).okr.2
  have hcond : 0 < a.length ∧ ∀ z ∈ E, z.length = n := ⟨by omega, hEr⟩
  rw [mrank_eq (by omega), if_pos w1]
  rcases reduce_spec (K := 2000) (by omega) w1 hok with ⟨F, cols', q, s1, s2, s3, _⟩ | ⟨s1, _⟩
  ·
   rw [w2] at s2
   have hs1 : ∀ v ∈ spanL a, Sp (spanL (a ++ E)) v := fun v hv => by
    obtain ⟨i, hi, rfl⟩ := mem_vs.mp hv
    have hm : rowsV (a ++ E) i ∈ spanL (a ++ E) := vs_of (by simp; omega)
    exact (Sp.mem hm).eq fun x => by unfold rowsV; rw [rdL_app, if_pos hi]
   have hs2 : ∀ v ∈ spanL (a ++ E), Sp (spanL a) v := fun v hv => by
    obtain ⟨i, hi, rfl⟩ := mem_vs.mp hv
    simp only [List.length_append] at hi
    by_cases hia : i < a.length
    ·
     exact (Sp.mem (vs_of (T := rowsV a) hia)).eq fun x => by unfold rowsV; rw [rdL_app, if_pos hia]
    ·
     exact (r2.fn.up (i - a.length) (by omega)).eq fun x => by unfold rowsV; rw [rdL_app, if_neg hia]
   have hEF := r2.again s2 hs1 hs2
   rw [s1]
   simp only [Option.bind_some]
   rw [if_neg (by rintro ⟨_, hne⟩; apply hne; rw [s3, hEF]), if_pos hcond]
  ·
   rw [s1]
   simp only [Option.bind_some]
   rw [if_neg (by rintro ⟨h, _⟩; cases h), if_pos hcond]
 ·
  rw [r1]
  simp
end Go.Proofs.Ytckefohfahphpaa.Pure
end
section
namespace Go.Proofs.Ytckefohfahphpaa.matrixSpans
open Go.ChangeShapes Go.WideShapes Go.ChangeAt Go.RowKit Go.Proofs.Ytckefohfahphpaa.Z Go.Proofs.YtckefohfahphpaaW.PrintWords
open Go.ChangeMaps (open_string shut_string)
set_option linter.unusedVariables false
theorem own : ownKnob Try.prog.godebug = none := by kernel_rfl
theorem laidOut : laidOutB Try.prog = true := by kernel_rfl
set_option maxRecDepth 100000 in
theorem lifted (os : Os) (started : os.Started) (H : Type) (enc : TypeId × Value → H) :
  ReturnsInHanded {} Try.checked os 5 .any (Rows.matrixSpansSpec.pre6 enc Try.prog Try.f5 Rows.matrixSpansRow.domain false) (Rows.matrixSpansSpec.post enc Try.prog Try.f5 false true false false) := by
 refine returnsInHanded_of_change_sized (C := Try.checked) own started (by kernel_rfl) Try.func5
  (ChangeSpec.witness6 (enc := enc) (C := Try.checked) false ⟨#[], #[.slice none 0 0], []⟩ 8 (by kernel_rfl) (by kernel_rfl) (by kernel_rfl) (by kernel_rfl)) ?_
 intro W base args ds gs before hval0 hW hcnd hsz0 _
 have hval : ∀ (j : Nat) t v, Try.f5.params[j]? = some t → args[j]? = some v → Value.okWide Try.prog W .any base t v := hval0
 have hW' := hW
 obtain ⟨p, q, hA0, hV, rfl, hfz, hnd⟩ := hW
 have hA : DataW.TrodAll enc Try.prog W 0 (fun _ => true) true Try.f5.params.toList args.toList ds p := hA0
 rw [Try.params5] at hA hval
 obtain ⟨v0, vs0, d0, ds0, p0, q0, hargs, rfl, rfl, h0, r0⟩ := trodAll_cons hA
 obtain ⟨rfl, rfl, rfl⟩ := trodAll_nil r0
 obtain rfl : args = #[v0] := by cases args; simp_all
 obtain ⟨rfl, rfl⟩ := trodVars_none hV
 have k0 := h0
 have lt0 : ∀ x ∈ p0, x.block < W.heap.size := by obtain ⟨m, hm⟩ := k0; exact DataW.trod_lt m _ _ _ hm
 obtain ⟨a0, len0, cap0, rfl⟩ := okWide_slice Try.underlying22 (hval 0 22 v0 rfl rfl)
 obtain ⟨fuel0, hf0⟩ := h0
 obtain ⟨x0, ⟨A0, c0, hc0, hl0, hC0⟩, w0⟩ := (opens_slice Try.underlying22 (by kernel_rfl) (opens_slice Try.underlying33 (by kernel_rfl) (opens_int Try.underlying2))) hf0
 simp only [Value.cells, List.cons.injEq, Value.slice.injEq, and_true] at hc0
 obtain ⟨rfl, rfl, rfl⟩ := hc0
 clear hA0 hval0 hsz0
 obtain ⟨k, hP⟩ := Pure.MatrixSpans x0 w0
 refine (petrinetlaw08_MatrixSpans.calls k _ _ x0 true W hC0 hl0 hP).mono fun e W' ⟨he, bel⟩ => ?_
 subst he
 exact ⟨_, rfl, _, _, _, [], _, [], hW', trodAll_mk1 (shut_bool Try.underlying4 _), (trodAll_cons_mk (Below.trod laidOut (by kernel_rfl) (of_decide_eq_true (by kernel_rfl)) k0 bel lt0) trodAll_mk0), rfl, bel.frame _, fun h => by cases h⟩
theorem over : Rows.matrixSpansRow.holds Try.pinned (OpenSpec.ofChange Rows.matrixSpansSpec) :=
 OpenClaim.holds_of_wide 5 Try.f5 rfl rfl rfl rfl rfl rfl rfl ⟨rfl, rfl, rfl, rfl, rfl⟩ rfl rfl rfl rfl rfl (by kernel_rfl) Try.func5 (by kernel_rfl)
  (of_decide_eq_true (by kernel_rfl)) (by unfold Func.isWrapper; first | (rw [if_pos (by decide +kernel)]; kernel_rfl) | (rw [if_neg (by decide +kernel)]; exact ⟨rfl, rfl⟩))
  (fun os started H enc _ => lifted os started H enc)
theorem proved : Rows.MatrixSpansSaid := over
#print axioms proved
end Go.Proofs.Ytckefohfahphpaa.matrixSpans
namespace Go.Proofs.Ytckefohfahphpaa
/-- The row, under a short name, for the claim. -/
theorem matrixSpans_holds : Rows.MatrixSpansSaid := matrixSpans.proved
end Go.Proofs.Ytckefohfahphpaa
end
