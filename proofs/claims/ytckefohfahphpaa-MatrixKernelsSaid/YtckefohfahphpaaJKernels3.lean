/- The statement Kernels is proved here, for every input, out of the walks and the plain laws of the texts ahead of it. -/
import Derived.Test.YtckefohfahphpaaRows
import Derived.Test.YtckefohfahphpaaWAt
import Derived.WalkKit
import Derived.ProofKit
import Derived.OpenShut
import Derived.ShutString
import Derived.ChangeOld
import Derived.Below
import Derived.SizedLaws
import Derived.Test.YtckefohfahphpaaJKernels0
import Derived.Test.YtckefohfahphpaaJKernels1
import Derived.Test.YtckefohfahphpaaJKernels2
set_option linter.unusedVariables false
set_option linter.unusedSimpArgs false
section
namespace Go.Proofs.Ytckefohfahphpaa.Z
open Go.RowKit Go.Proofs.YtckefohfahphpaaW.PrintWords Go.Proofs.YtckefohfahphpaaW.PrintLast Go.Proofs.YtckefohfahphpaaW.PrintMore
structure Lots (k : Nat) : Prop where
 out : 9223372036854775808 + 1000 ≤ k
theorem Lots.le {k k' : Nat} (h : Lots k) (hk : k ≤ k') : Lots k' := ⟨Nat.le_trans h.out hk⟩
def rowR (n : Nat) (l : List Int) : Prop := nlr n l ∧ nrm l ∧ (Prm (vec l) ∨ ∀ x, vec l x = 0)
def goodR (m n : Nat) (L : List (List Int)) : Prop := L.length = m ∧ ∀ i, i < m → rowR n (rd_L1 L (i : Int))
def PostR (a : List (List Int)) (n : Nat) (r : List (List Int) × Bool) : Prop := r.2 = true → ∃ p, Outc a n r.1 p
theorem rech_l4 {L : List (List Int)} {rank : Nat} (hl : L.length ≤ 64) (hr : rank ≤ L.length) : ∀ (d i k : Nat), i + d = rank → d + 1 ≤ k →
  petrinetref08_Echelon.l4 k L (rank : Int) (L.take i) (i : Int) = some (L.take rank, true) := by
 intro d
 induction d with
 | zero =>
  intro i k hi hk
  obtain ⟨k, rfl⟩ : ∃ m, k = m + 1 := ⟨k - 1, by omega⟩
  rw [petrinetref08_Echelon.l4, if_neg (by omega), show i = rank by omega]
 | succ d ih =>
  intro i k hi hk
  obtain ⟨k, rfl⟩ : ∃ m, k = m + 1 := ⟨k - 1, by omega⟩
  rw [petrinetref08_Echelon.l4, if_pos (by omega), if_pos (by omega), if_pos (by omega), if_pos (by simp; omega), ← take_L1 (by omega), wsucc (by omega)]
  exact ih (i + 1) k (by omega) (by omega)
theorem rech_l2 {x0 L : List (List Int)} {m n rank col : Nat} (hm : m ≤ 64) (hg : goodR m n L) (hc : col < n) : ∀ (d i k : Nat), i + d = m → d + 1 ≤ k → rank ≤ i →
  ∃ q k' : Nat, petrinetref08_Echelon.l2 k x0 L (rank : Int) (col : Int) (i : Int) = petrinetref08_Echelon.j4 k' x0 L (rank : Int) (col : Int) (q : Int) ∧ k ≤ k' + d + 1 ∧ i ≤ q ∧ q ≤ m ∧ (∀ j : Nat, i ≤ j → j < q → vec (rd_L1 L (j : Int)) col = 0) ∧ (q < m → vec (rd_L1 L (q : Int)) col ≠ 0) := by
 intro d
 induction d with
 | zero =>
  intro i k hi hk hr
  obtain ⟨k, rfl⟩ : ∃ m, k = m + 1 := ⟨k - 1, by omega⟩
  refine ⟨i, k, ?_, by omega, by omega, by omega, fun j h1 h2 => by omega, fun h => by omega⟩
  rw [petrinetref08_Echelon.l2, if_neg (by rw [hg.1]; omega)]
 | succ d ih =>
  intro i k hi hk hr
  obtain ⟨k, rfl⟩ : ∃ m, k = m + 1 := ⟨k - 1, by omega⟩
  have hrow := (hg.2 i (by omega)).1
  have hrl := hrow.1
  have hL := hg.1
  have t1 : (i : Int) < (L.length : Int) := by omega
  have t2 : (0 : Int) ≤ (i : Int) := by omega
  have t3 : (0 : Int) ≤ (col : Int) := by omega
  have t4 : (col : Int) < ((rd_L1 L (i : Int)).length : Int) := by omega
  rw [petrinetref08_Echelon.l2, if_pos t1, if_pos t2, if_pos t3, if_pos t4, rd_vec]
  by_cases h0 : vec (rd_L1 L (i : Int)) col = 0
  ·
   rw [if_pos h0, wsucc (by omega)]
   obtain ⟨q, k', h1, h2, h3, h4, h5, h6⟩ := ih (i + 1) k (by omega) (by omega) (by omega)
   refine ⟨q, k', h1, by omega, by omega, h4, fun j h7 h8 => ?_, h6⟩
   by_cases e : j = i
   ·
    rw [e]; exact h0
   ·
    exact h5 j (by omega) h8
  ·
   rw [if_neg h0]
   exact ⟨i, k, rfl, by omega, by omega, by omega, fun j h1 h2 => by omega, fun _ => h0⟩
def Trn (n c : Nat) (u v w : List Int) : Prop := (w = u ∧ vec u c = 0) ∨ Clr2 n c u v w
theorem rech_l3 {x0 : List (List Int)} {m n rank col Bk : Nat} (hB : Lots Bk) (hm : m ≤ 64) (hn : n ≤ 64) (hc : col < n) (hrk : rank < m) : ∀ (d i k : Nat) (M : List (List Int)), i + d = m → Bk + 2 * d + 1 ≤ k → goodR m n M → vec (rd_L1 M (rank : Int)) col ≠ 0 →
  petrinetref08_Echelon.l3 k x0 M (rank : Int) (col : Int) (i : Int) = some ([], false) ∨
  ∃ N k', petrinetref08_Echelon.l3 k x0 M (rank : Int) (col : Int) (i : Int) = petrinetref08_Echelon.l1 k' x0 N ((rank + 1 : Nat) : Int) ((col + 1 : Nat) : Int) ∧ k ≤ k' + 2 * d + 1 ∧ goodR m n N ∧ rd_L1 N (rank : Int) = rd_L1 M (rank : Int) ∧
   (∀ j : Nat, j < i → rd_L1 N (j : Int) = rd_L1 M (j : Int)) ∧ ∀ j : Nat, i ≤ j → j < m → j ≠ rank → Trn n col (rd_L1 M (j : Int)) (rd_L1 M (rank : Int)) (rd_L1 N (j : Int)) := by
 intro d
 induction d with
 | zero =>
  intro i k M hi hk hg hv
  obtain ⟨k, rfl⟩ : ∃ z, k = z + 1 := ⟨k - 1, by omega⟩
  right
  refine ⟨M, k, ?_, by omega, hg, rfl, fun _ _ => rfl, fun j h1 h2 => by omega⟩
  rw [petrinetref08_Echelon.l3, if_neg (by rw [hg.1]; omega), wsucc (by omega), wsucc (by omega)]
 | succ d ih =>
  intro i k M hi hk hg hv
  obtain ⟨k, rfl⟩ : ∃ z, k = z + 2 := ⟨k - 2, by omega⟩
  have hk' : Bk + 2 * d + 1 ≤ k := by omega
  have hkb : Lots k := hB.le (by omega)
  have hM := hg.1
  have hrow := (hg.2 i (by omega)).1
  have hrl := hrow.1
  have hpiv := (hg.2 rank hrk).1
  have t1 : (i : Int) < (M.length : Int) := by omega
  have t2 : (0 : Int) ≤ (i : Int) := by omega
  have t3 : (0 : Int) ≤ (col : Int) := by omega
  have t4 : (col : Int) < ((rd_L1 M (i : Int)).length : Int) := by omega
  have t5 : (0 : Int) ≤ (rank : Int) := by omega
  have t6 : (rank : Int) < (M.length : Int) := by omega
  have hiM : i < M.length := by omega
  have hid : i + 1 + d = m := by omega
  have hi5 : i ≤ 100000 := by omega
  have skip : (i = rank ∨ vec (rd_L1 M (i : Int)) col = 0) → (petrinetref08_Echelon.l3 k x0 M (rank : Int) (col : Int) ((i + 1 : Nat) : Int) = some ([], false) ∨
    ∃ N k', petrinetref08_Echelon.l3 k x0 M (rank : Int) (col : Int) ((i + 1 : Nat) : Int) = petrinetref08_Echelon.l1 k' x0 N ((rank + 1 : Nat) : Int) ((col + 1 : Nat) : Int) ∧ k + 2 ≤ k' + 2 * (d + 1) + 1 ∧ goodR m n N ∧ rd_L1 N (rank : Int) = rd_L1 M (rank : Int) ∧
     (∀ j : Nat, j < i → rd_L1 N (j : Int) = rd_L1 M (j : Int)) ∧ ∀ j : Nat, i ≤ j → j < m → j ≠ rank → Trn n col (rd_L1 M (j : Int)) (rd_L1 M (rank : Int)) (rd_L1 N (j : Int))) := by
   intro hs
   rcases ih (i + 1) k M hid hk' hg hv with h | ⟨N, k', h1, h2, h3, h4, h5, h6⟩
   ·
    exact .inl h
   ·
    refine .inr ⟨N, k', h1, by omega, h3, h4, fun j hj => h5 j (by omega), fun j h7 h8 h9 => ?_⟩
    by_cases e : j = i
    ·
     subst e
     exact .inl ⟨h5 j (by omega), hs.resolve_left h9⟩
    ·
     exact h6 j (by omega) h8 h9
  rw [petrinetref08_Echelon.l3, if_pos t1]
  by_cases hir : i = rank
  ·
   rw [if_pos (by omega), petrinetref08_Echelon.j6, if_neg (by decide), wsucc hi5]
   exact skip (.inl hir)
  rw [if_neg (by omega), if_pos t2, if_pos t3, if_pos t4, rd_vec]
  by_cases h0 : vec (rd_L1 M (i : Int)) col = 0
  ·
   rw [petrinetref08_Echelon.j6, if_neg (by simp [h0]), wsucc hi5]
   exact skip (.inr h0)
  rw [petrinetref08_Echelon.j6, if_pos (by simp [h0]), if_pos t2, if_pos t1, if_pos t5, if_pos t6]
  obtain ⟨s, b, h1, h2⟩ := rclr_spec (k := k) hn hrow hpiv hc hv hkb.out
  rw [h1]
  simp only [Option.bind_some]
  cases b with
  | false => rw [if_neg (by decide)]; exact .inl rfl
  | true =>
   rw [if_pos rfl, wsucc hi5]
   have hs := h2 rfl
   have hset : ∀ j : Nat, rd_L1 (M.set i s) (j : Int) = if j = i then s else rd_L1 M (j : Int) := rdL_set hiM
   have hg' : goodR m n (M.set i s) := ⟨by simp; omega, fun j hj => by
    rw [hset]
    split
    ·
     exact ⟨hs.ok, hs.nm, hs.pr⟩
    ·
     exact hg.2 j hj⟩
   have hsp : rd_L1 (M.set i s) (rank : Int) = rd_L1 M (rank : Int) := by rw [hset, if_neg (fun e => hir e.symm)]
   rcases ih (i + 1) k (M.set i s) hid hk' hg' (by rw [hsp]; exact hv) with h | ⟨N, k', q1, q2, q3, q4, q5, q6⟩
   ·
    exact .inl h
   ·
    refine .inr ⟨N, k', q1, by omega, q3, by rw [q4, hsp], fun j hj => ?_, fun j h7 h8 h9 => ?_⟩
    ·
     rw [q5 j (by omega), hset, if_neg (by omega)]
    ·
     by_cases e : j = i
     ·
      subst e
      rw [q5 j (by omega), hset, if_pos rfl]
      exact .inr hs
     ·
      have := q6 j (by omega) h8 h9
      rw [hsp, hset, if_neg e] at this
      exact this
theorem Outc.ofR {a : List (List Int)} {m n k c : Nat} {L : List (List Int)} {p : Nat → Nat} (hg : goodR m n L) (hs : Stg (spanL a) m (rowsV L) k p c) (hcn : c ≤ n) (hd : k = m ∨ c = n) : Outc a n (L.take k) p := by
 have hL := hg.1
 have hkm := hs.km
 have hl : (L.take k).length = k := by simp; omega
 refine ⟨fun r hr => ?_, fun i hi => ?_, ?_⟩
 ·
  obtain ⟨i, hi, e⟩ := List.mem_iff_getElem.mp (List.mem_of_mem_take hr)
  have := (hg.2 i (by omega)).1
  rw [show rd_L1 L (i : Int) = r by simp [rd_L1, List.getD_eq_getElem?_getD, hi, e]] at this
  exact this
 ·
  have := hs.lt i (by omega)
  omega
 ·
  rw [hl]
  refine (hs.fnl ?_ fun i hi => ?_).congr fun i hi => by unfold rowsV; rw [rdL_take hi]
  ·
   rcases hd with hd | hd
   ·
    exact .inl hd
   ·
    refine .inr fun i h7 h8 x => ?_
    by_cases hx : x < n
    ·
     exact hs.lo i h7 h8 x (by omega)
    ·
     exact vec_out (by have := (hg.2 i h8).1.1; omega)
  ·
   exact (hg.2 i (by omega)).2.1 (p i) (hs.ld i hi) (hs.nz i hi)
theorem rech_l1 {a x0 : List (List Int)} {m n Bk : Nat} (hB : Lots Bk) (hm : m ≤ 64) (hn : n ≤ 64) (hx0 : 0 < x0.length) (hx : (rd_L1 x0 0).length = n) : ∀ (d col k rank : Nat) (L : List (List Int)) (p : Nat → Nat), col + d = n → Bk + 300 * d + 300 ≤ k → goodR m n L → Stg (spanL a) m (rowsV L) rank p col →
  ∃ r, petrinetref08_Echelon.l1 k x0 L (rank : Int) (col : Int) = some r ∧ PostR a n r := by
 intro d
 induction d with
 | zero =>
  intro col k rank L p hd hk hg hs
  obtain ⟨k, rfl⟩ : ∃ z, k = z + 2 := ⟨k - 2, by omega⟩
  have hL := hg.1
  have hkm := hs.km
  have h4 := rech_l4 (L := L) (rank := rank) (by omega) (by omega) rank 0 k (by omega) (by omega)
  rw [List.take_zero] at h4
  rw [petrinetref08_Echelon.l1, if_pos (by omega), if_neg (by omega), petrinetref08_Echelon.j2, if_neg (by decide)]
  exact ⟨_, h4, fun _ => ⟨p, Outc.ofR hg hs (by omega) (.inr (by omega))⟩⟩
 | succ d ih =>
  intro col k rank L p hd hk hg hs
  obtain ⟨k, rfl⟩ : ∃ z, k = z + 2 := ⟨k - 2, by omega⟩
  have hL := hg.1
  have hkm := hs.km
  have hcn : col < n := by omega
  rw [petrinetref08_Echelon.l1, if_pos (by omega), if_pos (by omega), petrinetref08_Echelon.j2]
  by_cases hrm : rank = m
  ·
   have h4 := rech_l4 (L := L) (rank := rank) (by omega) (by omega) rank 0 k (by omega) (by omega)
   rw [List.take_zero] at h4
   rw [if_neg (by simp; omega)]
   exact ⟨_, h4, fun _ => ⟨p, Outc.ofR hg hs (by omega) (.inl hrm)⟩⟩
  rw [if_pos (by simp; omega)]
  obtain ⟨q, k1, h1, h2, h3, h4, h5, h6⟩ := rech_l2 (x0 := x0) (rank := rank) hm hg hcn (m - rank) rank k (by omega) (by omega) (Nat.le_refl _)
  rw [h1]
  obtain ⟨k1, rfl⟩ : ∃ z, k1 = z + 1 := ⟨k1 - 1, by omega⟩
  have hkk : Bk + 300 * d + 450 ≤ k1 := by omega
  rw [petrinetref08_Echelon.j4]
  by_cases hqm : q = m
  ·
   rw [if_pos (by omega), wsucc (by omega)]
   exact ih (col + 1) k1 rank L p (by omega) (by omega) hg (hs.skip fun i h7 h8 => h5 i h7 (by omega))
  have hqlt : q < m := by omega
  have hqL : q < L.length := by omega
  have hrL : rank < L.length := by omega
  rw [if_neg (by omega), if_pos (by omega), if_pos (by omega), if_pos (by omega), if_pos (by omega)]
  obtain ⟨M, hMe⟩ : ∃ M, M = (L.set (q : Int).toNat (rd_L1 L (rank : Int))).set (rank : Int).toNat (rd_L1 L (q : Int)) := ⟨_, rfl⟩
  rw [← hMe]
  have hM : ∀ i : Nat, i < m → rd_L1 M (i : Int) = rd_L1 L ((if i = rank then q else if i = q then rank else i : Nat) : Int) := by
   intro i hi
   rw [hMe, show ((rank : Int).toNat) = rank by omega, show ((q : Int).toNat) = q by omega, rdL_set (by simp; omega)]
   by_cases e : i = rank
   ·
    rw [if_pos e, if_pos e]
   ·
    rw [if_neg e, if_neg e, rdL_set (by omega)]
    by_cases e' : i = q
    ·
     rw [if_pos e', if_pos e']
    ·
     rw [if_neg e', if_neg e']
  have hgM : goodR m n M := ⟨by rw [hMe]; simp; omega, fun i hi => by
   rw [hM i hi]
   exact hg.2 _ (by split; omega; split <;> omega)⟩
  have hMk : rd_L1 M (rank : Int) = rd_L1 L (q : Int) := by rw [hM rank (by omega), if_pos rfl]
  have hnz := h6 hqlt
  rcases rech_l3 (x0 := x0) hB hm hn hcn (show rank < m by omega) m 0 k1 M (by omega) (by omega) hgM (by rw [hMk]; exact hnz) with h | ⟨N, k', r1, r2, r3, r4, r5, r6⟩
  ·
   exact ⟨_, h, fun h => by cases h⟩
  ·
   have h7 : petrinetref08_Echelon.l3 k1 x0 M (rank : Int) (col : Int) 0 = petrinetref08_Echelon.l1 k' x0 N ((rank + 1 : Nat) : Int) ((col + 1 : Nat) : Int) := r1
   rw [h7]
   have hUk : rowsV N rank = rowsV L q := by unfold rowsV; rw [r4, hMk]
   have hst : Stp m rank q col (rowsV L) (rowsV N) := by
    refine ⟨h3, hqlt, hnz, ⟨1, 1, by decide, by decide, fun x => by rw [hUk]⟩, ?_, fun i hi hik => ?_, fun i hi hik => ?_, fun i hi hik => ?_⟩
    ·
     rw [hUk]
     exact (hg.2 q hqlt).2.2.resolve_right fun h => hnz (h col)
    all_goals
     have ht := r6 i (by omega) hi hik
     rw [hM i hi, if_neg hik] at ht
     rcases ht with ⟨t1, t2⟩ | ht
    ·
     exact ⟨1, 0, 1, by decide, by decide, fun x => by unfold rowsV; rw [t1]; simp⟩
    ·
     obtain ⟨a', b', g', ha, hg', e⟩ := ht.lin
     refine ⟨a', b', g', ha, hg', fun x => ?_⟩
     have := e x
     rw [hMk] at this
     rw [hUk]
     exact this
    ·
     show vec (rd_L1 N (i : Int)) col = 0
     rw [t1]; exact t2
    ·
     exact ht.zr
    ·
     exact .inl fun x => by unfold rowsV; rw [t1]
    ·
     exact .inr ht.pr
   exact ih (col + 1) k' (rank + 1) N _ (by omega) (by omega) r3 (hs.step hst)
end Go.Proofs.Ytckefohfahphpaa.Z
end
section
namespace Go.Proofs.Ytckefohfahphpaa.Z
open Go.RowKit Go.Proofs.YtckefohfahphpaaW.PrintWords Go.Proofs.YtckefohfahphpaaW.PrintLast Go.Proofs.YtckefohfahphpaaW.PrintMore
attribute [local go_sem] max2_int min2_int max_two min_two max_three min_three max_four min_four
mutual
def petrinetref08_Small.j0 : Nat → List (List Int) → Bool → Option (Bool)
 | 0, _, _ => none
 | k + 1, x0, x19 => if x19 = true then (some false) else (petrinetref08_Small.l0 k x0 0)
def petrinetref08_Small.l0 : Nat → List (List Int) → Int → Option (Bool)
 | 0, _, _ => none
 | k + 1, x0, x3 => if x3 < (x0.length : Int) then (petrinetref08_Small.l1 k x0 x3 0) else (some true)
def petrinetref08_Small.l1 : Nat → List (List Int) → Int → Int → Option (Bool)
 | 0, _, _, _ => none
 | k + 1, x0, x3, x4 => if 0 ≤ x3 then (if x3 < (x0.length : Int) then (if x4 < ((rd_L1 x0 x3).length : Int) then (if 0 ≤ x4 then (if (rd (rd_L1 x0 x3) x4) < (-3) then (some false) else (if (rd (rd_L1 x0 x3) x4) > 3 then (some false) else (petrinetref08_Small.l1 k x0 x3 (wrap64 (x4 + 1))))) else (none)) else (petrinetref08_Small.l0 k x0 (wrap64 (x3 + 1)))) else (none)) else (none)
end
def petrinetref08_Small.f (k : Nat) (l0 : List (List Int)) : Option (Bool) := (petrinetref08_Valid.f k l0).bind fun t288 => (if t288 = true then (if (l0.length : Int) > 8 then (petrinetref08_Small.j0 k l0 true) else (if 0 < (l0.length : Int) then (petrinetref08_Small.j0 k l0 (decide (((rd_L1 l0 0).length : Int) > 8))) else (none))) else (petrinetref08_Small.j0 k l0 true))
theorem petrinetref08_Small.mono_l : ∀ k, (∀ y0 y1, LeO (petrinetref08_Small.j0 k y0 y1) (petrinetref08_Small.j0 (k + 1) y0 y1)) ∧ (∀ y0 y1, LeO (petrinetref08_Small.l0 k y0 y1) (petrinetref08_Small.l0 (k + 1) y0 y1)) ∧ (∀ y0 y1 y2, LeO (petrinetref08_Small.l1 k y0 y1 y2) (petrinetref08_Small.l1 (k + 1) y0 y1 y2))
 | 0 => ⟨fun _ _ r h => by simp [petrinetref08_Small.j0] at h, fun _ _ r h => by simp [petrinetref08_Small.l0] at h, fun _ _ _ r h => by simp [petrinetref08_Small.l1] at h⟩
 | k + 1 => by
  obtain ⟨ih0, ih1, ih2⟩ := petrinetref08_Small.mono_l k
  refine ⟨?_, ?_, ?_⟩
  ·
   intro y0 y1
   unfold petrinetref08_Small.j0
   repeat' first
   | (with_reducible exact ih0 _ _)
   | (with_reducible exact ih1 _ _)
   | (with_reducible exact ih2 _ _ _)
   | (with_reducible exact petrinetref08_Valid.mono _ _)
   | (with_reducible exact LeO.refl _)
   | (with_reducible exact LeO.none _)
   | (with_reducible refine LeO.ite ?_ ?_)
   | (with_reducible refine LeO.bind ?_ (fun _ => ?_))
   | exact ih0 _ _
   | exact ih1 _ _
   | exact ih2 _ _ _
   | exact petrinetref08_Valid.mono _ _
   | exact LeO.none _
   | refine LeO.ite ?_ ?_
   | refine LeO.bind ?_ (fun _ => ?_)
  ·
   intro y0 y1
   unfold petrinetref08_Small.l0
   repeat' first
   | (with_reducible exact ih0 _ _)
   | (with_reducible exact ih1 _ _)
   | (with_reducible exact ih2 _ _ _)
   | (with_reducible exact petrinetref08_Valid.mono _ _)
   | (with_reducible exact LeO.refl _)
   | (with_reducible exact LeO.none _)
   | (with_reducible refine LeO.ite ?_ ?_)
   | (with_reducible refine LeO.bind ?_ (fun _ => ?_))
   | exact ih0 _ _
   | exact ih1 _ _
   | exact ih2 _ _ _
   | exact petrinetref08_Valid.mono _ _
   | exact LeO.none _
   | refine LeO.ite ?_ ?_
   | refine LeO.bind ?_ (fun _ => ?_)
  ·
   intro y0 y1 y2
   unfold petrinetref08_Small.l1
   repeat' first
   | (with_reducible exact ih0 _ _)
   | (with_reducible exact ih1 _ _)
   | (with_reducible exact ih2 _ _ _)
   | (with_reducible exact petrinetref08_Valid.mono _ _)
   | (with_reducible exact LeO.refl _)
   | (with_reducible exact LeO.none _)
   | (with_reducible refine LeO.ite ?_ ?_)
   | (with_reducible refine LeO.bind ?_ (fun _ => ?_))
   | exact ih0 _ _
   | exact ih1 _ _
   | exact ih2 _ _ _
   | exact petrinetref08_Valid.mono _ _
   | exact LeO.none _
   | refine LeO.ite ?_ ?_
   | refine LeO.bind ?_ (fun _ => ?_)
theorem petrinetref08_Small.mono : ∀ a0 k, LeO (petrinetref08_Small.f k a0) (petrinetref08_Small.f (k + 1) a0) := by
 intro a0 k
 obtain ⟨ih0, ih1, ih2⟩ := petrinetref08_Small.mono_l k
 unfold petrinetref08_Small.f
 repeat' first
   | (with_reducible exact ih0 _ _)
   | (with_reducible exact ih1 _ _)
   | (with_reducible exact ih2 _ _ _)
   | (with_reducible exact petrinetref08_Valid.mono _ _)
   | (with_reducible exact LeO.refl _)
   | (with_reducible exact LeO.none _)
   | (with_reducible refine LeO.ite ?_ ?_)
   | (with_reducible refine LeO.bind ?_ (fun _ => ?_))
   | exact ih0 _ _
   | exact ih1 _ _
   | exact ih2 _ _ _
   | exact petrinetref08_Valid.mono _ _
   | exact LeO.none _
   | refine LeO.ite ?_ ?_
   | refine LeO.bind ?_ (fun _ => ?_)
set_option maxHeartbeats 8000000 in
set_option maxRecDepth 100000 in
theorem petrinetref08_Small.calls (k : Nat) (A0 : Option Addr) (c0 : Nat) (l0 : List (List Int)) (r : Bool) (w : World) (hr0 : Kd.C (Kd.slice 2 (Kd.int .i64)) w A0 l0.length l0) (hc0 : l0.length ≤ c0) (h : petrinetref08_Small.f k l0 = some r) :
  Calls Try.prog 12 #[.slice A0 l0.length c0] w fun e w' => e = .returned (.bool r) ∧ Drawn0 w w' := by
 have HR0 := Aside0.mk hr0
 have HC0 := Aside0.mk hc0
 clear hr0 hc0
 have H : ((petrinetref08_Valid.f k l0).bind fun t288 => (if t288 = true then (if (l0.length : Int) > 8 then (petrinetref08_Small.j0 k l0 true) else (if 0 < (l0.length : Int) then (petrinetref08_Small.j0 k l0 (decide (((rd_L1 l0 0).length : Int) > 8))) else (none))) else (petrinetref08_Small.j0 k l0 true))) = some r := h
 clear h
 have HC2 := Aside0.mk H
 clear H
 go_enter Try.func12, Try.ntmps12
 go_upto_region 1 with (fail)
 go_cut [19] (fun v19 wc => ∃ (kq : Nat) (x19_1 : Bool), v19 = .bool x19_1 ∧ Aside0 (petrinetref08_Small.j0 kq l0 x19_1 = some r) ∧ Aside0 (kq ≤ k) ∧ Drawn0 w wc)
 case first =>
  have H := HC2.out; clear HC2; replace H := Option.bind_eq_some_iff.mp H; obtain ⟨t288, A30, H⟩ := H; replace H : (if t288 = true then (if (l0.length : Int) > 8 then (petrinetref08_Small.j0 k l0 true) else (if 0 < (l0.length : Int) then (petrinetref08_Small.j0 k l0 (decide (((rd_L1 l0 0).length : Int) > 8))) else (none))) else (petrinetref08_Small.j0 k l0 true)) = some r := H; have A3 := Aside0.mk A30; clear A30; by_cases c4 : t288 = true
  ·
   subst c4; (have H1 : (if (l0.length : Int) > 8 then (petrinetref08_Small.j0 k l0 true) else (if 0 < (l0.length : Int) then (petrinetref08_Small.j0 k l0 (decide (((rd_L1 l0 0).length : Int) > 8))) else (none))) = some r := by rw [if_pos rfl] at H; exact H); clear H; have H := H1; clear H1; by_cases c5 : (l0.length : Int) > 8
   ·
    rw [if_pos c5] at H; have c5b0 : decide (8 < (l0.length : Int)) = true := decide_eq_true c5; (have c5b1 : decide (8 < l0.length) = true := decide_eq_true (by omega)); clear c5; (first | rw [c5b0] | (simp only [i64_w, i32_w]; rw [c5b0]) | skip); have H' := Aside0.mk H; clear H; (go_wp2_with (first | ((with_reducible refine gate_callee (f := 10) rfl ?_); refine goesL_ (some 6) rfl rfl Try.func10 (by kernel_rfl) rfl #[.slice A0 l0.length c0] rfl (by (try simp only [List.map_toArray, List.map_cons, List.map_nil]); first | done | rfl | (simp only [List.length_drop, List.length_take]; rfl)) ?_; (with_reducible refine (petrinetref08_Valid.calls k _ _ l0 true _ ?side1 ?side2 A3.out).mono ?_); (case side1 => repeat (first | exact HR0.out | (with_reducible refine Kd.C_alloc ?_ _) | (with_reducible refine Kd.C_drewN ?_ _) | (with_reducible refine Kd.C_drew ?_))); (case side2 => exact HC0.out); rintro e w' ⟨rfl, ⟨nd, rfl⟩⟩; refine ⟨_, rfl, ?_⟩))); go_meet
    case rel => exact ⟨_, (true), (by first | rfl | (simp; done) | (simp [*]; done)), H', ⟨by first | omega | exact Nat.le_refl _⟩, by repeat (first | exact Drawn0.refl _ | apply Drawn0.step)⟩
   ·
    rw [if_neg c5] at H; have c5b0 : decide (8 < (l0.length : Int)) = false := decide_eq_false c5; (have c5b1 : decide (8 < l0.length) = false := decide_eq_false (by omega)); clear c5; (first | rw [c5b0] | (simp only [i64_w, i32_w]; rw [c5b0]) | skip); by_cases c6 : 0 < (l0.length : Int)
    ·
     rw [if_pos c6] at H; have c6b0 : decide (0 < (l0.length : Int)) = true := decide_eq_true c6; (have c6b1 : decide (0 < l0.length) = true := decide_eq_true (by omega)); clear c6; have H' := Aside0.mk H; clear H; (go_wp2_with (first | ((with_reducible refine gate_callee (f := 10) rfl ?_); refine goesL_ (some 6) rfl rfl Try.func10 (by kernel_rfl) rfl #[.slice A0 l0.length c0] rfl (by (try simp only [List.map_toArray, List.map_cons, List.map_nil]); first | done | rfl | (simp only [List.length_drop, List.length_take]; rfl)) ?_; (with_reducible refine (petrinetref08_Valid.calls k _ _ l0 true _ ?side1 ?side2 A3.out).mono ?_); (case side1 => repeat (first | exact HR0.out | (with_reducible refine Kd.C_alloc ?_ _) | (with_reducible refine Kd.C_drewN ?_ _) | (with_reducible refine Kd.C_drew ?_))); (case side2 => exact HC0.out); rintro e w' ⟨rfl, ⟨nd, rfl⟩⟩; refine ⟨_, rfl, ?_⟩; have p289 : 0 ≤ (0 : Int) := (by omega); have q289 : 0 < (l0.length : Int) := of_decide_eq_true (by first | (with_reducible assumption) | assumption); obtain ⟨ad289, A289_0, c289_0, e289, hx289_0, hl289_0, hi289_0⟩ := at_L1 HR0.out 0 p289 q289; cases e289; have qi289 : (0 < l0.length) = True := eq_true (by omega); (try rw [show ((0 : Int)).toNat = 0 from rfl] at hx289_0); (try rw [Addr.add_zero'] at hx289_0); have HR289_0 := Aside0.mk hi289_0; have HC289_0 := Aside0.mk hl289_0; clear hi289_0 hl289_0; replace p289 := eq_true p289; replace q289 := eq_true q289))); go_meet
     case rel => exact ⟨_, (decide (((rd_L1 l0 0).length : Int) > 8)), (by first | rfl | (simp; done) | (simp [*]; done)), H', ⟨by first | omega | exact Nat.le_refl _⟩, by repeat (first | exact Drawn0.refl _ | apply Drawn0.step)⟩
    ·
     rw [if_neg c6] at H; (exact absurd H (by simp))
  ·
   replace c4 := Bool.eq_false_iff.mpr c4; subst c4; (have H1 : (petrinetref08_Small.j0 k l0 true) = some r := by rw [if_neg (show ¬ (false = true) by decide)] at H; exact H); clear H; have H := H1; clear H1; have H' := Aside0.mk H; clear H; (go_wp2_with (first | ((with_reducible refine gate_callee (f := 10) rfl ?_); refine goesL_ (some 6) rfl rfl Try.func10 (by kernel_rfl) rfl #[.slice A0 l0.length c0] rfl (by (try simp only [List.map_toArray, List.map_cons, List.map_nil]); first | done | rfl | (simp only [List.length_drop, List.length_take]; rfl)) ?_; (with_reducible refine (petrinetref08_Valid.calls k _ _ l0 false _ ?side1 ?side2 A3.out).mono ?_); (case side1 => repeat (first | exact HR0.out | (with_reducible refine Kd.C_alloc ?_ _) | (with_reducible refine Kd.C_drewN ?_ _) | (with_reducible refine Kd.C_drew ?_))); (case side2 => exact HC0.out); rintro e w' ⟨rfl, ⟨nd, rfl⟩⟩; refine ⟨_, rfl, ?_⟩))); go_meet
   case rel => exact ⟨_, (true), (by first | rfl | (simp; done) | (simp [*]; done)), H', ⟨by first | omega | exact Nat.le_refl _⟩, by repeat (first | exact Drawn0.refl _ | apply Drawn0.step)⟩
 case rest =>
  clear HC2; (try clear c1); (try clear c2); (try clear p2); (try clear q2); (try clear hx2); (try clear qi2); (try clear c4); (try clear c5); (try clear c5b0); (try clear c5b1); (try clear c6); (try clear c6b0); (try clear c6b1); (try clear hx289_0); (try clear p289); (try clear q289); obtain ⟨kq, x19_1, rfl, HA, HJ1, ⟨mc1, rfl⟩⟩ := hcut
  cases kq with
  | zero => exact absurd HA.out (by simp [petrinetref08_Small.j0])
  | succ kj1 =>
   have H := HA.out; clear HA; simp only [petrinetref08_Small.j0] at H; by_cases c7 : x19_1 = true
   ·
    subst c7; (have H1 : (some false) = some r := by rw [if_pos rfl] at H; exact H); clear H; have H := H1; clear H1; obtain rfl := Option.some.inj H; go_wp2; go_ret; (exact ⟨by first | rfl | (simp; done) | (simp [*]; done), by repeat (first | exact Drawn0.refl _ | apply Drawn0.step)⟩)
   ·
    replace c7 := Bool.eq_false_iff.mpr c7; subst c7; (have H1 : (petrinetref08_Small.l0 kj1 l0 0) = some r := by rw [if_neg (show ¬ (false = true) by decide)] at H; exact H); clear H; have H := H1; clear H1; have H' := Aside0.mk H; clear H; go_wp2
    go_loopg [3] kj1 (fun kq v3 w' => ∃ (x3_2 : Int), v3 = .int .i64 x3_2 ∧ Aside0 (petrinetref08_Small.l0 kq l0 x3_2 = some r) ∧ Aside0 (kq ≤ kj1) ∧ Drawn0 w w')
    case atStart => exact ⟨(0), (by first | rfl | (simp; done) | (simp [*]; done)), H', ⟨Nat.le_refl _⟩, by repeat (first | exact Drawn0.refl _ | apply Drawn0.step)⟩
    case round =>
     clear H'; (try clear c1); (try clear c2); (try clear p2); (try clear q2); (try clear hx2); (try clear qi2); (try clear c4); (try clear c5); (try clear c5b0); (try clear c5b1); (try clear c6); (try clear c6b0); (try clear c6b1); (try clear c7); (try clear hx289_0); (try clear p2); (try clear p289); (try clear q2); (try clear q289); obtain ⟨x3_2, rfl, HA, HK2, ⟨m2, rfl⟩⟩ := hrel
     cases gk with
     | zero => exact absurd HA.out (by simp [petrinetref08_Small.l0])
     | succ k2 =>
      have H := HA.out; clear HA; simp only [petrinetref08_Small.l0] at H; by_cases c8 : x3_2 < (l0.length : Int)
      ·
       rw [if_pos c8] at H; have c8b0 : decide (x3_2 < (l0.length : Int)) = true := decide_eq_true c8; clear c8; have H' := Aside0.mk H; clear H; go_wp2
       go_loopg [4] k2 (fun kq v4 w' => ∃ (x4_3 : Int), v4 = .int .i64 x4_3 ∧ Aside0 (petrinetref08_Small.l1 kq l0 x3_2 x4_3 = some r) ∧ Aside0 (kq ≤ k2) ∧ Drawn0 w w')
       case atStart => exact ⟨(0), (by first | rfl | (simp; done) | (simp [*]; done)), H', ⟨Nat.le_refl _⟩, by repeat (first | exact Drawn0.refl _ | apply Drawn0.step)⟩
       case round =>
        clear H'; (try clear c1); (try clear c2); (try clear p2); (try clear q2); (try clear hx2); (try clear qi2); (try clear c4); (try clear c5); (try clear c5b0); (try clear c5b1); (try clear c6); (try clear c6b0); (try clear c6b1); (try clear c7); (try clear c8); (try clear c8b0); (try clear hx289_0); (try clear p2); (try clear p289); (try clear q2); (try clear q289); obtain ⟨x4_3, rfl, HA, HK3, ⟨m3, rfl⟩⟩ := hrel
        cases gk with
        | zero => exact absurd HA.out (by simp [petrinetref08_Small.l1])
        | succ k3 =>
         have H := HA.out; clear HA; simp only [petrinetref08_Small.l1] at H; by_cases c9 : 0 ≤ x3_2
         ·
          rw [if_pos c9] at H; have c9b0 : decide (0 ≤ x3_2) = true := decide_eq_true c9; clear c9; by_cases c10 : x3_2 < (l0.length : Int)
          ·
           rw [if_pos c10] at H; have c10b0 : decide (x3_2 < (l0.length : Int)) = true := decide_eq_true c10; clear c10; by_cases c11 : x4_3 < ((rd_L1 l0 x3_2).length : Int)
           ·
            rw [if_pos c11] at H; have c11b0 : decide (x4_3 < ((rd_L1 l0 x3_2).length : Int)) = true := decide_eq_true c11; clear c11; by_cases c12 : 0 ≤ x4_3
            ·
             rw [if_pos c12] at H; have c12b0 : decide (0 ≤ x4_3) = true := decide_eq_true c12; clear c12; by_cases c13 : (rd (rd_L1 l0 x3_2) x4_3) < (-3)
             ·
              rw [if_pos c13] at H; have c13b0 : decide ((rd (rd_L1 l0 x3_2) x4_3) < (-3)) = true := decide_eq_true c13; clear c13; obtain rfl := Option.some.inj H; (have p290 : 0 ≤ (x3_2 : Int) := of_decide_eq_true (by first | (with_reducible assumption) | assumption)); (have q290 : x3_2 < (l0.length : Int) := of_decide_eq_true (by first | (with_reducible assumption) | assumption)); obtain ⟨ad290, A290_0, c290_0, e290, hx290_0, hl290_0, hi290_0⟩ := at_L1 HR0.out x3_2 p290 q290
              cases e290
              have HR290_0 := Aside0.mk hi290_0; have HC290_0 := Aside0.mk hl290_0; clear hi290_0 hl290_0; replace p290 := eq_true p290; replace q290 := eq_true q290; (have p291 : 0 ≤ (x3_2 : Int) := of_decide_eq_true (by first | (with_reducible assumption) | assumption)); (have q291 : x3_2 < (l0.length : Int) := of_decide_eq_true (by first | (with_reducible assumption) | assumption)); obtain ⟨ad291, A291_0, c291_0, e291, hx291_0, hl291_0, hi291_0⟩ := at_L1 HR0.out x3_2 p291 q291; (obtain rfl : ad290 = ad291 := (by injection e291)); have HR291_0 := Aside0.mk hi291_0; have HC291_0 := Aside0.mk hl291_0; clear hi291_0 hl291_0; replace p291 := eq_true p291; replace q291 := eq_true q291; have ea_ := Option.some.inj (hx290_0.symm.trans hx291_0); injection ea_ with ea_ en_ ec_; subst ea_; subst ec_; clear en_; (have p292 : 0 ≤ (x4_3 : Int) := of_decide_eq_true (by first | (with_reducible assumption) | assumption)); (have q292 : x4_3 < ((rd_L1 l0 x3_2).length : Int) := of_decide_eq_true (by first | (with_reducible assumption) | assumption)); obtain ⟨ad292, e292, hx292_0⟩ := Kd.at_int HR291_0.out x4_3 p292 q292
              cases e292
              replace p292 := eq_true p292; replace q292 := eq_true q292; go_wp2; go_ret; (exact ⟨by first | rfl | (simp; done) | (simp [*]; done), by repeat (first | exact Drawn0.refl _ | apply Drawn0.step)⟩)
             ·
              rw [if_neg c13] at H; have c13b0 : decide ((rd (rd_L1 l0 x3_2) x4_3) < (-3)) = false := decide_eq_false c13; clear c13; by_cases c14 : (rd (rd_L1 l0 x3_2) x4_3) > 3
              ·
               rw [if_pos c14] at H; have c14b0 : decide (3 < (rd (rd_L1 l0 x3_2) x4_3)) = true := decide_eq_true c14; clear c14; obtain rfl := Option.some.inj H; (have p290 : 0 ≤ (x3_2 : Int) := of_decide_eq_true (by first | (with_reducible assumption) | assumption)); (have q290 : x3_2 < (l0.length : Int) := of_decide_eq_true (by first | (with_reducible assumption) | assumption)); obtain ⟨ad290, A290_0, c290_0, e290, hx290_0, hl290_0, hi290_0⟩ := at_L1 HR0.out x3_2 p290 q290
               cases e290
               have HR290_0 := Aside0.mk hi290_0; have HC290_0 := Aside0.mk hl290_0; clear hi290_0 hl290_0; replace p290 := eq_true p290; replace q290 := eq_true q290; (have p291 : 0 ≤ (x3_2 : Int) := of_decide_eq_true (by first | (with_reducible assumption) | assumption)); (have q291 : x3_2 < (l0.length : Int) := of_decide_eq_true (by first | (with_reducible assumption) | assumption)); obtain ⟨ad291, A291_0, c291_0, e291, hx291_0, hl291_0, hi291_0⟩ := at_L1 HR0.out x3_2 p291 q291; (obtain rfl : ad290 = ad291 := (by injection e291)); have HR291_0 := Aside0.mk hi291_0; have HC291_0 := Aside0.mk hl291_0; clear hi291_0 hl291_0; replace p291 := eq_true p291; replace q291 := eq_true q291; have ea_ := Option.some.inj (hx290_0.symm.trans hx291_0); injection ea_ with ea_ en_ ec_; subst ea_; subst ec_; clear en_; (have p292 : 0 ≤ (x4_3 : Int) := of_decide_eq_true (by first | (with_reducible assumption) | assumption)); (have q292 : x4_3 < ((rd_L1 l0 x3_2).length : Int) := of_decide_eq_true (by first | (with_reducible assumption) | assumption)); obtain ⟨ad292, e292, hx292_0⟩ := Kd.at_int HR291_0.out x4_3 p292 q292
               cases e292
               replace p292 := eq_true p292; replace q292 := eq_true q292; (have p293 : 0 ≤ (x3_2 : Int) := of_decide_eq_true (by first | (with_reducible assumption) | assumption)); (have q293 : x3_2 < (l0.length : Int) := of_decide_eq_true (by first | (with_reducible assumption) | assumption)); obtain ⟨ad293, A293_0, c293_0, e293, hx293_0, hl293_0, hi293_0⟩ := at_L1 HR0.out x3_2 p293 q293; (obtain rfl : ad290 = ad293 := (by injection e293)); have HR293_0 := Aside0.mk hi293_0; have HC293_0 := Aside0.mk hl293_0; clear hi293_0 hl293_0; replace p293 := eq_true p293; replace q293 := eq_true q293; have ea_ := Option.some.inj (hx290_0.symm.trans hx293_0); injection ea_ with ea_ en_ ec_; subst ea_; subst ec_; clear en_; (have p294 : 0 ≤ (x4_3 : Int) := of_decide_eq_true (by first | (with_reducible assumption) | assumption)); (have q294 : x4_3 < ((rd_L1 l0 x3_2).length : Int) := of_decide_eq_true (by first | (with_reducible assumption) | assumption)); obtain ⟨ad294, e294, hx294_0⟩ := Kd.at_int HR293_0.out x4_3 p294 q294
               cases e294
               replace p294 := eq_true p294; replace q294 := eq_true q294; go_wp2; go_ret; (exact ⟨by first | rfl | (simp; done) | (simp [*]; done), by repeat (first | exact Drawn0.refl _ | apply Drawn0.step)⟩)
              ·
               rw [if_neg c14] at H; have c14b0 : decide (3 < (rd (rd_L1 l0 x3_2) x4_3)) = false := decide_eq_false c14; clear c14; have H' := Aside0.mk H; clear H; (have p290 : 0 ≤ (x3_2 : Int) := of_decide_eq_true (by first | (with_reducible assumption) | assumption)); (have q290 : x3_2 < (l0.length : Int) := of_decide_eq_true (by first | (with_reducible assumption) | assumption)); obtain ⟨ad290, A290_0, c290_0, e290, hx290_0, hl290_0, hi290_0⟩ := at_L1 HR0.out x3_2 p290 q290
               cases e290
               have HR290_0 := Aside0.mk hi290_0; have HC290_0 := Aside0.mk hl290_0; clear hi290_0 hl290_0; replace p290 := eq_true p290; replace q290 := eq_true q290; (have p291 : 0 ≤ (x3_2 : Int) := of_decide_eq_true (by first | (with_reducible assumption) | assumption)); (have q291 : x3_2 < (l0.length : Int) := of_decide_eq_true (by first | (with_reducible assumption) | assumption)); obtain ⟨ad291, A291_0, c291_0, e291, hx291_0, hl291_0, hi291_0⟩ := at_L1 HR0.out x3_2 p291 q291; (obtain rfl : ad290 = ad291 := (by injection e291)); have HR291_0 := Aside0.mk hi291_0; have HC291_0 := Aside0.mk hl291_0; clear hi291_0 hl291_0; replace p291 := eq_true p291; replace q291 := eq_true q291; have ea_ := Option.some.inj (hx290_0.symm.trans hx291_0); injection ea_ with ea_ en_ ec_; subst ea_; subst ec_; clear en_; (have p292 : 0 ≤ (x4_3 : Int) := of_decide_eq_true (by first | (with_reducible assumption) | assumption)); (have q292 : x4_3 < ((rd_L1 l0 x3_2).length : Int) := of_decide_eq_true (by first | (with_reducible assumption) | assumption)); obtain ⟨ad292, e292, hx292_0⟩ := Kd.at_int HR291_0.out x4_3 p292 q292
               cases e292
               replace p292 := eq_true p292; replace q292 := eq_true q292; (have p293 : 0 ≤ (x3_2 : Int) := of_decide_eq_true (by first | (with_reducible assumption) | assumption)); (have q293 : x3_2 < (l0.length : Int) := of_decide_eq_true (by first | (with_reducible assumption) | assumption)); obtain ⟨ad293, A293_0, c293_0, e293, hx293_0, hl293_0, hi293_0⟩ := at_L1 HR0.out x3_2 p293 q293; (obtain rfl : ad290 = ad293 := (by injection e293)); have HR293_0 := Aside0.mk hi293_0; have HC293_0 := Aside0.mk hl293_0; clear hi293_0 hl293_0; replace p293 := eq_true p293; replace q293 := eq_true q293; have ea_ := Option.some.inj (hx290_0.symm.trans hx293_0); injection ea_ with ea_ en_ ec_; subst ea_; subst ec_; clear en_; (have p294 : 0 ≤ (x4_3 : Int) := of_decide_eq_true (by first | (with_reducible assumption) | assumption)); (have q294 : x4_3 < ((rd_L1 l0 x3_2).length : Int) := of_decide_eq_true (by first | (with_reducible assumption) | assumption)); obtain ⟨ad294, e294, hx294_0⟩ := Kd.at_int HR293_0.out x4_3 p294 q294
               cases e294
               replace p294 := eq_true p294; replace q294 := eq_true q294; go_wp2; go_roundg k3
               case measure => have := HJ1.out; have := HK2.out; have := HK3.out; omega
               case rel => exact ⟨(wrap64 (x4_3 + 1)), (by first | rfl | (simp; done) | (simp [*]; done)), H', ⟨by have := HJ1.out; have := HK2.out; have := HK3.out; omega⟩, by repeat (first | exact Drawn0.refl _ | apply Drawn0.step)⟩
            ·
             rw [if_neg c12] at H; (exact absurd H (by simp))
           ·
            rw [if_neg c11] at H; have c11b0 : decide (x4_3 < ((rd_L1 l0 x3_2).length : Int)) = false := decide_eq_false c11; clear c11; have H' := Aside0.mk H; clear H; (have p290 : 0 ≤ (x3_2 : Int) := of_decide_eq_true (by first | (with_reducible assumption) | assumption)); (have q290 : x3_2 < (l0.length : Int) := of_decide_eq_true (by first | (with_reducible assumption) | assumption)); obtain ⟨ad290, A290_0, c290_0, e290, hx290_0, hl290_0, hi290_0⟩ := at_L1 HR0.out x3_2 p290 q290
            cases e290
            have HR290_0 := Aside0.mk hi290_0; have HC290_0 := Aside0.mk hl290_0; clear hi290_0 hl290_0; replace p290 := eq_true p290; replace q290 := eq_true q290; go_wp2; go_roundg k3
            case measure => have := HJ1.out; have := HK2.out; have := HK3.out; omega
            case rel => exact ⟨(wrap64 (x3_2 + 1)), (by first | rfl | (simp; done) | (simp [*]; done)), H', ⟨by have := HJ1.out; have := HK2.out; have := HK3.out; omega⟩, by repeat (first | exact Drawn0.refl _ | apply Drawn0.step)⟩
          ·
           rw [if_neg c10] at H; (exact absurd H (by simp))
         ·
          rw [if_neg c9] at H; (exact absurd H (by simp))
      ·
       rw [if_neg c8] at H; have c8b0 : decide (x3_2 < (l0.length : Int)) = false := decide_eq_false c8; clear c8; obtain rfl := Option.some.inj H; go_wp2; go_ret; (exact ⟨by first | rfl | (simp; done) | (simp [*]; done), by repeat (first | exact Drawn0.refl _ | apply Drawn0.step)⟩)
end Go.Proofs.Ytckefohfahphpaa.Z
end
section
namespace Go.Proofs.Ytckefohfahphpaa.Z
open Go.RowKit Go.Proofs.YtckefohfahphpaaW.PrintWords Go.Proofs.YtckefohfahphpaaW.PrintLast Go.Proofs.YtckefohfahphpaaW.PrintMore
theorem rdL_snoc (l : List (List Int)) (s : List Int) (j : Nat) : rd_L1 (l ++ [s]) (j : Int) = if j = l.length then s else rd_L1 l (j : Int) := by
 simp only [rd_L1, List.getD_eq_getElem?_getD, Int.toNat_natCast]
 by_cases h : j < l.length
 ·
  rw [if_neg (by omega), List.getElem?_append_left h]
 ·
  rw [List.getElem?_append_right (by omega)]
  by_cases e : j = l.length
  ·
   subst e; simp
  ·
   rw [if_neg e, List.getElem?_eq_none (by simp; omega), List.getElem?_eq_none (by omega)]
theorem rech_l0 {a : List (List Int)} {n Bk : Nat} (hB : Lots Bk) (hp : 0 < a.length) (hm : a.length ≤ 64) (hn : n ≤ 64) (hx : (rd_L1 a 0).length = n) (ha : ∀ i : Nat, i < a.length → okr n (rd_L1 a (i : Int))) : ∀ (d i k : Nat) (acc : List (List Int)), i + d = a.length → Bk + 300 * n + 301 + d ≤ k → acc.length = i →
  (∀ j : Nat, j < i → rowR n (rd_L1 acc (j : Int)) ∧ ∃ σ g : Int, σ ≠ 0 ∧ 0 < g ∧ ∀ x, σ * vec (rd_L1 a (j : Int)) x = g * vec (rd_L1 acc (j : Int)) x) →
  ∃ r, petrinetref08_Echelon.l0 k a acc (i : Int) = some r ∧ PostR a n r := by
 intro d
 induction d with
 | zero =>
  intro i k acc hi hk hl hacc
  obtain ⟨k, rfl⟩ : ∃ z, k = z + 1 := ⟨k - 1, by omega⟩
  rw [petrinetref08_Echelon.l0, if_neg (by omega)]
  have hst : Stg (spanL a) a.length (rowsV acc) 0 (fun _ => 0) 0 := by
   refine ⟨Nat.zero_le _, fun j hj => ?_, fun v hv => ?_, fun i j _ h => by omega, fun i h => by omega, fun i h => by omega, fun i _ j h => by omega, fun i h => by omega, fun i _ _ x h => by omega, fun i h => by omega⟩
   ·
    obtain ⟨_, σ, g, h1, h2, h3⟩ := hacc j (by omega)
    exact Sp.from (a := σ) (b := 0) (v := rowsV a j) (w := rowsV a j) (g := g) (by omega) (fun x => by simp only [rowsV]; rw [← h3]; simp) (.mem (vs_of hj)) (.mem (vs_of hj))
   ·
    obtain ⟨j, hj, rfl⟩ := mem_vs.mp hv
    obtain ⟨_, σ, g, h1, h2, h3⟩ := hacc j (by omega)
    exact Sp.from (a := g) (b := 0) (v := rowsV acc j) (w := rowsV acc j) (g := σ) h1 (fun x => by simp only [rowsV]; rw [h3]; simp) (.mem (vs_of hj)) (.mem (vs_of hj))
  exact rech_l1 hB hm hn hp hx n 0 k 0 acc _ (by omega) (by omega) ⟨by omega, fun j hj => (hacc j (by omega)).1⟩ hst
 | succ d ih =>
  intro i k acc hi hk hl hacc
  obtain ⟨k, rfl⟩ : ∃ z, k = z + 1 := ⟨k - 1, by omega⟩
  have hkb : Lots k := hB.le (by omega)
  have hk' : Bk + 300 * n + 301 + d ≤ k := by omega
  rw [petrinetref08_Echelon.l0, if_pos (by omega), if_pos (by omega)]
  rcases rprm_spec (k := k) (ha i (by omega)) hn (Nat.le_trans (by decide) hkb.out) with ⟨s, h⟩ | ⟨s, h, h1, h2, σ, g, h3, h4, h5, h6⟩
  ·
   rw [h]
   exact ⟨([], false), rfl, fun h => by cases h⟩
  ·
   rw [h]
   simp only [Option.bind_some, if_true]
   rw [if_pos (by omega), wsucc (by omega)]
   refine ih (i + 1) k _ (by omega) hk' (by simp; omega) fun j hj => ?_
   rw [rdL_snoc]
   by_cases e : j = acc.length
   ·
    rw [if_pos e]
    have e' : j = i := by omega
    rw [e']
    refine ⟨⟨h1, h2, ?_⟩, σ, g, h3, h4, h5⟩
    rcases h6 with h6 | h6
    ·
     refine .inr fun x => ?_
     have := h5 x
     rw [h6 x, Int.mul_zero] at this
     exact (Int.mul_eq_zero.mp this.symm).resolve_left (by omega)
    ·
     exact .inl h6
   ·
    rw [if_neg e]
    exact hacc j (by omega)
theorem rows_ok {a : List (List Int)} {n : Nat} (h5 : ∀ r ∈ a, r.length = n) (ha : ∀ r ∈ a, ok64 r) (i : Nat) (hi : i < a.length) : okr n (rd_L1 a (i : Int)) := by
 have := rdL_mem (a := a) (j := (i : Int)) (by omega) (by omega)
 exact ⟨h5 _ this, ha _ this⟩
theorem rech_spec {k : Nat} {a : List (List Int)} (hv : validB a = true) (ha : ∀ r ∈ a, ok64 r) (hB : 9223372036854775808 + 30000 ≤ k) : ∃ r, petrinetref08_Echelon.f k a = some r ∧ PostR a (rd_L1 a 0).length r := by
 obtain ⟨n, h1, h2, h3, h4, h5, h6⟩ := validB_iff.mp hv
 obtain ⟨Bk, hBe⟩ : ∃ z, k = z + 20000 := ⟨k - 20000, by omega⟩
 have hL : Lots Bk := ⟨by omega⟩
 clear hB
 subst hBe
 rw [h6]
 exact rech_l0 hL (by omega) h2 h4 h6 (rows_ok h5 ha) a.length 0 _ [] (by omega) (by omega) rfl fun j hj => by omega
theorem small_l {a : List (List Int)} {n : Nat} (hm : a.length ≤ 8) (hn : n ≤ 8) (h5 : ∀ r ∈ a, r.length = n) : ∀ (d i k : Nat), i + d = a.length → 20 * d + 10 ≤ k → (∀ j : Nat, j < i → ∀ x, (vec (rd_L1 a (j : Int)) x).natAbs ≤ 3) →
  ∃ b, petrinetref08_Small.l0 k a (i : Int) = some b ∧ (b = true → ∀ j : Nat, j < a.length → ∀ x, (vec (rd_L1 a (j : Int)) x).natAbs ≤ 3) := by
 intro d
 induction d with
 | zero =>
  intro i k hi hk h
  obtain ⟨k, rfl⟩ : ∃ z, k = z + 1 := ⟨k - 1, by omega⟩
  rw [petrinetref08_Small.l0, if_neg (by omega)]
  exact ⟨true, rfl, fun _ j hj => h j (by omega)⟩
 | succ d ih =>
  intro i k hi hk h
  obtain ⟨k, rfl⟩ : ∃ z, k = z + 1 := ⟨k - 1, by omega⟩
  have hl := h5 _ (rdL_mem (a := a) (j := (i : Int)) (by omega) (by omega))
  rw [petrinetref08_Small.l0, if_pos (by omega)]
  have inner : ∀ (e c k : Nat), c + e = n → 20 * d + 10 + e + 1 ≤ k → (∀ x, x < c → (vec (rd_L1 a (i : Int)) x).natAbs ≤ 3) → ∃ b, petrinetref08_Small.l1 k a (i : Int) (c : Int) = some b ∧ (b = true → ∀ j : Nat, j < a.length → ∀ x, (vec (rd_L1 a (j : Int)) x).natAbs ≤ 3) := by
   intro e
   induction e with
   | zero =>
    intro c k hc hk hx
    obtain ⟨k, rfl⟩ : ∃ z, k = z + 1 := ⟨k - 1, by omega⟩
    rw [petrinetref08_Small.l1, if_pos (by omega), if_pos (by omega), if_neg (by omega), wsucc (by omega)]
    refine ih (i + 1) k (by omega) (by omega) fun j hj x => ?_
    by_cases ej : j = i
    ·
     rw [ej]
     by_cases hxc : x < c
     ·
      exact hx x hxc
     ·
      rw [vec_out (by omega)]; simp
    ·
     exact h j (by omega) x
   | succ e ihe =>
    intro c k hc hk hx
    obtain ⟨k, rfl⟩ : ∃ z, k = z + 1 := ⟨k - 1, by omega⟩
    have hcn : c ≤ 100000 := by omega
    have hc1 : c + 1 + e = n := by omega
    have hk1 : 20 * d + 10 + e + 1 ≤ k := by omega
    rw [petrinetref08_Small.l1, if_pos (by omega), if_pos (by omega), if_pos (by omega), if_pos (by omega), rd_vec]
    by_cases c1 : vec (rd_L1 a (i : Int)) c < -3
    ·
     rw [if_pos c1]; exact ⟨false, rfl, fun h => by cases h⟩
    rw [if_neg c1]
    by_cases c2 : vec (rd_L1 a (i : Int)) c > 3
    ·
     rw [if_pos c2]; exact ⟨false, rfl, fun h => by cases h⟩
    rw [if_neg c2, wsucc hcn]
    refine ihe (c + 1) k hc1 hk1 fun x hxc => ?_
    by_cases ex : x = c
    ·
     rw [ex]; omega
    ·
     exact hx x (by omega)
  exact inner n 0 k (by omega) (by omega) fun x hx => by omega
theorem small_spec {k : Nat} {a : List (List Int)} (hv : validB a = true) (hk : 1000 ≤ k) : ∃ b, petrinetref08_Small.f k a = some b ∧ (b = true → tiny a a.length) := by
 obtain ⟨n, h1, h2, h3, h4, h5, h6⟩ := validB_iff.mp hv
 unfold petrinetref08_Small.f
 obtain ⟨k, rfl⟩ : ∃ z, k = z + 1 := ⟨k - 1, by omega⟩
 rw [rvalid_eq a _ (by omega), hv]
 simp only [Option.bind_some, if_true]
 by_cases c1 : (a.length : Int) > 8
 ·
  rw [if_pos c1, petrinetref08_Small.j0, if_pos rfl]
  exact ⟨false, rfl, fun h => by cases h⟩
 rw [if_neg c1, if_pos (by omega), h6]
 by_cases c2 : (n : Int) > 8
 ·
  rw [decide_eq_true c2, petrinetref08_Small.j0, if_pos rfl]
  exact ⟨false, rfl, fun h => by cases h⟩
 rw [decide_eq_false c2, petrinetref08_Small.j0, if_neg (by decide)]
 obtain ⟨b, q1, q2⟩ := small_l (a := a) (n := n) (by omega) (by omega) h5 a.length 0 k (by omega) (by omega) fun j hj => by omega
 refine ⟨b, q1, fun hb => ⟨by omega, fun r hr x => ?_⟩⟩
 obtain ⟨j, hj, rfl⟩ := mem_vs.mp hr
 exact q2 hb j hj x
end Go.Proofs.Ytckefohfahphpaa.Z
end
section
namespace Go.Proofs.Ytckefohfahphpaa.Z
open Go.RowKit Go.Proofs.YtckefohfahphpaaW.PrintWords Go.Proofs.YtckefohfahphpaaW.PrintLast Go.Proofs.YtckefohfahphpaaW.PrintMore
theorem quo_gcd {P F : Int} (hP : 0 < P) : ∃ g q m : Int, g = (Int.gcd P F : Int) ∧ 0 < g ∧ q = Int.tdiv P g ∧ m = Int.tdiv F g ∧ P = g * q ∧ F = g * m ∧ 0 < q ∧ q ≤ P ∧ m.natAbs ≤ F.natAbs ∧ ∀ t : Int, q ∣ t ↔ P ∣ F * t := by
 have h1 : 0 < Int.gcd P F := Int.gcd_pos_of_ne_zero_left F (by omega)
 obtain ⟨g, hg⟩ : ∃ g : Int, g = (Int.gcd P F : Int) := ⟨_, rfl⟩
 have hg0 : 0 < g := by omega
 have e1 : P = g * Int.tdiv P g := (Int.mul_tdiv_cancel' (hg ▸ Int.gcd_dvd_left ..)).symm
 have e2 : F = g * Int.tdiv F g := (Int.mul_tdiv_cancel' (hg ▸ Int.gcd_dvd_right ..)).symm
 have t1 := tdiv_abs P g
 have t2 := tdiv_abs F g
 have hq : 0 < Int.tdiv P g := pos_of_mul hg0 (by rw [← e1]; exact hP)
 refine ⟨g, _, _, hg, hg0, rfl, rfl, e1, e2, hq, by omega, t2, fun t => ⟨fun ⟨z, hz⟩ => ⟨Int.tdiv F g * z, ?_⟩, fun ⟨z, hz⟩ => ?_⟩⟩
 ·
  rw [hz]
  generalize Int.tdiv P g = q at *
  generalize Int.tdiv F g = m at *
  rw [e1, e2]
  grind
 ·
  generalize hq' : Int.tdiv P g = q at *
  generalize hm' : Int.tdiv F g = m at *
  have hc : Int.gcd q m = 1 := by
   have e := Int.gcd_mul_left g q m
   rw [← e1, ← e2] at e
   have h2 : g.natAbs * Int.gcd q m = g.natAbs * 1 := by rw [← e]; omega
   exact Nat.eq_of_mul_eq_mul_left (by omega) h2
  have h3 : q ∣ m * t := by
   refine ⟨z, ?_⟩
   have : g * (m * t) = g * (q * z) := by
    rw [← Int.mul_assoc, ← e2, hz, ← Int.mul_assoc, ← e1]
   exact Int.eq_of_mul_eq_mul_left (by omega) this
  exact Int.natAbs_dvd_natAbs.mp ((show Nat.Coprime q.natAbs m.natAbs from hc).dvd_of_dvd_mul_left (by rw [← Int.natAbs_mul]; exact Int.natAbs_dvd_natAbs.mpr h3))
theorem lcm_props {s q : Int} (hs : 0 < s) (hq : 0 < q) : ∃ L : Int, L = Int.tdiv s (Int.gcd s q : Int) * q ∧ L = s * Int.tdiv q (Int.gcd s q : Int) ∧ 0 < L ∧ s ∣ L ∧ q ∣ L ∧ ∀ t, s ∣ t → q ∣ t → L ∣ t := by
 obtain ⟨g, a, b, h1, h2, h3, h4, h5, h6, h7, h8, h9, h10⟩ := quo_gcd (P := s) (F := q) hs
 have hb : 0 < b := pos_of_mul h2 (by rw [← h6]; exact hq)
 rw [← h1, ← h3, ← h4]
 refine ⟨_, rfl, ?_, Int.mul_pos h7 hq, ⟨b, ?_⟩, ⟨a, Int.mul_comm _ _⟩, fun t ⟨z, hz⟩ hqt => ?_⟩
 ·
  rw [h5, h6]; grind
 ·
  rw [h5, h6]; grind
 ·
  obtain ⟨y, hy⟩ := hqt
  have e : g * (a * z) = g * (b * y) := by
   have e1 : g * (a * z) = t := by rw [hz, h5]; grind
   have e2 : g * (b * y) = t := by rw [hy, h6]; grind
   rw [e1, e2]
  have e3 := Int.eq_of_mul_eq_mul_left (show g ≠ 0 by omega) e
  have h11 : a ∣ y := (h10 y).mpr ⟨z * 1, by
   rw [h6, h5, Int.mul_one]
   have : b * y = a * z := e3.symm
   calc g * b * y = g * (b * y) := Int.mul_assoc _ _ _
    _ = g * (a * z) := by rw [this]
    _ = g * a * z := (Int.mul_assoc _ _ _).symm⟩
  obtain ⟨x, hx⟩ := h11
  exact ⟨x, by rw [hy, hx]; grind⟩
theorem mlcm_eq {k : Nat} {s q : Int} (hs : 0 < s) (hs' : s ≤ 9223372036854775807) (hq : 0 < q) (hq' : q ≤ 9223372036854775807) (hk : 5 ≤ k) :
  safeint_Lcm.f k s q = some (if Int.tdiv s (Int.gcd s q : Int) * q ≤ 9223372036854775807 then (Int.tdiv s (Int.gcd s q : Int) * q, true) else (0, false)) := by
 obtain ⟨k, rfl⟩ : ∃ m, k = m + 2 := ⟨k - 2, by omega⟩
 have hsz : ∀ {x : Int}, 0 < x → x ≤ 9223372036854775807 → safeint_size.f x = some x := by
  intro x h1 h2
  unfold safeint_size.f
  rw [if_neg (by omega), wrap_u64_id _ (by omega) (by omega)]
 unfold safeint_Lcm.f
 rw [if_neg (by omega), safeint_Lcm.j0, if_neg (by simp; omega), hsz hs hs', hsz hq hq']
 simp only [Option.bind_some]
 unfold safeint_common.f
 rw [if_pos ⟨by omega, by omega⟩]
 simp only [Option.bind_some]
 have h1 : 0 < Int.gcd s q := Int.gcd_pos_of_ne_zero_left q (by omega)
 obtain ⟨g, hg⟩ : ∃ g : Int, g = (Int.gcd s q : Int) := ⟨_, rfl⟩
 have hg0 : 0 < g := by omega
 have e1 : s = g * Int.tdiv s g := (Int.mul_tdiv_cancel' (hg ▸ Int.gcd_dvd_left ..)).symm
 have t1 := tdiv_abs s g
 have ha : 0 < Int.tdiv s g := pos_of_mul hg0 (by rw [← e1]; exact hs)
 rw [← hg, if_neg (by omega)]
 obtain ⟨a, hae⟩ : ∃ a, a = Int.tdiv s g := ⟨_, rfl⟩
 rw [← hae] at ha t1 ⊢
 rw [wrap_u64_id _ (by omega) (by omega)]
 unfold safeint_times.f
 rw [if_pos ⟨by omega, by omega, by omega, by omega⟩]
 simp only [Option.bind_some]
 have hp := Int.mul_pos ha hq
 generalize a * q = L at *
 by_cases c : L ≤ 9223372036854775807
 ·
  rw [if_pos (by omega), if_pos c]
  have h2 := safeint_Mul.signed (L % 18446744073709551616) false (by omega) (by omega)
  rw [if_neg (by decide), if_pos (by omega)] at h2
  have h3 := LeO.up (f := fun k => safeint_signed.f k (L % 18446744073709551616) false) (fun k => safeint_signed.mono _ _ k) h2 (k + 1) (by omega)
  have h3 : safeint_signed.f (k + 1) (L % 18446744073709551616) false = some (L % 18446744073709551616, true) := h3
  rw [h3]
  simp only [Option.bind_some]
  rw [show L % 18446744073709551616 = L by omega]
 ·
  rw [if_neg c]
  by_cases c2 : L / 18446744073709551616 = 0
  ·
   rw [if_pos c2]
   have h2 := safeint_Mul.signed (L % 18446744073709551616) false (by omega) (by omega)
   rw [if_neg (by decide), if_neg (by omega)] at h2
   have h3 := LeO.up (f := fun k => safeint_signed.f k (L % 18446744073709551616) false) (fun k => safeint_signed.mono _ _ k) h2 (k + 1) (by omega)
   have h3 : safeint_signed.f (k + 1) (L % 18446744073709551616) false = some (0, false) := h3
   rw [h3]
   rfl
  ·
   rw [if_neg c2]
end Go.Proofs.Ytckefohfahphpaa.Z
end
section
namespace Go.Proofs.Ytckefohfahphpaa.Z
open Go.RowKit Go.Proofs.YtckefohfahphpaaW.PrintWords Go.Proofs.YtckefohfahphpaaW.PrintLast Go.Proofs.YtckefohfahphpaaW.PrintMore
def DD (E : List (List Int)) (p : Nat → Nat) (f : Nat) (t : Int) : Prop := ∀ j, j < E.length → rowsV E j (p j) ∣ rowsV E j f * t
structure KerV (E : List (List Int)) (p : Nat → Nat) (n f : Nat) (K : List Int) : Prop where
 ok : okr n K
 ps : 0 < vec K f
 dd : DD E p f (vec K f)
 le : ∀ t, DD E p f t → vec K f ∣ t
 pv : ∀ j, j < E.length → rowsV E j (p j) * vec K (p j) = -(rowsV E j f * vec K f)
 zr : ∀ x, x ≠ f → (∀ j, j < E.length → p j ≠ x) → vec K x = 0
theorem KerV.uniq {E : List (List Int)} {p : Nat → Nat} {n f : Nat} {K K' : List Int} (h : KerV E p n f K) (h' : KerV E p n f K') (hE : ∀ j, j < E.length → rowsV E j (p j) ≠ 0) : K = K' := by
 have hs : vec K f = vec K' f := Int.dvd_antisymm (by have := h.ps; omega) (by have := h'.ps; omega) (h.le _ h'.dd) (h'.le _ h.dd)
 apply vec_ext (by rw [h.ok.1, h'.ok.1])
 funext x
 by_cases hx : x = f
 ·
  rw [hx]; exact hs
 ·
  by_cases hp : ∃ j, j < E.length ∧ p j = x
  ·
   obtain ⟨j, hj, rfl⟩ := hp
   have h1 := h.pv j hj
   have h2 := h'.pv j hj
   rw [hs] at h1
   exact Int.eq_of_mul_eq_mul_left (hE j hj) (by rw [h1, h2])
  ·
   rw [h.zr x hx fun j hj e => hp ⟨j, hj, e⟩, h'.zr x hx fun j hj e => hp ⟨j, hj, e⟩]
theorem KerV.prim {E : List (List Int)} {p : Nat → Nat} {n f : Nat} {K s : List Int} {g : Int} (h : KerV E p n f K) (hs : okr n s) (hg : 0 < g) (e : ∀ x, vec K x = g * vec s x) : s = K := by
 have h1 : vec K f ∣ vec s f := h.le _ fun j hj => by
  have h2 := h.pv j hj
  rw [e, e (f)] at h2
  refine ⟨-vec s (p j), ?_⟩
  have : g * (rowsV E j f * vec s f) = g * (rowsV E j (p j) * -vec s (p j)) := by grind
  exact Int.eq_of_mul_eq_mul_left (by omega) this
 have h2 := e f
 have hp := h.ps
 have hsp : 0 < vec s f := pos_of_mul hg (by rw [← h2]; exact hp)
 have h3 := Int.le_of_dvd hsp h1
 have h4 : g = 1 := by
  apply Classical.byContradiction
  intro hne
  have h5 : 0 < (g - 1) * vec s f := Int.mul_pos (by omega) hsp
  rw [Int.sub_mul] at h5
  omega
 apply vec_ext (by rw [hs.1, h.ok.1])
 funext x
 rw [e x, h4, Int.one_mul]
theorem solscale_spec {K n f : Nat} {E : List (List Int)} {cols : List Int} {p : Nat → Nat} (hK : 200 ≤ K) (hE : ∀ j : Nat, j < E.length → okr n (rd_L1 E (j : Int))) (hcl : cols.length = E.length) (hc : ∀ j : Nat, j < E.length → rd cols (j : Int) = (p j : Int)) (hpn : ∀ j, j < E.length → p j < n) (hf : f < n) (hpos : ∀ j, j < E.length → 0 < rowsV E j (p j)) :
  ∀ (d i : Nat) (s : Int), i + d = E.length → 0 < s → s ≤ 9223372036854775807 →
  (∃ s', sol_scale K E f (cols.drop i) i s = some (some s') ∧ 0 < s' ∧ s' ≤ 9223372036854775807 ∧ s ∣ s' ∧ (∀ j, i ≤ j → j < E.length → rowsV E j (p j) ∣ rowsV E j f * s') ∧ ∀ t, s ∣ t → (∀ j, i ≤ j → j < E.length → rowsV E j (p j) ∣ rowsV E j f * t) → s' ∣ t) ∨
  (sol_scale K E f (cols.drop i) i s = some none ∧ ∀ D : Int, 0 < D → s ∣ D → (∀ j, i ≤ j → j < E.length → rowsV E j (p j) ∣ rowsV E j f * D) → 9223372036854775807 < D) := by
 intro d
 induction d with
 | zero =>
  intro i s hi hs hs'
  left
  rw [List.drop_of_length_le (by omega)]
  exact ⟨s, rfl, hs, hs', ⟨1, by simp⟩, fun j h1 h2 => by omega, fun t ht _ => ht⟩
 | succ d ih =>
  intro i s hi hs hs'
  have hiE : i < E.length := by omega
  have hr := hE i hiE
  have hrl := hr.1
  have hpi := hpn i hiE
  rw [drop_rd1 (by omega), hc i hiE, sol_scale, if_pos ⟨hiE, by omega, by omega, by omega, by omega⟩, rd_vec, rd_vec]
  have hP : 0 < vec (rd_L1 E (i : Int)) (p i) := hpos i hiE
  obtain ⟨b1, b2⟩ := okr_in hr (p i)
  obtain ⟨b3, b4⟩ := okr_in hr f
  obtain ⟨P, hPe⟩ : ∃ P, P = vec (rd_L1 E (i : Int)) (p i) := ⟨_, rfl⟩
  obtain ⟨F, hFe⟩ : ∃ F, F = vec (rd_L1 E (i : Int)) f := ⟨_, rfl⟩
  have eP : rowsV E i (p i) = P := hPe.symm
  have eF : rowsV E i f = F := hFe.symm
  rw [← hPe] at b1 b2 hP ⊢
  rw [← hFe] at b3 b4 ⊢
  obtain ⟨g, q, m, h1, h2, h3, h4, h5, h6, h7, h8, h9, h10⟩ := quo_gcd (P := P) (F := F) hP
  have hgP : g ≤ P := Int.le_of_dvd hP ⟨q, h5⟩
  unfold safeint_Gcd.f
  rw [if_pos ⟨⟨b1, b2⟩, b3, b4⟩, ← h1, if_pos (by omega)]
  simp only [Option.bind_some, if_true]
  rw [if_neg (by omega), ← h3, wrap64_id ⟨by omega, by omega⟩, mlcm_eq hs hs' h7 (by omega) (by omega)]
  obtain ⟨L, e1, e2, e3, e4, e5, e6⟩ := lcm_props hs h7
  rw [← e1]
  simp only [Option.bind_some]
  by_cases hL : L ≤ 9223372036854775807
  ·
   rw [if_pos hL, if_pos rfl]
   rcases ih (i + 1) L (by omega) e3 hL with ⟨s', r1, r2, r3, r4, r5, r6⟩ | ⟨r1, r2⟩
   ·
    refine .inl ⟨s', r1, r2, r3, Int.dvd_trans e4 r4, fun j h11 h12 => ?_, fun t h11 h12 => r6 t (e6 t h11 ?_) fun j h13 h14 => h12 j (by omega) h14⟩
    ·
     by_cases e : j = i
     ·
      rw [e, eP, eF]
      exact (h10 s').mp (Int.dvd_trans e5 r4)
     ·
      exact r5 j (by omega) h12
    ·
     have := h12 i (by omega) hiE
     rw [eP, eF] at this
     exact (h10 t).mpr this
   ·
    refine .inr ⟨r1, fun D h11 h12 h13 => r2 D h11 (e6 D h12 ?_) fun j h14 h15 => h13 j (by omega) h15⟩
    have := h13 i (by omega) hiE
    rw [eP, eF] at this
    exact (h10 D).mpr this
  ·
   rw [if_neg hL, if_neg (by decide)]
   refine .inr ⟨rfl, fun D h11 h12 h13 => ?_⟩
   have := h13 i (by omega) hiE
   rw [eP, eF] at this
   have := Int.le_of_dvd h11 (e6 D h12 ((h10 D).mpr this))
   omega
theorem vec_set {l : List Int} {i : Nat} {v : Int} (h : i < l.length) (x : Nat) : vec (l.set i v) x = if x = i then v else vec l x := by
 by_cases hx : x < l.length
 ·
  rw [vec_get (by simpa using hx), vec_get hx, List.getElem_set]
  by_cases e : i = x
  ·
   rw [if_pos e, if_pos e.symm]
  ·
   rw [if_neg e, if_neg fun h => e h.symm]
 ·
  rw [vec_out (by simp; omega), vec_out (by omega), if_neg (by omega)]
theorem fill_val {P F s : Int} (hP : 0 < P) (hs : 0 < s) (hd : P ∣ F * s) : ∃ g q m w : Int, g = (Int.gcd P F : Int) ∧ 0 < g ∧ g ≤ P ∧ q = Int.tdiv P g ∧ m = Int.tdiv F g ∧ 0 < q ∧ q ≤ P ∧ m.natAbs ≤ F.natAbs ∧ w = Int.tdiv s q ∧ 0 < w ∧ w ≤ s ∧ P * (-m * w) = -(F * s) := by
 obtain ⟨g, q, m, h1, h2, h3, h4, h5, h6, h7, h8, h9, h10⟩ := quo_gcd (P := P) (F := F) hP
 have hq := (h10 s).mpr hd
 have e1 : q * Int.tdiv s q = s := Int.mul_tdiv_cancel' hq
 have hw : 0 < Int.tdiv s q := pos_of_mul h7 (by rw [e1]; exact hs)
 have t1 := tdiv_abs s q
 refine ⟨g, q, m, Int.tdiv s q, h1, h2, Int.le_of_dvd hP ⟨q, h5⟩, h3, h4, h7, h8, h9, rfl, hw, by omega, ?_⟩
 generalize Int.tdiv s q = w at *
 rw [h5, h6, ← e1]
 grind
theorem solfill_spec {n f : Nat} {E : List (List Int)} {cols : List Int} {p : Nat → Nat} {s : Int} (hE : ∀ j : Nat, j < E.length → nlr n (rd_L1 E (j : Int))) (hcl : cols.length = E.length) (hc : ∀ j : Nat, j < E.length → rd cols (j : Int) = (p j : Int)) (hpn : ∀ j, j < E.length → p j < n) (hf : f < n) (hpos : ∀ j, j < E.length → 0 < rowsV E j (p j))
  (hinj : ∀ i j, i < j → j < E.length → p i < p j) (hs : 0 < s) (hs' : s ≤ 9223372036854775807) (hdd : DD E p f s) :
  ∀ (d i : Nat) (out : List Int), i + d = E.length → okr n out →
  (∃ out', sol_fill E f s (cols.drop i) i out = some (some out') ∧ okr n out' ∧ (∀ x, (∀ j, i ≤ j → j < E.length → p j ≠ x) → vec out' x = vec out x) ∧ ∀ j, i ≤ j → j < E.length → rowsV E j (p j) * vec out' (p j) = -(rowsV E j f * s)) ∨
  (sol_fill E f s (cols.drop i) i out = some none ∧ ∃ j, j < E.length ∧ ∃ m w : Int, m.natAbs ≤ (rowsV E j f).natAbs ∧ 0 < w ∧ w ≤ s ∧ ¬ in64 (-m * w)) := by
 intro d
 induction d with
 | zero =>
  intro i out hi ho
  left
  rw [List.drop_of_length_le (by omega)]
  exact ⟨out, rfl, ho, fun _ _ => rfl, fun j h1 h2 => by omega⟩
 | succ d ih =>
  intro i out hi ho
  have hiE : i < E.length := by omega
  have hr := hE i hiE
  have hrl := hr.1
  have hol := ho.1
  have hpi := hpn i hiE
  rw [drop_rd1 (by omega), hc i hiE, sol_fill, if_pos ⟨hiE, by omega, by omega, by omega, by omega, by omega⟩, rd_vec, rd_vec]
  have hP : 0 < vec (rd_L1 E (i : Int)) (p i) := hpos i hiE
  have hd := hdd i hiE
  obtain ⟨b1, b2⟩ := nlr_in hr (p i)
  obtain ⟨b3, b4⟩ := nlr_in hr f
  obtain ⟨P, hPe⟩ : ∃ P, P = vec (rd_L1 E (i : Int)) (p i) := ⟨_, rfl⟩
  obtain ⟨F, hFe⟩ : ∃ F, F = vec (rd_L1 E (i : Int)) f := ⟨_, rfl⟩
  have eP : rowsV E i (p i) = P := hPe.symm
  have eF : rowsV E i f = F := hFe.symm
  rw [eP, eF] at hd
  rw [← hPe] at b1 b2 hP ⊢
  rw [← hFe] at b3 b4 ⊢
  obtain ⟨g, q, m, w, h1, h2, h3, h4, h5, h6, h7, h8, h9, h10, h11, h12⟩ := fill_val hP hs hd
  unfold safeint_Gcd.f
  rw [if_pos ⟨⟨by omega, b2⟩, by omega, b4⟩, ← h1, if_pos (by omega)]
  simp only [Option.bind_some]
  rw [if_neg (by omega), ← h4, wrap64_id ⟨by omega, by omega⟩, if_neg (by omega), ← h5, ← h9, wrap64_id (n := m) ⟨by omega, by omega⟩, wrap64_id (n := w) ⟨by omega, by omega⟩]
  rw [wrap64_id (n := -m) ⟨by omega, by omega⟩, mul_eq ⟨by omega, by omega⟩ ⟨by omega, by omega⟩]
  simp only [Option.bind_some]
  by_cases hin : in64 (-m * w)
  ·
   rw [chk_ok hin, if_pos rfl]
   have hset : ∀ x, vec (out.set (p i : Int).toNat (-m * w)) x = if x = p i then -m * w else vec out x := fun x => by
    rw [show ((p i : Int)).toNat = p i by omega]
    exact vec_set (by omega) x
   have hok : okr n (out.set (p i : Int).toNat (-m * w)) := ⟨by simp; omega, fun z hz => by
    rcases List.mem_or_eq_of_mem_set hz with h | h
    ·
     exact ho.2 z h
    ·
     rw [h]; exact hin⟩
   rcases ih (i + 1) _ (by omega) hok with ⟨out', r1, r2, r3, r4⟩ | h
   ·
    refine .inl ⟨out', r1, r2, fun x hx => ?_, fun j h13 h14 => ?_⟩
    ·
     rw [r3 x (fun j h13 h14 => hx j (by omega) h14), hset, if_neg fun e => hx i (by omega) hiE e.symm]
    ·
     by_cases e : j = i
     ·
      subst e
      rw [r3 _ (fun j' h15 h16 => by have := hinj j j' (by omega) h16; omega), hset, if_pos rfl, eP, eF]
      exact h12
     ·
      exact r4 j (by omega) h14
   ·
    exact .inr h
  ·
   rw [chk_no hin, if_neg (by decide)]
   exact .inr ⟨rfl, i, hiE, m, w, by rw [eF]; exact h8, h10, h11, hin⟩
end Go.Proofs.Ytckefohfahphpaa.Z
end
section
namespace Go.Proofs.Ytckefohfahphpaa.Z
open Go.RowKit Go.Proofs.YtckefohfahphpaaW.PrintWords Go.Proofs.YtckefohfahphpaaW.PrintLast Go.Proofs.YtckefohfahphpaaW.PrintMore
theorem cram.pos {E : List (List Int)} {p : Nat → Nat} (h : cram E p) : ∃ D : Int, 0 < D ∧ D ≤ (hb 8 : Int) ∧ ∀ j, j < E.length → ∀ x, rowsV E j (p j) ∣ rowsV E j x * D := by
 obtain ⟨_, D, h1, h2, h3⟩ := h
 refine ⟨(D.natAbs : Int), by omega, by omega, fun j hj x => ?_⟩
 have h4 := h3 j hj x
 rw [Int.mul_comm] at h4
 rcases Int.natAbs_eq D with e | e
 ·
  rw [← e]; exact h4
 ·
  have e2 : (D.natAbs : Int) = -D := by omega
  rw [e2, Int.mul_neg]
  exact Int.dvd_neg.mpr h4
theorem small_mul {a b : Int} (h1 : a.natAbs ≤ hb 8) (h2 : b.natAbs ≤ hb 8) : (a * b).natAbs ≤ 100000000000000000 := by
 rw [Int.natAbs_mul]
 refine Nat.le_trans (Nat.mul_le_mul h1 h2) ?_
 rw [hb8]
 decide
theorem KerV.mk' {E : List (List Int)} {p : Nat → Nat} {n f : Nat} {s : Int} {out : List Int} (ho : okr n out) (hs : 0 < s) (hdd : DD E p f s) (hle : ∀ t, DD E p f t → s ∣ t) (hf : ∀ j, j < E.length → p j ≠ f)
  (h1 : ∀ x, (∀ j, j < E.length → p j ≠ x) → vec out x = if x = f then s else 0) (h2 : ∀ j, j < E.length → rowsV E j (p j) * vec out (p j) = -(rowsV E j f * s)) : KerV E p n f out := by
 have hv : vec out f = s := by rw [h1 f hf, if_pos rfl]
 exact ⟨ho, by rw [hv]; exact hs, by rw [hv]; exact hdd, fun t ht => by rw [hv]; exact hle t ht, fun j hj => by rw [hv]; exact h2 j hj, fun x hx hp => by rw [h1 x hp, if_neg hx]⟩
theorem start_vec {n f : Nat} (hf : f < n) (s : Int) (x : Nat) : vec ((List.replicate n (0 : Int)).set f s) x = if x = f then s else 0 := by
 rw [vec_set (by simpa using hf)]
 split
 ·
  rfl
 ·
  by_cases hx : x < n
  ·
   rw [vec_get (by simpa using hx)]; simp
  ·
   rw [vec_out (by simp; omega)]
theorem start_ok {n f : Nat} {s : Int} (h1 : 0 < s) (h2 : s ≤ 9223372036854775807) : okr n ((List.replicate n (0 : Int)).set f s) := ⟨by simp, fun z hz => by
 rcases List.mem_or_eq_of_mem_set hz with h | h
 ·
  rw [(List.mem_replicate.mp h).2]; constructor <;> omega
 ·
  rw [h]; constructor <;> omega⟩
theorem sol_spec {K n f : Nat} {a E : List (List Int)} {cols : List Int} {p : Nat → Nat} (hK : 200 ≤ K) (hn : n ≤ 64) (hO : Outc a n E p) (hcl : cols.length = E.length) (hc : ∀ j : Nat, j < E.length → rd cols (j : Int) = (p j : Int)) (hf : f < n) (hfp : ∀ j, j < E.length → p j ≠ f) :
  (∃ v, table_solution.f K E cols f n = some (v, 0) ∧ KerV E p n f v) ∨ (∃ v, table_solution.f K E cols f n = some (v, 3) ∧ ¬ cram E p) := by
 have hlen := hO.len
 have hrow : ∀ j : Nat, j < E.length → nlr n (rd_L1 E (j : Int)) := fun j hj => hO.ok _ (rdL_mem (by omega) (by omega))
 have hpos : ∀ j, j < E.length → 0 < rowsV E j (p j) := fun j hj => (hO.fn.pr j hj).2
 unfold table_solution.f
 rw [if_pos ⟨by omega, by omega, by omega, by omega⟩]
 rcases solscale_spec (f := f) hK (fun j hj => (hrow j hj).okr) hcl hc hO.pn hf hpos E.length 0 1 (by omega) (by omega) (by omega) with ⟨s, r1, r2, r3, _, r5, r6⟩ | ⟨r1, r2⟩
 ·
  rw [List.drop_zero] at r1
  have r1' : sol_scale K E f cols 0 1 = some (some s) := r1
  rw [r1']
  simp only [Option.bind_some]
  have hdd : DD E p f s := fun j hj => r5 j (by omega) hj
  have hle : ∀ t, DD E p f t → s ∣ t := fun t ht => r6 t ⟨t, by simp⟩ fun j _ hj => ht j hj
  have hsD : cram E p → s ≤ (hb 8 : Int) := fun hcr => by
   obtain ⟨D, d1, d2, d3⟩ := hcr.pos
   have := Int.le_of_dvd d1 (hle D fun j hj => d3 j hj f)
   omega
  rw [show ((n : Int)).toNat = n by omega, show ((f : Int)).toNat = f by omega]
  rcases solfill_spec (f := f) hrow hcl hc hO.pn hf hpos (fun i j h1 h2 => hO.fn.inc h1 h2) r2 r3 hdd E.length 0 _ (by omega) (start_ok (n := n) (f := f) r2 r3) with ⟨o, q1, q2, q3, q4⟩ | ⟨q1, j, hj, m, w, q2, q3, q4, q5⟩
  ·
   rw [List.drop_zero] at q1
   have q1' : sol_fill E f s cols 0 ((List.replicate n 0).set f s) = some (some o) := q1
   rw [q1']
   simp only [Option.bind_some]
   have hol := q2.1
   have hk : KerV E p n f o := KerV.mk' q2 r2 hdd hle hfp (fun x hx => by rw [q3 x (fun j _ hj => hx j hj)]; exact start_vec hf s x) fun j hj => q4 j (by omega) hj
   rw [vprim_eq q2.2 (by omega) K (by omega)]
   rcases prim_spec q2 with ⟨h1, h2⟩ | ⟨v, h1, h2, h3, g, h4, h5, h6⟩
   ·
    right
    rw [h1]
    refine ⟨[], rfl, fun hcr => ?_⟩
    have hlm : least ∈ o := by
     apply Classical.byContradiction
     intro h
     unfold primG at h1
     rw [if_neg h] at h1
     simp at h1
    obtain ⟨x, _, hx⟩ := mem_vec hlm
    have hs8 := hsD hcr
    have h8 := hb8
    by_cases hxp : ∃ j, j < E.length ∧ p j = x
    ·
     obtain ⟨j, hj, rfl⟩ := hxp
     have h9 := q4 j (by omega) hj
     have h10 := hpos j hj
     have h11 := small_mul (a := rowsV E j f) (b := s) (hcr.1 j hj f) (by omega)
     rw [hx] at h9
     have h12 : (rowsV E j (p j) * least).natAbs = (rowsV E j (p j)).natAbs * 9223372036854775808 := by rw [Int.natAbs_mul]; rfl
     rw [h9, Int.natAbs_neg] at h12
     have h13 : 1 * 9223372036854775808 ≤ (rowsV E j (p j)).natAbs * 9223372036854775808 := Nat.mul_le_mul_right _ (by omega)
     omega
    ·
     rw [q3 x (fun j _ hj e => hxp ⟨j, hj, e⟩), start_vec hf] at hx
     unfold least at hx
     split at hx <;> omega
   ·
    left
    rw [h1]
    exact ⟨v, rfl, hk.prim h2 h4 h5 ▸ hk⟩
  ·
   rw [List.drop_zero] at q1
   have q1' : sol_fill E f s cols 0 ((List.replicate n 0).set f s) = some none := q1
   rw [q1']
   refine .inr ⟨[], rfl, fun hcr => q5 ?_⟩
   have hs8 := hsD hcr
   have h11 := small_mul (a := -m) (b := w) (by rw [Int.natAbs_neg]; exact Nat.le_trans q2 (hcr.1 j hj f)) (by omega)
   constructor <;> omega
 ·
  rw [List.drop_zero] at r1
  have r1' : sol_scale K E f cols 0 1 = some none := r1
  rw [r1']
  refine .inr ⟨[], rfl, fun hcr => ?_⟩
  obtain ⟨D, d1, d2, d3⟩ := hcr.pos
  have h1 := r2 D d1 ⟨D, by simp⟩ fun j _ hj => d3 j hj f
  have h8 := hb8
  omega
inductive KL (E : List (List Int)) (p : Nat → Nat) (n : Nat) : Nat → List (List Int) → Prop
 | done : KL E p n n []
 | skip {f : Nat} {l : List (List Int)} : f < n → (∃ j, j < E.length ∧ p j = f) → KL E p n (f + 1) l → KL E p n f l
 | take {f : Nat} {v : List Int} {l : List (List Int)} : f < n → (∀ j, j < E.length → p j ≠ f) → KerV E p n f v → KL E p n (f + 1) l → KL E p n f (v :: l)
theorem KL.uniq {E : List (List Int)} {p : Nat → Nat} {n : Nat} (hE : ∀ j, j < E.length → rowsV E j (p j) ≠ 0) {f : Nat} {l : List (List Int)} (h : KL E p n f l) : ∀ {l' : List (List Int)}, KL E p n f l' → l = l' := by
 induction h with
 | done => intro l' h'; cases h' with
  | done => rfl
  | skip h => omega
  | take h => omega
 | skip h1 h2 _ ih => intro l' h'; cases h' with
  | done => omega
  | skip _ _ h3 => exact ih h3
  | take _ h3 =>
   obtain ⟨j, hj, e⟩ := h2
   exact absurd e (h3 j hj)
 | take h1 h2 h3 _ ih => intro l' h'; cases h' with
  | done => omega
  | skip _ h4 =>
   obtain ⟨j, hj, e⟩ := h4
   exact absurd e (h2 j hj)
  | take _ _ h4 h5 => rw [h3.uniq h4 hE, ih h5]
theorem kern_spec {K n : Nat} {a E : List (List Int)} {cols : List Int} {p : Nat → Nat} (hK : 200 ≤ K) (hn : n ≤ 64) (hO : Outc a n E p) (hcl : cols.length = E.length) (hc : ∀ j : Nat, j < E.length → rd cols (j : Int) = (p j : Int)) : ∀ (d f nx : Nat) (out : List (List Int)), f + d = n → nx ≤ E.length → (∀ j, j < nx → p j < f) → (∀ j, nx ≤ j → j < E.length → f ≤ p j) →
  (∃ l, kern_go K E cols n d f nx out = some (out ++ l, 0) ∧ KL E p n f l) ∨ (kern_go K E cols n d f nx out = some ([], 3) ∧ ¬ cram E p) := by
 intro d
 induction d with
 | zero =>
  intro f nx out hf h1 h2 h3
  left
  have : f = n := by omega
  subst this
  exact ⟨[], by simp [kern_go], .done⟩
 | succ d ih =>
  intro f nx out hf h1 h2 h3
  rw [kern_go]
  by_cases hp : nx < cols.length ∧ rd cols (nx : Int) = (f : Int)
  ·
   rw [if_pos hp]
   have hpf : p nx = f := by have := hc nx (by omega); omega
   rcases ih (f + 1) (nx + 1) out (by omega) (by omega) (fun j hj => by
    by_cases e : j = nx
    ·
     rw [e]; omega
    ·
     have := h2 j (by omega); omega) (fun j h4 h5 => by
    have := hO.fn.inc (show nx < j by omega) h5
    omega) with ⟨l, r1, r2⟩ | h
   ·
    exact .inl ⟨l, r1, .skip (by omega) ⟨nx, by omega, hpf⟩ r2⟩
   ·
    exact .inr h
  ·
   rw [if_neg hp]
   have hfp : ∀ j, j < E.length → p j ≠ f := fun j hj e => by
    rcases Nat.lt_trichotomy j nx with h | h | h
    ·
     have := h2 j h; omega
    ·
     subst h
     exact hp ⟨by omega, by rw [hc j hj, e]⟩
    ·
     have h4 := hO.fn.inc h hj
     have h5 := h3 nx (by omega) (by omega)
     omega
   rcases sol_spec hK hn hO hcl hc (show f < n by omega) hfp with ⟨v, r1, r2⟩ | ⟨v, r1, r2⟩
   ·
    rw [r1]
    simp only [Option.bind_some, if_true]
    rcases ih (f + 1) nx (out ++ [v]) (by omega) h1 (fun j hj => by have := h2 j hj; omega) (fun j h4 h5 => by
     have := h3 j h4 h5
     have := hfp j h5
     omega) with ⟨l, q1, q2⟩ | h
    ·
     exact .inl ⟨v :: l, by rw [q1]; simp, .take (by omega) hfp r2 q2⟩
    ·
     exact .inr h
   ·
    rw [r1]
    simp only [Option.bind_some]
    rw [if_neg (by decide)]
    exact .inr ⟨rfl, r2⟩
theorem mkern_spec {K : Nat} {a : List (List Int)} (hK : 300 ≤ K) (hv : validB a = true) (ha : ∀ r ∈ a, ok64 r) :
  (∃ E cols p l, matrix_Kernel.f K a = some (l, 0) ∧ matrix_reduce.f K a = some ((E, cols), 0) ∧ Outc a (rd_L1 a 0).length E p ∧ cols.length = E.length ∧ KL E p (rd_L1 a 0).length 0 l) ∨ (matrix_Kernel.f K a = some ([], 3) ∧ ¬ tiny a a.length) := by
 obtain ⟨n, h1, h2, h3, h4, h5, h6⟩ := validB_iff.mp hv
 unfold matrix_Kernel.f
 rw [mvalid_eq a K (by omega), h6]
 simp only [Option.bind_some]
 rw [if_pos hv]
 rcases reduce_spec (K := K) (by omega) hv ha with ⟨E, cols, p, r1, r2, r3, r4, r5⟩ | ⟨r1, r2⟩
 ·
  rw [h6] at r2
  rw [r1]
  simp only [Option.bind_some, if_true]
  rcases kern_spec (K := K) (by omega) h4 r2 r3 r4 n 0 0 [] (by omega) (by omega) (fun j h => by omega) (fun j _ _ => by omega) with ⟨l, q1, q2⟩ | ⟨q1, q2⟩
  ·
   exact .inl ⟨E, cols, p, l, by rw [q1]; rfl, rfl, r2, r3, q2⟩
  ·
   exact .inr ⟨q1, fun ht => q2 (r5 ht)⟩
 ·
  rw [r1]
  simp only [Option.bind_some]
  rw [if_neg (by decide)]
  exact .inr ⟨rfl, r2⟩
end Go.Proofs.Ytckefohfahphpaa.Z
end
section
namespace Go.Proofs.Ytckefohfahphpaa.Z
open Go.RowKit Go.Proofs.YtckefohfahphpaaW.PrintWords Go.Proofs.YtckefohfahphpaaW.PrintLast Go.Proofs.YtckefohfahphpaaW.PrintMore
attribute [local go_sem] max2_int min2_int max_two min_two max_three min_three max_four min_four
def petrinetref08_pivot.l0 : Nat → List Int → Int → Option (Int)
 | 0, _, _ => none
 | k + 1, x0, x3 => if 0 ≤ x3 then (if x3 < (x0.length : Int) then (if (rd x0 x3) = 0 then (petrinetref08_pivot.l0 k x0 (wrap64 (x3 + 1))) else (some x3)) else (none)) else (none)
def petrinetref08_pivot.f (k : Nat) (l0 : List Int) : Option (Int) := petrinetref08_pivot.l0 k l0 0
theorem petrinetref08_pivot.mono_l : ∀ k, (∀ y0 y1, LeO (petrinetref08_pivot.l0 k y0 y1) (petrinetref08_pivot.l0 (k + 1) y0 y1))
 | 0 => fun _ _ r h => by simp [petrinetref08_pivot.l0] at h
 | k + 1 => by
  have ih0 := petrinetref08_pivot.mono_l k
  ·
   intro y0 y1
   unfold petrinetref08_pivot.l0
   repeat' first
   | (with_reducible exact ih0 _ _)
   | (with_reducible exact LeO.refl _)
   | (with_reducible exact LeO.none _)
   | (with_reducible refine LeO.ite ?_ ?_)
   | (with_reducible refine LeO.bind ?_ (fun _ => ?_))
   | exact ih0 _ _
   | exact LeO.none _
   | refine LeO.ite ?_ ?_
   | refine LeO.bind ?_ (fun _ => ?_)
theorem petrinetref08_pivot.mono : ∀ a0 k, LeO (petrinetref08_pivot.f k a0) (petrinetref08_pivot.f (k + 1) a0) := by
 intro a0 k
 have ih0 := petrinetref08_pivot.mono_l k
 unfold petrinetref08_pivot.f
 repeat' first
   | (with_reducible exact ih0 _ _)
   | (with_reducible exact LeO.refl _)
   | (with_reducible exact LeO.none _)
   | (with_reducible refine LeO.ite ?_ ?_)
   | (with_reducible refine LeO.bind ?_ (fun _ => ?_))
   | exact ih0 _ _
   | exact LeO.none _
   | refine LeO.ite ?_ ?_
   | refine LeO.bind ?_ (fun _ => ?_)
set_option maxHeartbeats 8000000 in
set_option maxRecDepth 100000 in
theorem petrinetref08_pivot.calls (k : Nat) (A0 : Option Addr) (c0 : Nat) (l0 : List Int) (r : Int) (w : World) (hr0 : Kd.C (Kd.int .i64) w A0 l0.length l0) (hc0 : l0.length ≤ c0) (h : petrinetref08_pivot.f k l0 = some r) :
  Calls Try.prog 30 #[.slice A0 l0.length c0] w fun e w' => e = .returned (.int .i64 r) ∧ Drawn0 w w' := by
 have HR0 := Aside0.mk hr0
 have HC0 := Aside0.mk hc0
 clear hr0 hc0
 have H : (petrinetref08_pivot.l0 k l0 0) = some r := h
 clear h
 have H' := Aside0.mk H
 clear H
 go_enter Try.func30, Try.ntmps30
 go_wp2
 go_loopg [3] k (fun kq v3 w' => ∃ (x3_1 : Int), v3 = .int .i64 x3_1 ∧ Aside0 (petrinetref08_pivot.l0 kq l0 x3_1 = some r) ∧ Aside0 (kq ≤ k) ∧ Drawn0 w w')
 case atStart => exact ⟨(0), (by first | rfl | (simp; done) | (simp [*]; done)), H', ⟨Nat.le_refl _⟩, by repeat (first | exact Drawn0.refl _ | apply Drawn0.step)⟩
 case round =>
  clear H'; obtain ⟨x3_1, rfl, HA, HK1, ⟨m1, rfl⟩⟩ := hrel
  cases gk with
  | zero => exact absurd HA.out (by simp [petrinetref08_pivot.l0])
  | succ k1 =>
   have H := HA.out; clear HA; simp only [petrinetref08_pivot.l0] at H; by_cases c2 : 0 ≤ x3_1
   ·
    rw [if_pos c2] at H; have c2b0 : decide (0 ≤ x3_1) = true := decide_eq_true c2; clear c2; by_cases c3 : x3_1 < (l0.length : Int)
    ·
     rw [if_pos c3] at H; have c3b0 : decide (x3_1 < (l0.length : Int)) = true := decide_eq_true c3; clear c3; by_cases c4 : (rd l0 x3_1) = 0
     ·
      rw [if_pos c4] at H; have c4b0 : ((rd l0 x3_1) == 0) = true := beq_iff_eq.mpr c4; have c4b1 : ((rd l0 x3_1) != 0) = false := bne_eq_false_iff_eq.mpr c4; clear c4; have H' := Aside0.mk H; clear H; (have p376 : 0 ≤ (x3_1 : Int) := of_decide_eq_true (by first | (with_reducible assumption) | assumption)); (have q376 : x3_1 < (l0.length : Int) := of_decide_eq_true (by first | (with_reducible assumption) | assumption)); obtain ⟨ad376, e376, hx376_0⟩ := Kd.at_int HR0.out x3_1 p376 q376
      cases e376
      replace p376 := eq_true p376; replace q376 := eq_true q376; go_wp2; go_roundg k1
      case measure => have := HK1.out; omega
      case rel => exact ⟨(wrap64 (x3_1 + 1)), (by first | rfl | (simp; done) | (simp [*]; done)), H', ⟨by have := HK1.out; omega⟩, by repeat (first | exact Drawn0.refl _ | apply Drawn0.step)⟩
     ·
      rw [if_neg c4] at H; have c4b0 : ((rd l0 x3_1) == 0) = false := beq_eq_false_iff_ne.mpr c4; have c4b1 : ((rd l0 x3_1) != 0) = true := bne_iff_ne.mpr c4; obtain rfl := Option.some.inj H; (have p376 : 0 ≤ (x3_1 : Int) := of_decide_eq_true (by first | (with_reducible assumption) | assumption)); (have q376 : x3_1 < (l0.length : Int) := of_decide_eq_true (by first | (with_reducible assumption) | assumption)); obtain ⟨ad376, e376, hx376_0⟩ := Kd.at_int HR0.out x3_1 p376 q376
      cases e376
      replace p376 := eq_true p376; replace q376 := eq_true q376; go_wp2; go_ret; (exact ⟨by first | rfl | (simp; done) | (simp [*]; done), by repeat (first | exact Drawn0.refl _ | apply Drawn0.step)⟩)
    ·
     rw [if_neg c3] at H; (exact absurd H (by simp))
   ·
    rw [if_neg c2] at H; (exact absurd H (by simp))
end Go.Proofs.Ytckefohfahphpaa.Z
end
section
namespace Go.Proofs.Ytckefohfahphpaa.Z
open Go.RowKit Go.Proofs.YtckefohfahphpaaW.PrintWords Go.Proofs.YtckefohfahphpaaW.PrintLast Go.Proofs.YtckefohfahphpaaW.PrintMore
attribute [local go_sem] max2_int min2_int max_two min_two max_three min_three max_four min_four
def petrinetref08_free.l0 : Nat → List (List Int) → Int → Int → Option (Bool)
 | 0, _, _, _ => none
 | k + 1, x0, x1, x5 => if x5 < (x0.length : Int) then (if 0 ≤ x5 then ((petrinetref08_pivot.f k (rd_L1 x0 x5)).bind fun t378 => (if t378 = x1 then (some false) else (petrinetref08_free.l0 k x0 x1 (wrap64 (x5 + 1))))) else (none)) else (some true)
def petrinetref08_free.f (k : Nat) (l0 : List (List Int)) (a1 : Int) : Option (Bool) := petrinetref08_free.l0 k l0 a1 0
theorem petrinetref08_free.mono_l : ∀ k, (∀ y0 y1 y2, LeO (petrinetref08_free.l0 k y0 y1 y2) (petrinetref08_free.l0 (k + 1) y0 y1 y2))
 | 0 => fun _ _ _ r h => by simp [petrinetref08_free.l0] at h
 | k + 1 => by
  have ih0 := petrinetref08_free.mono_l k
  ·
   intro y0 y1 y2
   unfold petrinetref08_free.l0
   repeat' first
   | (with_reducible exact ih0 _ _ _)
   | (with_reducible exact petrinetref08_pivot.mono _ _)
   | (with_reducible exact LeO.refl _)
   | (with_reducible exact LeO.none _)
   | (with_reducible refine LeO.ite ?_ ?_)
   | (with_reducible refine LeO.bind ?_ (fun _ => ?_))
   | exact ih0 _ _ _
   | exact petrinetref08_pivot.mono _ _
   | exact LeO.none _
   | refine LeO.ite ?_ ?_
   | refine LeO.bind ?_ (fun _ => ?_)
theorem petrinetref08_free.mono : ∀ a0 a1 k, LeO (petrinetref08_free.f k a0 a1) (petrinetref08_free.f (k + 1) a0 a1) := by
 intro a0 a1 k
 have ih0 := petrinetref08_free.mono_l k
 unfold petrinetref08_free.f
 repeat' first
   | (with_reducible exact ih0 _ _ _)
   | (with_reducible exact petrinetref08_pivot.mono _ _)
   | (with_reducible exact LeO.refl _)
   | (with_reducible exact LeO.none _)
   | (with_reducible refine LeO.ite ?_ ?_)
   | (with_reducible refine LeO.bind ?_ (fun _ => ?_))
   | exact ih0 _ _ _
   | exact petrinetref08_pivot.mono _ _
   | exact LeO.none _
   | refine LeO.ite ?_ ?_
   | refine LeO.bind ?_ (fun _ => ?_)
set_option maxHeartbeats 8000000 in
set_option maxRecDepth 100000 in
theorem petrinetref08_free.calls (k : Nat) (A0 : Option Addr) (c0 : Nat) (l0 : List (List Int)) (a1 : Int) (r : Bool) (w : World) (hr0 : Kd.C (Kd.slice 2 (Kd.int .i64)) w A0 l0.length l0) (hc0 : l0.length ≤ c0) (h : petrinetref08_free.f k l0 a1 = some r) :
  Calls Try.prog 29 #[.slice A0 l0.length c0, .int .i64 a1] w fun e w' => e = .returned (.bool r) ∧ Drawn0 w w' := by
 have HR0 := Aside0.mk hr0
 have HC0 := Aside0.mk hc0
 clear hr0 hc0
 have H : (petrinetref08_free.l0 k l0 a1 0) = some r := h
 clear h
 have H' := Aside0.mk H
 clear H
 go_enter Try.func29, Try.ntmps29
 go_wp2
 go_loopg [5] k (fun kq v5 w' => ∃ (x5_1 : Int), v5 = .int .i64 x5_1 ∧ Aside0 (petrinetref08_free.l0 kq l0 a1 x5_1 = some r) ∧ Aside0 (kq ≤ k) ∧ Drawn0 w w')
 case atStart => exact ⟨(0), (by first | rfl | (simp; done) | (simp [*]; done)), H', ⟨Nat.le_refl _⟩, by repeat (first | exact Drawn0.refl _ | apply Drawn0.step)⟩
 case round =>
  clear H'; (try clear c2); (try clear p2); obtain ⟨x5_1, rfl, HA, HK1, ⟨m1, rfl⟩⟩ := hrel
  cases gk with
  | zero => exact absurd HA.out (by simp [petrinetref08_free.l0])
  | succ k1 =>
   have H := HA.out; clear HA; simp only [petrinetref08_free.l0] at H; by_cases c3 : x5_1 < (l0.length : Int)
   ·
    rw [if_pos c3] at H; have c3b0 : decide (x5_1 < (l0.length : Int)) = true := decide_eq_true c3; clear c3; by_cases c4 : 0 ≤ x5_1
    ·
     rw [if_pos c4] at H; have c4b0 : decide (0 ≤ x5_1) = true := decide_eq_true c4; clear c4; replace H := Option.bind_eq_some_iff.mp H; obtain ⟨t378, A50, H⟩ := H; replace H : (if t378 = a1 then (some false) else (petrinetref08_free.l0 k1 l0 a1 (wrap64 (x5_1 + 1)))) = some r := H; have A5 := Aside0.mk A50; clear A50; by_cases c6 : t378 = a1
     ·
      rw [if_pos c6] at H; have c6b0 : (t378 == a1) = true := beq_iff_eq.mpr c6; have c6b1 : (t378 != a1) = false := bne_eq_false_iff_eq.mpr c6; clear c6; obtain rfl := Option.some.inj H; (have p377 : 0 ≤ (x5_1 : Int) := of_decide_eq_true (by first | (with_reducible assumption) | assumption)); (have q377 : x5_1 < (l0.length : Int) := of_decide_eq_true (by first | (with_reducible assumption) | assumption)); obtain ⟨ad377, A377_0, c377_0, e377, hx377_0, hl377_0, hi377_0⟩ := at_L1 HR0.out x5_1 p377 q377
      cases e377
      have HR377_0 := Aside0.mk hi377_0; have HC377_0 := Aside0.mk hl377_0; clear hi377_0 hl377_0; replace p377 := eq_true p377; replace q377 := eq_true q377; (go_wp2_with (first | ((with_reducible refine gate_callee (f := 30) rfl ?_); refine goesL_ (some 16) rfl rfl Try.func30 (by kernel_rfl) rfl #[.slice A377_0 (rd_L1 l0 x5_1).length c377_0] rfl (by (try simp only [List.map_toArray, List.map_cons, List.map_nil]); first | done | rfl | (simp only [List.length_drop, List.length_take]; rfl)) ?_; (with_reducible refine (petrinetref08_pivot.calls k1 _ _ (rd_L1 l0 x5_1) t378 _ ?side1 ?side2 A5.out).mono ?_); (case side1 => repeat (first | exact HR377_0.out | (with_reducible refine Kd.C_alloc ?_ _) | (with_reducible refine Kd.C_drewN ?_ _) | (with_reducible refine Kd.C_drew ?_))); (case side2 => exact HC377_0.out); rintro e w' ⟨rfl, ⟨nd, rfl⟩⟩; refine ⟨_, rfl, ?_⟩))); go_ret; (exact ⟨by first | rfl | (simp; done) | (simp [*]; done), by repeat (first | exact Drawn0.refl _ | apply Drawn0.step)⟩)
     ·
      rw [if_neg c6] at H; have c6b0 : (t378 == a1) = false := beq_eq_false_iff_ne.mpr c6; have c6b1 : (t378 != a1) = true := bne_iff_ne.mpr c6; have H' := Aside0.mk H; clear H; (have p377 : 0 ≤ (x5_1 : Int) := of_decide_eq_true (by first | (with_reducible assumption) | assumption)); (have q377 : x5_1 < (l0.length : Int) := of_decide_eq_true (by first | (with_reducible assumption) | assumption)); obtain ⟨ad377, A377_0, c377_0, e377, hx377_0, hl377_0, hi377_0⟩ := at_L1 HR0.out x5_1 p377 q377
      cases e377
      have HR377_0 := Aside0.mk hi377_0; have HC377_0 := Aside0.mk hl377_0; clear hi377_0 hl377_0; replace p377 := eq_true p377; replace q377 := eq_true q377; (go_wp2_with (first | ((with_reducible refine gate_callee (f := 30) rfl ?_); refine goesL_ (some 16) rfl rfl Try.func30 (by kernel_rfl) rfl #[.slice A377_0 (rd_L1 l0 x5_1).length c377_0] rfl (by (try simp only [List.map_toArray, List.map_cons, List.map_nil]); first | done | rfl | (simp only [List.length_drop, List.length_take]; rfl)) ?_; (with_reducible refine (petrinetref08_pivot.calls k1 _ _ (rd_L1 l0 x5_1) t378 _ ?side1 ?side2 A5.out).mono ?_); (case side1 => repeat (first | exact HR377_0.out | (with_reducible refine Kd.C_alloc ?_ _) | (with_reducible refine Kd.C_drewN ?_ _) | (with_reducible refine Kd.C_drew ?_))); (case side2 => exact HC377_0.out); rintro e w' ⟨rfl, ⟨nd, rfl⟩⟩; refine ⟨_, rfl, ?_⟩))); go_roundg k1
      case measure => have := HK1.out; omega
      case rel => exact ⟨(wrap64 (x5_1 + 1)), (by first | rfl | (simp; done) | (simp [*]; done)), H', ⟨by have := HK1.out; omega⟩, by repeat (first | exact Drawn0.refl _ | apply Drawn0.step)⟩
    ·
     rw [if_neg c4] at H; (exact absurd H (by simp))
   ·
    rw [if_neg c3] at H; have c3b0 : decide (x5_1 < (l0.length : Int)) = false := decide_eq_false c3; clear c3; obtain rfl := Option.some.inj H; go_wp2; go_ret; (exact ⟨by first | rfl | (simp; done) | (simp [*]; done), by repeat (first | exact Drawn0.refl _ | apply Drawn0.step)⟩)
end Go.Proofs.Ytckefohfahphpaa.Z
end
section
namespace Go.Proofs.Ytckefohfahphpaa.Z
open Go.RowKit Go.Proofs.YtckefohfahphpaaW.PrintWords Go.Proofs.YtckefohfahphpaaW.PrintLast Go.Proofs.YtckefohfahphpaaW.PrintMore
attribute [local go_sem] max2_int min2_int max_two min_two max_three min_three max_four min_four
mutual
def petrinetref08_Kernel.l0 : Nat → List (List Int) → List (List Int) → List (List Int) → Int → Option ((List (List Int)) × Bool)
 | 0, _, _, _, _ => none
 | k + 1, x0, x4, x6, x7 => if 0 < (x0.length : Int) then (if x7 < ((rd_L1 x0 0).length : Int) then ((petrinetref08_free.f k x4 x7).bind fun t385 => (if t385 = true then (petrinetref08_Kernel.l1 k x0 x4 x6 x7 1 0) else (petrinetref08_Kernel.l0 k x0 x4 x6 (wrap64 (x7 + 1))))) else (some (x6, true))) else (none)
def petrinetref08_Kernel.l1 : Nat → List (List Int) → List (List Int) → List (List Int) → Int → Int → Int → Option ((List (List Int)) × Bool)
 | 0, _, _, _, _, _, _ => none
 | k + 1, x0, x4, x6, x7, x8, x9 => if x9 < (x4.length : Int) then (if 0 ≤ x9 then ((petrinetref08_pivot.f k (rd_L1 x4 x9)).bind fun t388 => (if 0 ≤ t388 then (if t388 < ((rd_L1 x4 x9).length : Int) then (if 0 ≤ x7 then (if x7 < ((rd_L1 x4 x9).length : Int) then ((petrinetref08_common.f k (rd (rd_L1 x4 x9) t388) (rd (rd_L1 x4 x9) x7)).bind fun t392 => (if t392 = 0 then (none) else ((petrinetref08_common.f k x8 (wrap64 (Int.tdiv (rd (rd_L1 x4 x9) t388) t392))).bind fun t393 => (if t393 = 0 then (none) else ((petrinetref08_times.f k x8 (wrap64 (Int.tdiv (wrap64 (Int.tdiv (rd (rd_L1 x4 x9) t388) t392)) t393))).bind fun bt394 => (if bt394.2 = true then (petrinetref08_Kernel.l1 k x0 x4 x6 x7 bt394.1 (wrap64 (x9 + 1))) else (some (([] : List (List Int)), false)))))))) else (none)) else (none)) else (none)) else (none))) else (none)) else (if 0 < (x0.length : Int) then (if 0 ≤ ((rd_L1 x0 0).length : Int) then (if (((rd_L1 x0 0).length : Int) : Int).toNat ≤ 35184372088832 then ((some (List.replicate (((rd_L1 x0 0).length : Int) : Int).toNat 0 : List Int)).bind fun y397 => (if 0 ≤ x7 then (if x7 < (y397.length : Int) then (petrinetref08_Kernel.l2 k x0 x4 x6 x7 x8 (y397.set (x7 : Int).toNat x8) 0) else (none)) else (none))) else (none)) else (none)) else (none))
def petrinetref08_Kernel.l2 : Nat → List (List Int) → List (List Int) → List (List Int) → Int → Int → List Int → Int → Option ((List (List Int)) × Bool)
 | 0, _, _, _, _, _, _, _ => none
 | k + 1, x0, x4, x6, x7, x8, x14, x15 => if x15 < (x4.length : Int) then (if 0 ≤ x15 then ((petrinetref08_pivot.f k (rd_L1 x4 x15)).bind fun t405 => (if 0 ≤ t405 then (if t405 < ((rd_L1 x4 x15).length : Int) then (if 0 ≤ x7 then (if x7 < ((rd_L1 x4 x15).length : Int) then ((petrinetref08_common.f k (rd (rd_L1 x4 x15) t405) (rd (rd_L1 x4 x15) x7)).bind fun t410 => (if t410 = 0 then (none) else (if (wrap64 (Int.tdiv (rd (rd_L1 x4 x15) t405) t410)) = 0 then (none) else ((petrinetref08_times.f k (wrap64 (Int.tdiv x8 (wrap64 (Int.tdiv (rd (rd_L1 x4 x15) t405) t410)))) (wrap64 (-(wrap64 (Int.tdiv (rd (rd_L1 x4 x15) x7) t410))))).bind fun bt415 => (if bt415.2 = true then (if t405 < (x14.length : Int) then (petrinetref08_Kernel.l2 k x0 x4 x6 x7 x8 (x14.set (t405 : Int).toNat bt415.1) (wrap64 (x15 + 1))) else (none)) else (some (([] : List (List Int)), false))))))) else (none)) else (none)) else (none)) else (none))) else (none)) else (if x6.length < 5864062014805 then (petrinetref08_Kernel.l0 k x0 x4 (x6 ++ [x14]) (wrap64 (x7 + 1))) else (none))
end
def petrinetref08_Kernel.f (k : Nat) (l0 : List (List Int)) : Option ((List (List Int)) × Bool) := (petrinetref08_Echelon.f k l0).bind fun bt380 => (if bt380.2 = true then (petrinetref08_Kernel.l0 k l0 bt380.1 ([] : List (List Int)) 0) else (some (([] : List (List Int)), false)))
theorem petrinetref08_Kernel.mono_l : ∀ k, (∀ y0 y1 y2 y3, LeO (petrinetref08_Kernel.l0 k y0 y1 y2 y3) (petrinetref08_Kernel.l0 (k + 1) y0 y1 y2 y3)) ∧ (∀ y0 y1 y2 y3 y4 y5, LeO (petrinetref08_Kernel.l1 k y0 y1 y2 y3 y4 y5) (petrinetref08_Kernel.l1 (k + 1) y0 y1 y2 y3 y4 y5)) ∧ (∀ y0 y1 y2 y3 y4 y5 y6, LeO (petrinetref08_Kernel.l2 k y0 y1 y2 y3 y4 y5 y6) (petrinetref08_Kernel.l2 (k + 1) y0 y1 y2 y3 y4 y5 y6))
 | 0 => ⟨fun _ _ _ _ r h => by simp [petrinetref08_Kernel.l0] at h, fun _ _ _ _ _ _ r h => by simp [petrinetref08_Kernel.l1] at h, fun _ _ _ _ _ _ _ r h => by simp [petrinetref08_Kernel.l2] at h⟩
 | k + 1 => by
  obtain ⟨ih0, ih1, ih2⟩ := petrinetref08_Kernel.mono_l k
  refine ⟨?_, ?_, ?_⟩
  ·
   intro y0 y1 y2 y3
   unfold petrinetref08_Kernel.l0
   repeat' first
   | (with_reducible exact ih0 _ _ _ _)
   | (with_reducible exact ih1 _ _ _ _ _ _)
   | (with_reducible exact ih2 _ _ _ _ _ _ _)
   | (with_reducible exact petrinetref08_Echelon.mono _ _)
   | (with_reducible exact petrinetref08_common.mono _ _ _)
   | (with_reducible exact petrinetref08_free.mono _ _ _)
   | (with_reducible exact petrinetref08_pivot.mono _ _)
   | (with_reducible exact petrinetref08_times.mono _ _ _)
   | (with_reducible exact LeO.refl _)
   | (with_reducible exact LeO.none _)
   | (with_reducible refine LeO.ite ?_ ?_)
   | (with_reducible refine LeO.bind ?_ (fun _ => ?_))
   | exact ih0 _ _ _ _
   | exact ih1 _ _ _ _ _ _
   | exact ih2 _ _ _ _ _ _ _
   | exact petrinetref08_Echelon.mono _ _
   | exact petrinetref08_common.mono _ _ _
   | exact petrinetref08_free.mono _ _ _
   | exact petrinetref08_pivot.mono _ _
   | exact petrinetref08_times.mono _ _ _
   | exact LeO.none _
   | refine LeO.ite ?_ ?_
   | refine LeO.bind ?_ (fun _ => ?_)
  ·
   intro y0 y1 y2 y3 y4 y5
   unfold petrinetref08_Kernel.l1
   repeat' first
   | (with_reducible exact ih0 _ _ _ _)
   | (with_reducible exact ih1 _ _ _ _ _ _)
   | (with_reducible exact ih2 _ _ _ _ _ _ _)
   | (with_reducible exact petrinetref08_Echelon.mono _ _)
   | (with_reducible exact petrinetref08_common.mono _ _ _)
   | (with_reducible exact petrinetref08_free.mono _ _ _)
   | (with_reducible exact petrinetref08_pivot.mono _ _)
   | (with_reducible exact petrinetref08_times.mono _ _ _)
   | (with_reducible exact LeO.refl _)
   | (with_reducible exact LeO.none _)
   | (with_reducible refine LeO.ite ?_ ?_)
   | (with_reducible refine LeO.bind ?_ (fun _ => ?_))
   | exact ih0 _ _ _ _
   | exact ih1 _ _ _ _ _ _
   | exact ih2 _ _ _ _ _ _ _
   | exact petrinetref08_Echelon.mono _ _
   | exact petrinetref08_common.mono _ _ _
   | exact petrinetref08_free.mono _ _ _
   | exact petrinetref08_pivot.mono _ _
   | exact petrinetref08_times.mono _ _ _
   | exact LeO.none _
   | refine LeO.ite ?_ ?_
   | refine LeO.bind ?_ (fun _ => ?_)
  ·
   intro y0 y1 y2 y3 y4 y5 y6
   unfold petrinetref08_Kernel.l2
   repeat' first
   | (with_reducible exact ih0 _ _ _ _)
   | (with_reducible exact ih1 _ _ _ _ _ _)
   | (with_reducible exact ih2 _ _ _ _ _ _ _)
   | (with_reducible exact petrinetref08_Echelon.mono _ _)
   | (with_reducible exact petrinetref08_common.mono _ _ _)
   | (with_reducible exact petrinetref08_free.mono _ _ _)
   | (with_reducible exact petrinetref08_pivot.mono _ _)
   | (with_reducible exact petrinetref08_times.mono _ _ _)
   | (with_reducible exact LeO.refl _)
   | (with_reducible exact LeO.none _)
   | (with_reducible refine LeO.ite ?_ ?_)
   | (with_reducible refine LeO.bind ?_ (fun _ => ?_))
   | exact ih0 _ _ _ _
   | exact ih1 _ _ _ _ _ _
   | exact ih2 _ _ _ _ _ _ _
   | exact petrinetref08_Echelon.mono _ _
   | exact petrinetref08_common.mono _ _ _
   | exact petrinetref08_free.mono _ _ _
   | exact petrinetref08_pivot.mono _ _
   | exact petrinetref08_times.mono _ _ _
   | exact LeO.none _
   | refine LeO.ite ?_ ?_
   | refine LeO.bind ?_ (fun _ => ?_)
theorem petrinetref08_Kernel.mono : ∀ a0 k, LeO (petrinetref08_Kernel.f k a0) (petrinetref08_Kernel.f (k + 1) a0) := by
 intro a0 k
 obtain ⟨ih0, ih1, ih2⟩ := petrinetref08_Kernel.mono_l k
 unfold petrinetref08_Kernel.f
 repeat' first
   | (with_reducible exact ih0 _ _ _ _)
   | (with_reducible exact ih1 _ _ _ _ _ _)
   | (with_reducible exact ih2 _ _ _ _ _ _ _)
   | (with_reducible exact petrinetref08_Echelon.mono _ _)
   | (with_reducible exact petrinetref08_common.mono _ _ _)
   | (with_reducible exact petrinetref08_free.mono _ _ _)
   | (with_reducible exact petrinetref08_pivot.mono _ _)
   | (with_reducible exact petrinetref08_times.mono _ _ _)
   | (with_reducible exact LeO.refl _)
   | (with_reducible exact LeO.none _)
   | (with_reducible refine LeO.ite ?_ ?_)
   | (with_reducible refine LeO.bind ?_ (fun _ => ?_))
   | exact ih0 _ _ _ _
   | exact ih1 _ _ _ _ _ _
   | exact ih2 _ _ _ _ _ _ _
   | exact petrinetref08_Echelon.mono _ _
   | exact petrinetref08_common.mono _ _ _
   | exact petrinetref08_free.mono _ _ _
   | exact petrinetref08_pivot.mono _ _
   | exact petrinetref08_times.mono _ _ _
   | exact LeO.none _
   | refine LeO.ite ?_ ?_
   | refine LeO.bind ?_ (fun _ => ?_)
set_option maxHeartbeats 8000000 in
set_option maxRecDepth 100000 in
theorem petrinetref08_Kernel.calls (k : Nat) (A0 : Option Addr) (c0 : Nat) (l0 : List (List Int)) (r1 : List (List Int)) (r2 : Bool) (w : World) (hr0 : Kd.C (Kd.slice 2 (Kd.int .i64)) w A0 l0.length l0) (hc0 : l0.length ≤ c0) (h : petrinetref08_Kernel.f k l0 = some (r1, r2)) :
  Calls Try.prog 13 #[.slice A0 l0.length c0] w fun e w' => ∃ v0_ : Value, e = .returned (.tuple #[v0_, .bool r2]) ∧ Kd.N (Kd.slice 2 (Kd.int .i64)) 33 w' w.heap.size (fun k_ => (w.heap.size ≤ k_)) v0_ r1 ∧ Below w.heap.size w w' := by
 have HR0 := Aside0.mk hr0
 have HC0 := Aside0.mk hc0
 clear hr0 hc0
 have HB := Aside0.mk (Below.refl w.heap.size w)
 have H : ((petrinetref08_Echelon.f k l0).bind fun bt380 => (if bt380.2 = true then (petrinetref08_Kernel.l0 k l0 bt380.1 ([] : List (List Int)) 0) else (some (([] : List (List Int)), false)))) = some (r1, r2) := h
 clear h
 replace H := Option.bind_eq_some_iff.mp H
 obtain ⟨⟨t380, t383⟩, A20, H⟩ := H
 replace H : (if t383 = true then (petrinetref08_Kernel.l0 k l0 t380 ([] : List (List Int)) 0) else (some (([] : List (List Int)), false))) = some (r1, r2) := H
 have A2 := Aside0.mk A20
 clear A20
 by_cases c3 : t383 = true
 ·
  subst c3; (have H1 : (petrinetref08_Kernel.l0 k l0 t380 ([] : List (List Int)) 0) = some (r1, r2) := by rw [if_pos rfl] at H; exact H); clear H; have H := H1; clear H1; have H' := Aside0.mk H; clear H
  go_enter Try.func13, Try.ntmps13
  go_wp2_with (first | (go_at_call 17; (with_reducible refine (petrinetref08_Echelon.calls k _ _ l0 t380 true _ ?side1 ?side2 A2.out).mono ?_); (case side1 => repeat (first | exact HR0.out | (with_reducible refine Kd.C_alloc ?_ _) | (with_reducible refine Kd.C_drewN ?_ _) | (with_reducible refine Kd.C_drew ?_))); (case side2 => exact HC0.out); rintro e w4 ⟨v381, rfl, ho0, hb⟩; have n0_ := Aside0.mk (Kd.N_lower (Kd.N_mono (ok' := fun k_ => (w.heap.size ≤ k_)) ho0 (fun k_ hk_ => (Nat.le_trans (below_size (by repeat (first | (with_reducible first | exact HB.out | apply below_alloc | apply pw_below_drewN | apply below_drew1) | exact HB.out))) hk_))) (below_size (by repeat (first | (with_reducible first | exact HB.out | apply below_alloc | apply pw_below_drewN | apply below_drew1) | exact HB.out)))); have n1_ := Aside0.mk (below_step (by repeat (first | (with_reducible first | exact HB.out | apply below_alloc | apply pw_below_drewN | apply below_drew1) | exact HB.out)) hb); clear HB; have HO382 := n0_; have HB := n1_; clear n0_ n1_; (try clear hb); (try clear hb2); (try clear hk); (try clear hi); (try clear ho0)))
  go_loopg [6, 7] k (fun kq v6 v7 w' => ∃ (x6_1 : List (List Int)) (x7_1 : Int), v7 = .int .i64 x7_1 ∧ Aside0 (petrinetref08_Kernel.l0 kq l0 t380 x6_1 x7_1 = some (r1, r2)) ∧ Aside0 (kq ≤ k) ∧ Aside0 (Kd.N (Kd.slice 2 (Kd.int .i64)) 33 w' w.heap.size (fun k_ => (w.heap.size ≤ k_) ∧ some k_ ≠ (v6 : Value).ownBlock) v381 t380) ∧ Aside0 (Kd.N (Kd.slice 2 (Kd.int .i64)) 33 w' w.heap.size (fun k_ => (w.heap.size ≤ k_) ∧ some k_ ≠ (v381 : Value).ownBlock) v6 x6_1) ∧ Aside0 (Below w.heap.size w w'))
  case atStart => exact ⟨(([] : List (List Int))), (0), (by first | rfl | (simp; done) | (simp [*]; done)), H', ⟨Nat.le_refl _⟩, ⟨by (with_reducible repeat (first | apply Kd.N_alloc | apply Kd.N_drewN | apply Kd.N_drew)); exact Kd.N_mono HO382.out (fun _ hk => ⟨hk, (by simp [Value.ownBlock])⟩)⟩, ⟨by first | exact Kd.S_nil _ _ _ _ _ | exact Kd.N_nil _ _ _ _ _ | exact Kd.V_nil _ _ _ _ _ | exact Kd.Q_nil _ _ _ _ _ | exact Kd.R_nil _ _ _ _ _⟩, ⟨by repeat (first | (with_reducible first | exact HB.out | apply below_alloc | apply pw_below_drewN | apply below_drew1) | exact HB.out)⟩⟩
  case round =>
   clear H'; (try clear c1); (try clear p2); (try clear c3); obtain ⟨x6_1, x7_1, rfl, HA, HK1, HO_4, HO_6, HB⟩ := hrel
   cases gk with
   | zero => exact absurd HA.out (by simp [petrinetref08_Kernel.l0])
   | succ k1 =>
    have H := HA.out; clear HA; simp only [petrinetref08_Kernel.l0] at H; by_cases c5 : 0 < (l0.length : Int)
    ·
     rw [if_pos c5] at H; have c5b0 : decide (0 < (l0.length : Int)) = true := decide_eq_true c5; (have c5b1 : decide (0 < l0.length) = true := decide_eq_true (by omega)); clear c5; by_cases c6 : x7_1 < ((rd_L1 l0 0).length : Int)
     ·
      rw [if_pos c6] at H; have c6b0 : decide (x7_1 < ((rd_L1 l0 0).length : Int)) = true := decide_eq_true c6; clear c6; replace H := Option.bind_eq_some_iff.mp H; obtain ⟨t385, A70, H⟩ := H; replace H : (if t385 = true then (petrinetref08_Kernel.l1 k1 l0 t380 x6_1 x7_1 1 0) else (petrinetref08_Kernel.l0 k1 l0 t380 x6_1 (wrap64 (x7_1 + 1)))) = some (r1, r2) := H; have A7 := Aside0.mk A70; clear A70; by_cases c8 : t385 = true
      ·
       subst c8; (have H1 : (petrinetref08_Kernel.l1 k1 l0 t380 x6_1 x7_1 1 0) = some (r1, r2) := by rw [if_pos rfl] at H; exact H); clear H; have H := H1; clear H1; have H' := Aside0.mk H; clear H; (have p384 : 0 ≤ (0 : Int) := (by omega)); (have q384 : 0 < (l0.length : Int) := of_decide_eq_true (by first | (with_reducible assumption) | assumption)); obtain ⟨ad384, A384_0, c384_0, e384, hx384_0, hl384_0, hi384_0⟩ := at_L1 HR0.out 0 p384 q384
       cases e384
       (have qi384 : (0 < l0.length) = True := eq_true (by omega)); (try rw [show ((0 : Int)).toNat = 0 from rfl] at hx384_0); (try rw [Addr.add_zero'] at hx384_0); replace hx384_0 := (HB.out.cell (World.block_lt_of_cell? w _ hx384_0)).trans hx384_0; have HR384_0 := Aside0.mk hi384_0; have HC384_0 := Aside0.mk hl384_0; clear hi384_0 hl384_0; replace p384 := eq_true p384; replace q384 := eq_true q384; obtain ⟨Ao9, co9, eo9⟩ := Kd.N_slice HO_4.out; subst eo9
       go_wp2_with (first | (go_at_call 29; (with_reducible refine (petrinetref08_free.calls k1 _ _ t380 x7_1 true _ ?side1 ?side2 A7.out).mono ?_); (case side1 => repeat (first | exact (Kd.N_reads' HO_4.out).2.2 | (with_reducible refine Kd.C_alloc ?_ _) | (with_reducible refine Kd.C_drewN ?_ _) | (with_reducible refine Kd.C_drew ?_))); (case side2 => exact (Kd.N_reads' HO_4.out).2.1); rintro e w' ⟨rfl, ⟨nd, rfl⟩⟩; (try first | exact ⟨rfl, _, World.drewN_drewN _ _ _⟩ | exact ⟨rfl, _, Eq.trans (World.drewN_drewN _ _ _) (congrArg (World.drewN _) (Nat.add_assoc _ _ _))⟩)))
       go_loopg [8, 9] k1 (fun kq v8 v9 w' => ∃ (x8_2 : Int) (x9_2 : Int), v8 = .int .i64 x8_2 ∧ v9 = .int .i64 x9_2 ∧ Aside0 (petrinetref08_Kernel.l1 kq l0 t380 x6_1 x7_1 x8_2 x9_2 = some (r1, r2)) ∧ Aside0 (kq ≤ k1) ∧ Aside0 (Kd.N (Kd.slice 2 (Kd.int .i64)) 33 w' w.heap.size (fun k_ => (w.heap.size ≤ k_) ∧ some k_ ≠ (u6 : Value).ownBlock) (.slice Ao9 t380.length co9) t380) ∧ Aside0 (Kd.N (Kd.slice 2 (Kd.int .i64)) 33 w' w.heap.size (fun k_ => (w.heap.size ≤ k_) ∧ some k_ ≠ ((.slice Ao9 t380.length co9) : Value).ownBlock) u6 x6_1) ∧ Aside0 (Below w.heap.size w w'))
       case atStart => exact ⟨(1), (0), (by first | rfl | (simp; done) | (simp [*]; done)), (by first | rfl | (simp; done) | (simp [*]; done)), H', ⟨Nat.le_refl _⟩, ⟨by (with_reducible repeat (first | apply Kd.N_alloc | apply Kd.N_drewN | apply Kd.N_drew)); exact HO_4.out⟩, ⟨by (with_reducible repeat (first | apply Kd.N_alloc | apply Kd.N_drewN | apply Kd.N_drew)); exact HO_6.out⟩, ⟨by repeat (first | (with_reducible first | exact HB.out | apply below_alloc | apply pw_below_drewN | apply below_drew1) | exact HB.out)⟩⟩
       case round =>
        clear H'; (try clear c1); (try clear p2); (try clear c3); (try clear p3); (try clear q3); (try clear hx3); (try clear qi3); (try clear c5); (try clear c5b0); (try clear c5b1); (try clear c6); (try clear c6b0); (try clear p6); (try clear c8); (try clear hx384_0); (try clear p2); (try clear p384); (try clear q384); obtain ⟨x8_2, x9_2, rfl, rfl, HA, HK2, HO_4, HO_6, HB⟩ := hrel
        cases gk with
        | zero => exact absurd HA.out (by simp [petrinetref08_Kernel.l1])
        | succ k2 =>
         have H := HA.out; clear HA; simp only [petrinetref08_Kernel.l1] at H; by_cases c10 : x9_2 < (t380.length : Int)
         ·
          rw [if_pos c10] at H; have c10b0 : decide (x9_2 < (t380.length : Int)) = true := decide_eq_true c10; clear c10; by_cases c11 : 0 ≤ x9_2
          ·
           rw [if_pos c11] at H; have c11b0 : decide (0 ≤ x9_2) = true := decide_eq_true c11; clear c11; replace H := Option.bind_eq_some_iff.mp H; obtain ⟨t388, A120, H⟩ := H; (replace H : (if 0 ≤ t388 then (if t388 < ((rd_L1 t380 x9_2).length : Int) then (if 0 ≤ x7_1 then (if x7_1 < ((rd_L1 t380 x9_2).length : Int) then ((petrinetref08_common.f k2 (rd (rd_L1 t380 x9_2) t388) (rd (rd_L1 t380 x9_2) x7_1)).bind fun t392 => (if t392 = 0 then (none) else ((petrinetref08_common.f k2 x8_2 (wrap64 (Int.tdiv (rd (rd_L1 t380 x9_2) t388) t392))).bind fun t393 => (if t393 = 0 then (none) else ((petrinetref08_times.f k2 x8_2 (wrap64 (Int.tdiv (wrap64 (Int.tdiv (rd (rd_L1 t380 x9_2) t388) t392)) t393))).bind fun bt394 => (if bt394.2 = true then (petrinetref08_Kernel.l1 k2 l0 t380 x6_1 x7_1 bt394.1 (wrap64 (x9_2 + 1))) else (some (([] : List (List Int)), false)))))))) else (none)) else (none)) else (none)) else (none)) = some (r1, r2) := H); have A12 := Aside0.mk A120; clear A120; by_cases c13 : 0 ≤ t388
           ·
            rw [if_pos c13] at H; have c13b0 : decide (0 ≤ t388) = true := decide_eq_true c13; clear c13; by_cases c14 : t388 < ((rd_L1 t380 x9_2).length : Int)
            ·
             rw [if_pos c14] at H; have c14b0 : decide (t388 < ((rd_L1 t380 x9_2).length : Int)) = true := decide_eq_true c14; clear c14; by_cases c15 : 0 ≤ x7_1
             ·
              rw [if_pos c15] at H; have c15b0 : decide (0 ≤ x7_1) = true := decide_eq_true c15; clear c15; by_cases c16 : x7_1 < ((rd_L1 t380 x9_2).length : Int)
              ·
               rw [if_pos c16] at H; have c16b0 : decide (x7_1 < ((rd_L1 t380 x9_2).length : Int)) = true := decide_eq_true c16; clear c16; replace H := Option.bind_eq_some_iff.mp H; obtain ⟨t392, A170, H⟩ := H; (replace H : (if t392 = 0 then (none) else ((petrinetref08_common.f k2 x8_2 (wrap64 (Int.tdiv (rd (rd_L1 t380 x9_2) t388) t392))).bind fun t393 => (if t393 = 0 then (none) else ((petrinetref08_times.f k2 x8_2 (wrap64 (Int.tdiv (wrap64 (Int.tdiv (rd (rd_L1 t380 x9_2) t388) t392)) t393))).bind fun bt394 => (if bt394.2 = true then (petrinetref08_Kernel.l1 k2 l0 t380 x6_1 x7_1 bt394.1 (wrap64 (x9_2 + 1))) else (some (([] : List (List Int)), false))))))) = some (r1, r2) := H); have A17 := Aside0.mk A170; clear A170; by_cases c18 : t392 = 0
               ·
                rw [if_pos c18] at H; (exact absurd H (by simp))
               ·
                rw [if_neg c18] at H; have c18b0 : (t392 == 0) = false := beq_eq_false_iff_ne.mpr c18; have c18b1 : (t392 != 0) = true := bne_iff_ne.mpr c18; replace H := Option.bind_eq_some_iff.mp H; obtain ⟨t393, A190, H⟩ := H; (replace H : (if t393 = 0 then (none) else ((petrinetref08_times.f k2 x8_2 (wrap64 (Int.tdiv (wrap64 (Int.tdiv (rd (rd_L1 t380 x9_2) t388) t392)) t393))).bind fun bt394 => (if bt394.2 = true then (petrinetref08_Kernel.l1 k2 l0 t380 x6_1 x7_1 bt394.1 (wrap64 (x9_2 + 1))) else (some (([] : List (List Int)), false))))) = some (r1, r2) := H); have A19 := Aside0.mk A190; clear A190; by_cases c20 : t393 = 0
                ·
                 rw [if_pos c20] at H; (exact absurd H (by simp))
                ·
                 rw [if_neg c20] at H; have c20b0 : (t393 == 0) = false := beq_eq_false_iff_ne.mpr c20; have c20b1 : (t393 != 0) = true := bne_iff_ne.mpr c20; replace H := Option.bind_eq_some_iff.mp H; obtain ⟨⟨t394, t395⟩, A210, H⟩ := H; replace H : (if t395 = true then (petrinetref08_Kernel.l1 k2 l0 t380 x6_1 x7_1 t394 (wrap64 (x9_2 + 1))) else (some (([] : List (List Int)), false))) = some (r1, r2) := H; have A21 := Aside0.mk A210; clear A210; by_cases c22 : t395 = true
                 ·
                  subst c22; (have H1 : (petrinetref08_Kernel.l1 k2 l0 t380 x6_1 x7_1 t394 (wrap64 (x9_2 + 1))) = some (r1, r2) := by rw [if_pos rfl] at H; exact H); clear H; have H := H1; clear H1; have H' := Aside0.mk H; clear H; (have p386 : 0 ≤ (x9_2 : Int) := of_decide_eq_true (by first | (with_reducible assumption) | assumption)); (have q386 : x9_2 < (t380.length : Int) := of_decide_eq_true (by first | (with_reducible assumption) | assumption)); obtain ⟨ad386, A386_0, c386_0, e386, hx386_0, hl386_0, hi386_0⟩ := at_L1 (Kd.N_reads' HO_4.out).2.2 x9_2 p386 q386
                  cases e386
                  (obtain ⟨ce386, hce386, hMe386, hcc386⟩ := Kd.N_get HO_4.out [] x9_2 p386 (by first | exact q386 | exact of_decide_eq_true (by first | (with_reducible assumption) | assumption) | (have e_ := (Kd.N_reads' HO_4.out).1; omega))); obtain ⟨ua386_0, uc386_0, rfl, ul386_0, ge386_0⟩ := Kd.FK_slice_open hMe386; have hv386_0 := hcc386 0 _ rfl; (rw [Nat.add_zero, show ((Kd.slice 2 (Kd.int .i64))).sz = 1 from rfl, Nat.mul_one] at hv386_0); replace hv386_0 := Option.some.inj (hv386_0.symm.trans hx386_0); injection hv386_0 with hva_ hvn_ hvc_; rw [hva_] at ge386_0; rw [hvc_] at ul386_0; (have HL386_0 := Aside0.mk (show Kd.V (Kd.int .i64) 2 _ w.heap.size _ _ (rd_L1 t380 x9_2) from Kd.V_mk ul386_0 ge386_0)); clear hva_ hvn_ hvc_ ge386_0 ul386_0; clear hcc386 hce386; have HR386_0 := Aside0.mk hi386_0; have HC386_0 := Aside0.mk hl386_0; clear hi386_0 hl386_0; replace p386 := eq_true p386; replace q386 := eq_true q386; (have p387 : 0 ≤ (x9_2 : Int) := of_decide_eq_true (by first | (with_reducible assumption) | assumption)); (have q387 : x9_2 < (t380.length : Int) := of_decide_eq_true (by first | (with_reducible assumption) | assumption)); obtain ⟨ad387, A387_0, c387_0, e387, hx387_0, hl387_0, hi387_0⟩ := at_L1 (Kd.N_reads' HO_4.out).2.2 x9_2 p387 q387; (obtain rfl : ad386 = ad387 := (by injection e387)); (obtain ⟨ce387, hce387, hMe387, hcc387⟩ := Kd.N_get HO_4.out [] x9_2 p387 (by first | exact q387 | exact of_decide_eq_true (by first | (with_reducible assumption) | assumption) | (have e_ := (Kd.N_reads' HO_4.out).1; omega))); obtain ⟨ua387_0, uc387_0, rfl, ul387_0, ge387_0⟩ := Kd.FK_slice_open hMe387; have hv387_0 := hcc387 0 _ rfl; (rw [Nat.add_zero, show ((Kd.slice 2 (Kd.int .i64))).sz = 1 from rfl, Nat.mul_one] at hv387_0); replace hv387_0 := Option.some.inj (hv387_0.symm.trans hx387_0); injection hv387_0 with hva_ hvn_ hvc_; rw [hva_] at ge387_0; rw [hvc_] at ul387_0; (have HL387_0 := Aside0.mk (show Kd.V (Kd.int .i64) 2 _ w.heap.size _ _ (rd_L1 t380 x9_2) from Kd.V_mk ul387_0 ge387_0)); clear hva_ hvn_ hvc_ ge387_0 ul387_0; clear hcc387 hce387; have HR387_0 := Aside0.mk hi387_0; have HC387_0 := Aside0.mk hl387_0; clear hi387_0 hl387_0; replace p387 := eq_true p387; replace q387 := eq_true q387; have ea_ := Option.some.inj (hx386_0.symm.trans hx387_0); injection ea_ with ea_ en_ ec_; subst ea_; subst ec_; clear en_
                  go_wp2_with (first | (go_at_call 30; (with_reducible refine (petrinetref08_pivot.calls k2 _ _ (rd_L1 t380 x9_2) t388 _ ?side1 ?side2 A12.out).mono ?_); (case side1 => repeat (first | exact (by repeat (first | (with_reducible exact HR387_0.out) | (with_reducible refine Kd.C_alloc ?_ _) | (with_reducible refine Kd.C_drewN ?_ _) | (with_reducible refine Kd.C_drew ?_) | exact HR387_0.out)) | (with_reducible refine Kd.C_alloc ?_ _) | (with_reducible refine Kd.C_drewN ?_ _) | (with_reducible refine Kd.C_drew ?_))); (case side2 => exact HC387_0.out); rintro e w' ⟨rfl, ⟨nd, rfl⟩⟩; (try first | exact ⟨rfl, _, World.drewN_drewN _ _ _⟩ | exact ⟨rfl, _, Eq.trans (World.drewN_drewN _ _ _) (congrArg (World.drewN _) (Nat.add_assoc _ _ _))⟩); have p389 : 0 ≤ (t388 : Int) := of_decide_eq_true (by first | (with_reducible assumption) | assumption); have q389 : t388 < ((rd_L1 t380 x9_2).length : Int) := of_decide_eq_true (by first | (with_reducible assumption) | assumption); obtain ⟨ad389, e389, hx389_0⟩ := Kd.at_int (by repeat (first | (with_reducible exact HR386_0.out) | (with_reducible refine Kd.C_alloc ?_ _) | (with_reducible refine Kd.C_drewN ?_ _) | (with_reducible refine Kd.C_drew ?_) | exact HR386_0.out)) t388 p389 q389; cases e389; replace p389 := eq_true p389; replace q389 := eq_true q389; have p390 : 0 ≤ (x9_2 : Int) := of_decide_eq_true (by first | (with_reducible assumption) | assumption); have q390 : x9_2 < (t380.length : Int) := of_decide_eq_true (by first | (with_reducible assumption) | assumption); obtain ⟨ad390, A390_0, c390_0, e390, hx390_0, hl390_0, hi390_0⟩ := at_L1 (Kd.N_reads' HO_4.out).2.2 x9_2 p390 q390; obtain rfl : ad386 = ad390 := (by injection e390); obtain ⟨ce390, hce390, hMe390, hcc390⟩ := Kd.N_get HO_4.out [] x9_2 p390 (by first | exact q390 | exact of_decide_eq_true (by first | (with_reducible assumption) | assumption) | (have e_ := (Kd.N_reads' HO_4.out).1; omega)); obtain ⟨ua390_0, uc390_0, rfl, ul390_0, ge390_0⟩ := Kd.FK_slice_open hMe390; have hv390_0 := hcc390 0 _ rfl; rw [Nat.add_zero, show ((Kd.slice 2 (Kd.int .i64))).sz = 1 from rfl, Nat.mul_one] at hv390_0; replace hv390_0 := Option.some.inj (hv390_0.symm.trans hx390_0); injection hv390_0 with hva_ hvn_ hvc_; rw [hva_] at ge390_0; rw [hvc_] at ul390_0; have HL390_0 := Aside0.mk (show Kd.V (Kd.int .i64) 2 _ w.heap.size _ _ (rd_L1 t380 x9_2) from Kd.V_mk ul390_0 ge390_0); clear hva_ hvn_ hvc_ ge390_0 ul390_0; clear hcc390 hce390; have HR390_0 := Aside0.mk hi390_0; have HC390_0 := Aside0.mk hl390_0; clear hi390_0 hl390_0; replace p390 := eq_true p390; replace q390 := eq_true q390; have ea_ := Option.some.inj (hx386_0.symm.trans hx390_0); injection ea_ with ea_ en_ ec_; subst ea_; subst ec_; clear en_; have p391 : 0 ≤ (x7_1 : Int) := of_decide_eq_true (by first | (with_reducible assumption) | assumption); have q391 : x7_1 < ((rd_L1 t380 x9_2).length : Int) := of_decide_eq_true (by first | (with_reducible assumption) | assumption); obtain ⟨ad391, e391, hx391_0⟩ := Kd.at_int (by repeat (first | (with_reducible exact HR390_0.out) | (with_reducible refine Kd.C_alloc ?_ _) | (with_reducible refine Kd.C_drewN ?_ _) | (with_reducible refine Kd.C_drew ?_) | exact HR390_0.out)) x7_1 p391 q391; cases e391; replace p391 := eq_true p391; replace q391 := eq_true q391) | (go_at_call 31; (with_reducible refine (petrinetref08_common.calls k2 (rd (rd_L1 t380 x9_2) t388) (rd (rd_L1 t380 x9_2) x7_1) t392 _ A17.out).mono ?_); rintro e w' ⟨rfl, ⟨nd, rfl⟩⟩; (try first | exact ⟨rfl, _, World.drewN_drewN _ _ _⟩ | exact ⟨rfl, _, Eq.trans (World.drewN_drewN _ _ _) (congrArg (World.drewN _) (Nat.add_assoc _ _ _))⟩)) | (go_at_call 31; (with_reducible refine (petrinetref08_common.calls k2 x8_2 (wrap64 (Int.tdiv (rd (rd_L1 t380 x9_2) t388) t392)) t393 _ A19.out).mono ?_); rintro e w' ⟨rfl, ⟨nd, rfl⟩⟩; (try first | exact ⟨rfl, _, World.drewN_drewN _ _ _⟩ | exact ⟨rfl, _, Eq.trans (World.drewN_drewN _ _ _) (congrArg (World.drewN _) (Nat.add_assoc _ _ _))⟩)) | (go_at_call 32; (with_reducible refine (petrinetref08_times.calls k2 x8_2 (wrap64 (Int.tdiv (wrap64 (Int.tdiv (rd (rd_L1 t380 x9_2) t388) t392)) t393)) t394 true _ A21.out).mono ?_); rintro e w' ⟨rfl, ⟨nd, rfl⟩⟩; (try first | exact ⟨rfl, _, World.drewN_drewN _ _ _⟩ | exact ⟨rfl, _, Eq.trans (World.drewN_drewN _ _ _) (congrArg (World.drewN _) (Nat.add_assoc _ _ _))⟩)))
                  repeat (go_quiet (first | (go_at_call 30; (with_reducible refine (petrinetref08_pivot.calls k2 _ _ (rd_L1 t380 x9_2) t388 _ ?side1 ?side2 A12.out).mono ?_); (case side1 => repeat (first | exact (by repeat (first | (with_reducible exact HR387_0.out) | (with_reducible refine Kd.C_alloc ?_ _) | (with_reducible refine Kd.C_drewN ?_ _) | (with_reducible refine Kd.C_drew ?_) | exact HR387_0.out)) | (with_reducible refine Kd.C_alloc ?_ _) | (with_reducible refine Kd.C_drewN ?_ _) | (with_reducible refine Kd.C_drew ?_))); (case side2 => exact HC387_0.out); rintro e w' ⟨rfl, ⟨nd, rfl⟩⟩; (try first | exact ⟨rfl, _, World.drewN_drewN _ _ _⟩ | exact ⟨rfl, _, Eq.trans (World.drewN_drewN _ _ _) (congrArg (World.drewN _) (Nat.add_assoc _ _ _))⟩); have p389 : 0 ≤ (t388 : Int) := of_decide_eq_true (by first | (with_reducible assumption) | assumption); have q389 : t388 < ((rd_L1 t380 x9_2).length : Int) := of_decide_eq_true (by first | (with_reducible assumption) | assumption); obtain ⟨ad389, e389, hx389_0⟩ := Kd.at_int (by repeat (first | (with_reducible exact HR386_0.out) | (with_reducible refine Kd.C_alloc ?_ _) | (with_reducible refine Kd.C_drewN ?_ _) | (with_reducible refine Kd.C_drew ?_) | exact HR386_0.out)) t388 p389 q389; cases e389; replace p389 := eq_true p389; replace q389 := eq_true q389; have p390 : 0 ≤ (x9_2 : Int) := of_decide_eq_true (by first | (with_reducible assumption) | assumption); have q390 : x9_2 < (t380.length : Int) := of_decide_eq_true (by first | (with_reducible assumption) | assumption); obtain ⟨ad390, A390_0, c390_0, e390, hx390_0, hl390_0, hi390_0⟩ := at_L1 (Kd.N_reads' HO_4.out).2.2 x9_2 p390 q390; obtain rfl : ad386 = ad390 := (by injection e390); obtain ⟨ce390, hce390, hMe390, hcc390⟩ := Kd.N_get HO_4.out [] x9_2 p390 (by first | exact q390 | exact of_decide_eq_true (by first | (with_reducible assumption) | assumption) | (have e_ := (Kd.N_reads' HO_4.out).1; omega)); obtain ⟨ua390_0, uc390_0, rfl, ul390_0, ge390_0⟩ := Kd.FK_slice_open hMe390; have hv390_0 := hcc390 0 _ rfl; rw [Nat.add_zero, show ((Kd.slice 2 (Kd.int .i64))).sz = 1 from rfl, Nat.mul_one] at hv390_0; replace hv390_0 := Option.some.inj (hv390_0.symm.trans hx390_0); injection hv390_0 with hva_ hvn_ hvc_; rw [hva_] at ge390_0; rw [hvc_] at ul390_0; have HL390_0 := Aside0.mk (show Kd.V (Kd.int .i64) 2 _ w.heap.size _ _ (rd_L1 t380 x9_2) from Kd.V_mk ul390_0 ge390_0); clear hva_ hvn_ hvc_ ge390_0 ul390_0; clear hcc390 hce390; have HR390_0 := Aside0.mk hi390_0; have HC390_0 := Aside0.mk hl390_0; clear hi390_0 hl390_0; replace p390 := eq_true p390; replace q390 := eq_true q390; have ea_ := Option.some.inj (hx386_0.symm.trans hx390_0); injection ea_ with ea_ en_ ec_; subst ea_; subst ec_; clear en_; have p391 : 0 ≤ (x7_1 : Int) := of_decide_eq_true (by first | (with_reducible assumption) | assumption); have q391 : x7_1 < ((rd_L1 t380 x9_2).length : Int) := of_decide_eq_true (by first | (with_reducible assumption) | assumption); obtain ⟨ad391, e391, hx391_0⟩ := Kd.at_int (by repeat (first | (with_reducible exact HR390_0.out) | (with_reducible refine Kd.C_alloc ?_ _) | (with_reducible refine Kd.C_drewN ?_ _) | (with_reducible refine Kd.C_drew ?_) | exact HR390_0.out)) x7_1 p391 q391; cases e391; replace p391 := eq_true p391; replace q391 := eq_true q391) | (go_at_call 31; (with_reducible refine (petrinetref08_common.calls k2 (rd (rd_L1 t380 x9_2) t388) (rd (rd_L1 t380 x9_2) x7_1) t392 _ A17.out).mono ?_); rintro e w' ⟨rfl, ⟨nd, rfl⟩⟩; (try first | exact ⟨rfl, _, World.drewN_drewN _ _ _⟩ | exact ⟨rfl, _, Eq.trans (World.drewN_drewN _ _ _) (congrArg (World.drewN _) (Nat.add_assoc _ _ _))⟩)) | (go_at_call 31; (with_reducible refine (petrinetref08_common.calls k2 x8_2 (wrap64 (Int.tdiv (rd (rd_L1 t380 x9_2) t388) t392)) t393 _ A19.out).mono ?_); rintro e w' ⟨rfl, ⟨nd, rfl⟩⟩; (try first | exact ⟨rfl, _, World.drewN_drewN _ _ _⟩ | exact ⟨rfl, _, Eq.trans (World.drewN_drewN _ _ _) (congrArg (World.drewN _) (Nat.add_assoc _ _ _))⟩)) | (go_at_call 32; (with_reducible refine (petrinetref08_times.calls k2 x8_2 (wrap64 (Int.tdiv (wrap64 (Int.tdiv (rd (rd_L1 t380 x9_2) t388) t392)) t393)) t394 true _ A21.out).mono ?_); rintro e w' ⟨rfl, ⟨nd, rfl⟩⟩; (try first | exact ⟨rfl, _, World.drewN_drewN _ _ _⟩ | exact ⟨rfl, _, Eq.trans (World.drewN_drewN _ _ _) (congrArg (World.drewN _) (Nat.add_assoc _ _ _))⟩))); try go_wp2_with (first | (go_at_call 30; (with_reducible refine (petrinetref08_pivot.calls k2 _ _ (rd_L1 t380 x9_2) t388 _ ?side1 ?side2 A12.out).mono ?_); (case side1 => repeat (first | exact (by repeat (first | (with_reducible exact HR387_0.out) | (with_reducible refine Kd.C_alloc ?_ _) | (with_reducible refine Kd.C_drewN ?_ _) | (with_reducible refine Kd.C_drew ?_) | exact HR387_0.out)) | (with_reducible refine Kd.C_alloc ?_ _) | (with_reducible refine Kd.C_drewN ?_ _) | (with_reducible refine Kd.C_drew ?_))); (case side2 => exact HC387_0.out); rintro e w' ⟨rfl, ⟨nd, rfl⟩⟩; (try first | exact ⟨rfl, _, World.drewN_drewN _ _ _⟩ | exact ⟨rfl, _, Eq.trans (World.drewN_drewN _ _ _) (congrArg (World.drewN _) (Nat.add_assoc _ _ _))⟩); have p389 : 0 ≤ (t388 : Int) := of_decide_eq_true (by first | (with_reducible assumption) | assumption); have q389 : t388 < ((rd_L1 t380 x9_2).length : Int) := of_decide_eq_true (by first | (with_reducible assumption) | assumption); obtain ⟨ad389, e389, hx389_0⟩ := Kd.at_int (by repeat (first | (with_reducible exact HR386_0.out) | (with_reducible refine Kd.C_alloc ?_ _) | (with_reducible refine Kd.C_drewN ?_ _) | (with_reducible refine Kd.C_drew ?_) | exact HR386_0.out)) t388 p389 q389; cases e389; replace p389 := eq_true p389; replace q389 := eq_true q389; have p390 : 0 ≤ (x9_2 : Int) := of_decide_eq_true (by first | (with_reducible assumption) | assumption); have q390 : x9_2 < (t380.length : Int) := of_decide_eq_true (by first | (with_reducible assumption) | assumption); obtain ⟨ad390, A390_0, c390_0, e390, hx390_0, hl390_0, hi390_0⟩ := at_L1 (Kd.N_reads' HO_4.out).2.2 x9_2 p390 q390; obtain rfl : ad386 = ad390 := (by injection e390); obtain ⟨ce390, hce390, hMe390, hcc390⟩ := Kd.N_get HO_4.out [] x9_2 p390 (by first | exact q390 | exact of_decide_eq_true (by first | (with_reducible assumption) | assumption) | (have e_ := (Kd.N_reads' HO_4.out).1; omega)); obtain ⟨ua390_0, uc390_0, rfl, ul390_0, ge390_0⟩ := Kd.FK_slice_open hMe390; have hv390_0 := hcc390 0 _ rfl; rw [Nat.add_zero, show ((Kd.slice 2 (Kd.int .i64))).sz = 1 from rfl, Nat.mul_one] at hv390_0; replace hv390_0 := Option.some.inj (hv390_0.symm.trans hx390_0); injection hv390_0 with hva_ hvn_ hvc_; rw [hva_] at ge390_0; rw [hvc_] at ul390_0; have HL390_0 := Aside0.mk (show Kd.V (Kd.int .i64) 2 _ w.heap.size _ _ (rd_L1 t380 x9_2) from Kd.V_mk ul390_0 ge390_0); clear hva_ hvn_ hvc_ ge390_0 ul390_0; clear hcc390 hce390; have HR390_0 := Aside0.mk hi390_0; have HC390_0 := Aside0.mk hl390_0; clear hi390_0 hl390_0; replace p390 := eq_true p390; replace q390 := eq_true q390; have ea_ := Option.some.inj (hx386_0.symm.trans hx390_0); injection ea_ with ea_ en_ ec_; subst ea_; subst ec_; clear en_; have p391 : 0 ≤ (x7_1 : Int) := of_decide_eq_true (by first | (with_reducible assumption) | assumption); have q391 : x7_1 < ((rd_L1 t380 x9_2).length : Int) := of_decide_eq_true (by first | (with_reducible assumption) | assumption); obtain ⟨ad391, e391, hx391_0⟩ := Kd.at_int (by repeat (first | (with_reducible exact HR390_0.out) | (with_reducible refine Kd.C_alloc ?_ _) | (with_reducible refine Kd.C_drewN ?_ _) | (with_reducible refine Kd.C_drew ?_) | exact HR390_0.out)) x7_1 p391 q391; cases e391; replace p391 := eq_true p391; replace q391 := eq_true q391) | (go_at_call 31; (with_reducible refine (petrinetref08_common.calls k2 (rd (rd_L1 t380 x9_2) t388) (rd (rd_L1 t380 x9_2) x7_1) t392 _ A17.out).mono ?_); rintro e w' ⟨rfl, ⟨nd, rfl⟩⟩; (try first | exact ⟨rfl, _, World.drewN_drewN _ _ _⟩ | exact ⟨rfl, _, Eq.trans (World.drewN_drewN _ _ _) (congrArg (World.drewN _) (Nat.add_assoc _ _ _))⟩)) | (go_at_call 31; (with_reducible refine (petrinetref08_common.calls k2 x8_2 (wrap64 (Int.tdiv (rd (rd_L1 t380 x9_2) t388) t392)) t393 _ A19.out).mono ?_); rintro e w' ⟨rfl, ⟨nd, rfl⟩⟩; (try first | exact ⟨rfl, _, World.drewN_drewN _ _ _⟩ | exact ⟨rfl, _, Eq.trans (World.drewN_drewN _ _ _) (congrArg (World.drewN _) (Nat.add_assoc _ _ _))⟩)) | (go_at_call 32; (with_reducible refine (petrinetref08_times.calls k2 x8_2 (wrap64 (Int.tdiv (wrap64 (Int.tdiv (rd (rd_L1 t380 x9_2) t388) t392)) t393)) t394 true _ A21.out).mono ?_); rintro e w' ⟨rfl, ⟨nd, rfl⟩⟩; (try first | exact ⟨rfl, _, World.drewN_drewN _ _ _⟩ | exact ⟨rfl, _, Eq.trans (World.drewN_drewN _ _ _) (congrArg (World.drewN _) (Nat.add_assoc _ _ _))⟩))))
                  go_roundg k2
                  case measure => have := HK1.out; have := HK2.out; omega
                  case rel => exact ⟨(t394), (wrap64 (x9_2 + 1)), (by first | rfl | (simp; done) | (simp [*]; done)), (by first | rfl | (simp; done) | (simp [*]; done)), H', ⟨by have := HK1.out; have := HK2.out; omega⟩, ⟨by (with_reducible repeat (first | apply Kd.N_alloc | apply Kd.N_drewN | apply Kd.N_drew)); exact HO_4.out⟩, ⟨by (with_reducible repeat (first | apply Kd.N_alloc | apply Kd.N_drewN | apply Kd.N_drew)); exact HO_6.out⟩, ⟨by repeat (first | (with_reducible first | exact HB.out | apply below_alloc | apply pw_below_drewN | apply below_drew1) | exact HB.out)⟩⟩
                 ·
                  replace c22 := Bool.eq_false_iff.mpr c22; subst c22; (have H1 : (some (([] : List (List Int)), false)) = some (r1, r2) := by rw [if_neg (show ¬ (false = true) by decide)] at H; exact H); clear H; have H := H1; clear H1; simp only [Option.some.injEq, Prod.mk.injEq] at H; obtain ⟨rfl, rfl⟩ := H; (have p386 : 0 ≤ (x9_2 : Int) := of_decide_eq_true (by first | (with_reducible assumption) | assumption)); (have q386 : x9_2 < (t380.length : Int) := of_decide_eq_true (by first | (with_reducible assumption) | assumption)); obtain ⟨ad386, A386_0, c386_0, e386, hx386_0, hl386_0, hi386_0⟩ := at_L1 (Kd.N_reads' HO_4.out).2.2 x9_2 p386 q386
                  cases e386
                  (obtain ⟨ce386, hce386, hMe386, hcc386⟩ := Kd.N_get HO_4.out [] x9_2 p386 (by first | exact q386 | exact of_decide_eq_true (by first | (with_reducible assumption) | assumption) | (have e_ := (Kd.N_reads' HO_4.out).1; omega))); obtain ⟨ua386_0, uc386_0, rfl, ul386_0, ge386_0⟩ := Kd.FK_slice_open hMe386; have hv386_0 := hcc386 0 _ rfl; (rw [Nat.add_zero, show ((Kd.slice 2 (Kd.int .i64))).sz = 1 from rfl, Nat.mul_one] at hv386_0); replace hv386_0 := Option.some.inj (hv386_0.symm.trans hx386_0); injection hv386_0 with hva_ hvn_ hvc_; rw [hva_] at ge386_0; rw [hvc_] at ul386_0; (have HL386_0 := Aside0.mk (show Kd.V (Kd.int .i64) 2 _ w.heap.size _ _ (rd_L1 t380 x9_2) from Kd.V_mk ul386_0 ge386_0)); clear hva_ hvn_ hvc_ ge386_0 ul386_0; clear hcc386 hce386; have HR386_0 := Aside0.mk hi386_0; have HC386_0 := Aside0.mk hl386_0; clear hi386_0 hl386_0; replace p386 := eq_true p386; replace q386 := eq_true q386; (have p387 : 0 ≤ (x9_2 : Int) := of_decide_eq_true (by first | (with_reducible assumption) | assumption)); (have q387 : x9_2 < (t380.length : Int) := of_decide_eq_true (by first | (with_reducible assumption) | assumption)); obtain ⟨ad387, A387_0, c387_0, e387, hx387_0, hl387_0, hi387_0⟩ := at_L1 (Kd.N_reads' HO_4.out).2.2 x9_2 p387 q387; (obtain rfl : ad386 = ad387 := (by injection e387)); (obtain ⟨ce387, hce387, hMe387, hcc387⟩ := Kd.N_get HO_4.out [] x9_2 p387 (by first | exact q387 | exact of_decide_eq_true (by first | (with_reducible assumption) | assumption) | (have e_ := (Kd.N_reads' HO_4.out).1; omega))); obtain ⟨ua387_0, uc387_0, rfl, ul387_0, ge387_0⟩ := Kd.FK_slice_open hMe387; have hv387_0 := hcc387 0 _ rfl; (rw [Nat.add_zero, show ((Kd.slice 2 (Kd.int .i64))).sz = 1 from rfl, Nat.mul_one] at hv387_0); replace hv387_0 := Option.some.inj (hv387_0.symm.trans hx387_0); injection hv387_0 with hva_ hvn_ hvc_; rw [hva_] at ge387_0; rw [hvc_] at ul387_0; (have HL387_0 := Aside0.mk (show Kd.V (Kd.int .i64) 2 _ w.heap.size _ _ (rd_L1 t380 x9_2) from Kd.V_mk ul387_0 ge387_0)); clear hva_ hvn_ hvc_ ge387_0 ul387_0; clear hcc387 hce387; have HR387_0 := Aside0.mk hi387_0; have HC387_0 := Aside0.mk hl387_0; clear hi387_0 hl387_0; replace p387 := eq_true p387; replace q387 := eq_true q387; have ea_ := Option.some.inj (hx386_0.symm.trans hx387_0); injection ea_ with ea_ en_ ec_; subst ea_; subst ec_; clear en_
                  go_wp2_with (first | (go_at_call 30; (with_reducible refine (petrinetref08_pivot.calls k2 _ _ (rd_L1 t380 x9_2) t388 _ ?side1 ?side2 A12.out).mono ?_); (case side1 => repeat (first | exact (by repeat (first | (with_reducible exact HR387_0.out) | (with_reducible refine Kd.C_alloc ?_ _) | (with_reducible refine Kd.C_drewN ?_ _) | (with_reducible refine Kd.C_drew ?_) | exact HR387_0.out)) | (with_reducible refine Kd.C_alloc ?_ _) | (with_reducible refine Kd.C_drewN ?_ _) | (with_reducible refine Kd.C_drew ?_))); (case side2 => exact HC387_0.out); rintro e w' ⟨rfl, ⟨nd, rfl⟩⟩; (try first | exact ⟨rfl, _, World.drewN_drewN _ _ _⟩ | exact ⟨rfl, _, Eq.trans (World.drewN_drewN _ _ _) (congrArg (World.drewN _) (Nat.add_assoc _ _ _))⟩); have p389 : 0 ≤ (t388 : Int) := of_decide_eq_true (by first | (with_reducible assumption) | assumption); have q389 : t388 < ((rd_L1 t380 x9_2).length : Int) := of_decide_eq_true (by first | (with_reducible assumption) | assumption); obtain ⟨ad389, e389, hx389_0⟩ := Kd.at_int (by repeat (first | (with_reducible exact HR386_0.out) | (with_reducible refine Kd.C_alloc ?_ _) | (with_reducible refine Kd.C_drewN ?_ _) | (with_reducible refine Kd.C_drew ?_) | exact HR386_0.out)) t388 p389 q389; cases e389; replace p389 := eq_true p389; replace q389 := eq_true q389; have p390 : 0 ≤ (x9_2 : Int) := of_decide_eq_true (by first | (with_reducible assumption) | assumption); have q390 : x9_2 < (t380.length : Int) := of_decide_eq_true (by first | (with_reducible assumption) | assumption); obtain ⟨ad390, A390_0, c390_0, e390, hx390_0, hl390_0, hi390_0⟩ := at_L1 (Kd.N_reads' HO_4.out).2.2 x9_2 p390 q390; obtain rfl : ad386 = ad390 := (by injection e390); obtain ⟨ce390, hce390, hMe390, hcc390⟩ := Kd.N_get HO_4.out [] x9_2 p390 (by first | exact q390 | exact of_decide_eq_true (by first | (with_reducible assumption) | assumption) | (have e_ := (Kd.N_reads' HO_4.out).1; omega)); obtain ⟨ua390_0, uc390_0, rfl, ul390_0, ge390_0⟩ := Kd.FK_slice_open hMe390; have hv390_0 := hcc390 0 _ rfl; rw [Nat.add_zero, show ((Kd.slice 2 (Kd.int .i64))).sz = 1 from rfl, Nat.mul_one] at hv390_0; replace hv390_0 := Option.some.inj (hv390_0.symm.trans hx390_0); injection hv390_0 with hva_ hvn_ hvc_; rw [hva_] at ge390_0; rw [hvc_] at ul390_0; have HL390_0 := Aside0.mk (show Kd.V (Kd.int .i64) 2 _ w.heap.size _ _ (rd_L1 t380 x9_2) from Kd.V_mk ul390_0 ge390_0); clear hva_ hvn_ hvc_ ge390_0 ul390_0; clear hcc390 hce390; have HR390_0 := Aside0.mk hi390_0; have HC390_0 := Aside0.mk hl390_0; clear hi390_0 hl390_0; replace p390 := eq_true p390; replace q390 := eq_true q390; have ea_ := Option.some.inj (hx386_0.symm.trans hx390_0); injection ea_ with ea_ en_ ec_; subst ea_; subst ec_; clear en_; have p391 : 0 ≤ (x7_1 : Int) := of_decide_eq_true (by first | (with_reducible assumption) | assumption); have q391 : x7_1 < ((rd_L1 t380 x9_2).length : Int) := of_decide_eq_true (by first | (with_reducible assumption) | assumption); obtain ⟨ad391, e391, hx391_0⟩ := Kd.at_int (by repeat (first | (with_reducible exact HR390_0.out) | (with_reducible refine Kd.C_alloc ?_ _) | (with_reducible refine Kd.C_drewN ?_ _) | (with_reducible refine Kd.C_drew ?_) | exact HR390_0.out)) x7_1 p391 q391; cases e391; replace p391 := eq_true p391; replace q391 := eq_true q391) | (go_at_call 31; (with_reducible refine (petrinetref08_common.calls k2 (rd (rd_L1 t380 x9_2) t388) (rd (rd_L1 t380 x9_2) x7_1) t392 _ A17.out).mono ?_); rintro e w' ⟨rfl, ⟨nd, rfl⟩⟩; (try first | exact ⟨rfl, _, World.drewN_drewN _ _ _⟩ | exact ⟨rfl, _, Eq.trans (World.drewN_drewN _ _ _) (congrArg (World.drewN _) (Nat.add_assoc _ _ _))⟩)) | (go_at_call 31; (with_reducible refine (petrinetref08_common.calls k2 x8_2 (wrap64 (Int.tdiv (rd (rd_L1 t380 x9_2) t388) t392)) t393 _ A19.out).mono ?_); rintro e w' ⟨rfl, ⟨nd, rfl⟩⟩; (try first | exact ⟨rfl, _, World.drewN_drewN _ _ _⟩ | exact ⟨rfl, _, Eq.trans (World.drewN_drewN _ _ _) (congrArg (World.drewN _) (Nat.add_assoc _ _ _))⟩)) | (go_at_call 32; (with_reducible refine (petrinetref08_times.calls k2 x8_2 (wrap64 (Int.tdiv (wrap64 (Int.tdiv (rd (rd_L1 t380 x9_2) t388) t392)) t393)) t394 false _ A21.out).mono ?_); rintro e w' ⟨rfl, ⟨nd, rfl⟩⟩; (try first | exact ⟨rfl, _, World.drewN_drewN _ _ _⟩ | exact ⟨rfl, _, Eq.trans (World.drewN_drewN _ _ _) (congrArg (World.drewN _) (Nat.add_assoc _ _ _))⟩)))
                  repeat (go_quiet (first | (go_at_call 30; (with_reducible refine (petrinetref08_pivot.calls k2 _ _ (rd_L1 t380 x9_2) t388 _ ?side1 ?side2 A12.out).mono ?_); (case side1 => repeat (first | exact (by repeat (first | (with_reducible exact HR387_0.out) | (with_reducible refine Kd.C_alloc ?_ _) | (with_reducible refine Kd.C_drewN ?_ _) | (with_reducible refine Kd.C_drew ?_) | exact HR387_0.out)) | (with_reducible refine Kd.C_alloc ?_ _) | (with_reducible refine Kd.C_drewN ?_ _) | (with_reducible refine Kd.C_drew ?_))); (case side2 => exact HC387_0.out); rintro e w' ⟨rfl, ⟨nd, rfl⟩⟩; (try first | exact ⟨rfl, _, World.drewN_drewN _ _ _⟩ | exact ⟨rfl, _, Eq.trans (World.drewN_drewN _ _ _) (congrArg (World.drewN _) (Nat.add_assoc _ _ _))⟩); have p389 : 0 ≤ (t388 : Int) := of_decide_eq_true (by first | (with_reducible assumption) | assumption); have q389 : t388 < ((rd_L1 t380 x9_2).length : Int) := of_decide_eq_true (by first | (with_reducible assumption) | assumption); obtain ⟨ad389, e389, hx389_0⟩ := Kd.at_int (by repeat (first | (with_reducible exact HR386_0.out) | (with_reducible refine Kd.C_alloc ?_ _) | (with_reducible refine Kd.C_drewN ?_ _) | (with_reducible refine Kd.C_drew ?_) | exact HR386_0.out)) t388 p389 q389; cases e389; replace p389 := eq_true p389; replace q389 := eq_true q389; have p390 : 0 ≤ (x9_2 : Int) := of_decide_eq_true (by first | (with_reducible assumption) | assumption); have q390 : x9_2 < (t380.length : Int) := of_decide_eq_true (by first | (with_reducible assumption) | assumption); obtain ⟨ad390, A390_0, c390_0, e390, hx390_0, hl390_0, hi390_0⟩ := at_L1 (Kd.N_reads' HO_4.out).2.2 x9_2 p390 q390; obtain rfl : ad386 = ad390 := (by injection e390); obtain ⟨ce390, hce390, hMe390, hcc390⟩ := Kd.N_get HO_4.out [] x9_2 p390 (by first | exact q390 | exact of_decide_eq_true (by first | (with_reducible assumption) | assumption) | (have e_ := (Kd.N_reads' HO_4.out).1; omega)); obtain ⟨ua390_0, uc390_0, rfl, ul390_0, ge390_0⟩ := Kd.FK_slice_open hMe390; have hv390_0 := hcc390 0 _ rfl; rw [Nat.add_zero, show ((Kd.slice 2 (Kd.int .i64))).sz = 1 from rfl, Nat.mul_one] at hv390_0; replace hv390_0 := Option.some.inj (hv390_0.symm.trans hx390_0); injection hv390_0 with hva_ hvn_ hvc_; rw [hva_] at ge390_0; rw [hvc_] at ul390_0; have HL390_0 := Aside0.mk (show Kd.V (Kd.int .i64) 2 _ w.heap.size _ _ (rd_L1 t380 x9_2) from Kd.V_mk ul390_0 ge390_0); clear hva_ hvn_ hvc_ ge390_0 ul390_0; clear hcc390 hce390; have HR390_0 := Aside0.mk hi390_0; have HC390_0 := Aside0.mk hl390_0; clear hi390_0 hl390_0; replace p390 := eq_true p390; replace q390 := eq_true q390; have ea_ := Option.some.inj (hx386_0.symm.trans hx390_0); injection ea_ with ea_ en_ ec_; subst ea_; subst ec_; clear en_; have p391 : 0 ≤ (x7_1 : Int) := of_decide_eq_true (by first | (with_reducible assumption) | assumption); have q391 : x7_1 < ((rd_L1 t380 x9_2).length : Int) := of_decide_eq_true (by first | (with_reducible assumption) | assumption); obtain ⟨ad391, e391, hx391_0⟩ := Kd.at_int (by repeat (first | (with_reducible exact HR390_0.out) | (with_reducible refine Kd.C_alloc ?_ _) | (with_reducible refine Kd.C_drewN ?_ _) | (with_reducible refine Kd.C_drew ?_) | exact HR390_0.out)) x7_1 p391 q391; cases e391; replace p391 := eq_true p391; replace q391 := eq_true q391) | (go_at_call 31; (with_reducible refine (petrinetref08_common.calls k2 (rd (rd_L1 t380 x9_2) t388) (rd (rd_L1 t380 x9_2) x7_1) t392 _ A17.out).mono ?_); rintro e w' ⟨rfl, ⟨nd, rfl⟩⟩; (try first | exact ⟨rfl, _, World.drewN_drewN _ _ _⟩ | exact ⟨rfl, _, Eq.trans (World.drewN_drewN _ _ _) (congrArg (World.drewN _) (Nat.add_assoc _ _ _))⟩)) | (go_at_call 31; (with_reducible refine (petrinetref08_common.calls k2 x8_2 (wrap64 (Int.tdiv (rd (rd_L1 t380 x9_2) t388) t392)) t393 _ A19.out).mono ?_); rintro e w' ⟨rfl, ⟨nd, rfl⟩⟩; (try first | exact ⟨rfl, _, World.drewN_drewN _ _ _⟩ | exact ⟨rfl, _, Eq.trans (World.drewN_drewN _ _ _) (congrArg (World.drewN _) (Nat.add_assoc _ _ _))⟩)) | (go_at_call 32; (with_reducible refine (petrinetref08_times.calls k2 x8_2 (wrap64 (Int.tdiv (wrap64 (Int.tdiv (rd (rd_L1 t380 x9_2) t388) t392)) t393)) t394 false _ A21.out).mono ?_); rintro e w' ⟨rfl, ⟨nd, rfl⟩⟩; (try first | exact ⟨rfl, _, World.drewN_drewN _ _ _⟩ | exact ⟨rfl, _, Eq.trans (World.drewN_drewN _ _ _) (congrArg (World.drewN _) (Nat.add_assoc _ _ _))⟩))); try go_wp2_with (first | (go_at_call 30; (with_reducible refine (petrinetref08_pivot.calls k2 _ _ (rd_L1 t380 x9_2) t388 _ ?side1 ?side2 A12.out).mono ?_); (case side1 => repeat (first | exact (by repeat (first | (with_reducible exact HR387_0.out) | (with_reducible refine Kd.C_alloc ?_ _) | (with_reducible refine Kd.C_drewN ?_ _) | (with_reducible refine Kd.C_drew ?_) | exact HR387_0.out)) | (with_reducible refine Kd.C_alloc ?_ _) | (with_reducible refine Kd.C_drewN ?_ _) | (with_reducible refine Kd.C_drew ?_))); (case side2 => exact HC387_0.out); rintro e w' ⟨rfl, ⟨nd, rfl⟩⟩; (try first | exact ⟨rfl, _, World.drewN_drewN _ _ _⟩ | exact ⟨rfl, _, Eq.trans (World.drewN_drewN _ _ _) (congrArg (World.drewN _) (Nat.add_assoc _ _ _))⟩); have p389 : 0 ≤ (t388 : Int) := of_decide_eq_true (by first | (with_reducible assumption) | assumption); have q389 : t388 < ((rd_L1 t380 x9_2).length : Int) := of_decide_eq_true (by first | (with_reducible assumption) | assumption); obtain ⟨ad389, e389, hx389_0⟩ := Kd.at_int (by repeat (first | (with_reducible exact HR386_0.out) | (with_reducible refine Kd.C_alloc ?_ _) | (with_reducible refine Kd.C_drewN ?_ _) | (with_reducible refine Kd.C_drew ?_) | exact HR386_0.out)) t388 p389 q389; cases e389; replace p389 := eq_true p389; replace q389 := eq_true q389; have p390 : 0 ≤ (x9_2 : Int) := of_decide_eq_true (by first | (with_reducible assumption) | assumption); have q390 : x9_2 < (t380.length : Int) := of_decide_eq_true (by first | (with_reducible assumption) | assumption); obtain ⟨ad390, A390_0, c390_0, e390, hx390_0, hl390_0, hi390_0⟩ := at_L1 (Kd.N_reads' HO_4.out).2.2 x9_2 p390 q390; obtain rfl : ad386 = ad390 := (by injection e390); obtain ⟨ce390, hce390, hMe390, hcc390⟩ := Kd.N_get HO_4.out [] x9_2 p390 (by first | exact q390 | exact of_decide_eq_true (by first | (with_reducible assumption) | assumption) | (have e_ := (Kd.N_reads' HO_4.out).1; omega)); obtain ⟨ua390_0, uc390_0, rfl, ul390_0, ge390_0⟩ := Kd.FK_slice_open hMe390; have hv390_0 := hcc390 0 _ rfl; rw [Nat.add_zero, show ((Kd.slice 2 (Kd.int .i64))).sz = 1 from rfl, Nat.mul_one] at hv390_0; replace hv390_0 := Option.some.inj (hv390_0.symm.trans hx390_0); injection hv390_0 with hva_ hvn_ hvc_; rw [hva_] at ge390_0; rw [hvc_] at ul390_0; have HL390_0 := Aside0.mk (show Kd.V (Kd.int .i64) 2 _ w.heap.size _ _ (rd_L1 t380 x9_2) from Kd.V_mk ul390_0 ge390_0); clear hva_ hvn_ hvc_ ge390_0 ul390_0; clear hcc390 hce390; have HR390_0 := Aside0.mk hi390_0; have HC390_0 := Aside0.mk hl390_0; clear hi390_0 hl390_0; replace p390 := eq_true p390; replace q390 := eq_true q390; have ea_ := Option.some.inj (hx386_0.symm.trans hx390_0); injection ea_ with ea_ en_ ec_; subst ea_; subst ec_; clear en_; have p391 : 0 ≤ (x7_1 : Int) := of_decide_eq_true (by first | (with_reducible assumption) | assumption); have q391 : x7_1 < ((rd_L1 t380 x9_2).length : Int) := of_decide_eq_true (by first | (with_reducible assumption) | assumption); obtain ⟨ad391, e391, hx391_0⟩ := Kd.at_int (by repeat (first | (with_reducible exact HR390_0.out) | (with_reducible refine Kd.C_alloc ?_ _) | (with_reducible refine Kd.C_drewN ?_ _) | (with_reducible refine Kd.C_drew ?_) | exact HR390_0.out)) x7_1 p391 q391; cases e391; replace p391 := eq_true p391; replace q391 := eq_true q391) | (go_at_call 31; (with_reducible refine (petrinetref08_common.calls k2 (rd (rd_L1 t380 x9_2) t388) (rd (rd_L1 t380 x9_2) x7_1) t392 _ A17.out).mono ?_); rintro e w' ⟨rfl, ⟨nd, rfl⟩⟩; (try first | exact ⟨rfl, _, World.drewN_drewN _ _ _⟩ | exact ⟨rfl, _, Eq.trans (World.drewN_drewN _ _ _) (congrArg (World.drewN _) (Nat.add_assoc _ _ _))⟩)) | (go_at_call 31; (with_reducible refine (petrinetref08_common.calls k2 x8_2 (wrap64 (Int.tdiv (rd (rd_L1 t380 x9_2) t388) t392)) t393 _ A19.out).mono ?_); rintro e w' ⟨rfl, ⟨nd, rfl⟩⟩; (try first | exact ⟨rfl, _, World.drewN_drewN _ _ _⟩ | exact ⟨rfl, _, Eq.trans (World.drewN_drewN _ _ _) (congrArg (World.drewN _) (Nat.add_assoc _ _ _))⟩)) | (go_at_call 32; (with_reducible refine (petrinetref08_times.calls k2 x8_2 (wrap64 (Int.tdiv (wrap64 (Int.tdiv (rd (rd_L1 t380 x9_2) t388) t392)) t393)) t394 false _ A21.out).mono ?_); rintro e w' ⟨rfl, ⟨nd, rfl⟩⟩; (try first | exact ⟨rfl, _, World.drewN_drewN _ _ _⟩ | exact ⟨rfl, _, Eq.trans (World.drewN_drewN _ _ _) (congrArg (World.drewN _) (Nat.add_assoc _ _ _))⟩))))
                  go_ret2
                  exact ⟨_, by first | rfl | (simp [errW_none, errW_some] <;> rfl) | (simp [*, errW_none, errW_some] <;> rfl), by first | exact Kd.S_nil _ _ _ _ _ | exact Kd.N_nil _ _ _ _ _ | exact Kd.V_nil _ _ _ _ _ | exact Kd.Q_nil _ _ _ _ _ | exact Kd.R_nil _ _ _ _ _, by repeat (first | (with_reducible first | exact HB.out | apply below_alloc | apply pw_below_drewN | apply below_drew1) | exact HB.out)⟩
              ·
               rw [if_neg c16] at H; (exact absurd H (by simp))
             ·
              rw [if_neg c15] at H; (exact absurd H (by simp))
            ·
             rw [if_neg c14] at H; (exact absurd H (by simp))
           ·
            rw [if_neg c13] at H; (exact absurd H (by simp))
          ·
           rw [if_neg c11] at H; (exact absurd H (by simp))
         ·
          rw [if_neg c10] at H; have c10b0 : decide (x9_2 < (t380.length : Int)) = false := decide_eq_false c10; clear c10; by_cases c23 : 0 < (l0.length : Int)
          ·
           rw [if_pos c23] at H; have c23b0 : decide (0 < (l0.length : Int)) = true := decide_eq_true c23; (have c23b1 : decide (0 < l0.length) = true := decide_eq_true (by omega)); clear c23; by_cases c24 : 0 ≤ ((rd_L1 l0 0).length : Int)
           ·
            rw [if_pos c24] at H; have c24b0 := eq_true c24; have c24b1 : decide (0 ≤ ((rd_L1 l0 0).length : Int)) = true := decide_eq_true c24; clear c24; by_cases c25 : (((rd_L1 l0 0).length : Int) : Int).toNat ≤ 35184372088832
            ·
             rw [if_pos c25] at H; have c25b0 := eq_true c25; have c25b1 : decide ((((rd_L1 l0 0).length : Int) : Int).toNat ≤ 35184372088832) = true := decide_eq_true c25; clear c25; obtain ⟨y397, hy397⟩ : ∃ y_ : List Int, y_ = (List.replicate (((rd_L1 l0 0).length : Int) : Int).toNat 0) := ⟨_, rfl⟩; (replace H : (if 0 ≤ x7_1 then (if x7_1 < (y397.length : Int) then (petrinetref08_Kernel.l2 k2 l0 t380 x6_1 x7_1 x8_2 (y397.set (x7_1 : Int).toNat x8_2) 0) else (none)) else (none)) = some (r1, r2) := by first | (rw [hy397]; with_reducible exact H) | (have H2_ := (Option.bind_some _ _).symm.trans H; rw [hy397]; with_reducible exact H2_) | (have H2_ := (Option.bind_some _ _).symm.trans H; with_reducible exact H2_) | with_reducible exact H | (rw [hy397]; exact H) | exact H); have Ny397 := Aside0.mk hy397; clear hy397; by_cases c26 : 0 ≤ x7_1
             ·
              rw [if_pos c26] at H; have c26b0 : decide (0 ≤ x7_1) = true := decide_eq_true c26; clear c26; by_cases c27 : x7_1 < (y397.length : Int)
              ·
               rw [if_pos c27] at H; have c27b0 : decide (x7_1 < (y397.length : Int)) = true := decide_eq_true c27; clear c27; obtain ⟨y400, hy400⟩ : ∃ y_ : List Int, y_ = (y397.set (x7_1 : Int).toNat x8_2) := ⟨_, rfl⟩; (replace H : (petrinetref08_Kernel.l2 k2 l0 t380 x6_1 x7_1 x8_2 y400 0) = some (r1, r2) := by first | (rw [hy400]; with_reducible exact H) | (have H2_ := (Option.bind_some _ _).symm.trans H; rw [hy400]; with_reducible exact H2_) | (have H2_ := (Option.bind_some _ _).symm.trans H; with_reducible exact H2_) | with_reducible exact H | (rw [hy400]; exact H) | exact H); have Ny400 := Aside0.mk hy400; clear hy400; have H' := Aside0.mk H; clear H; (have p396 : 0 ≤ (0 : Int) := (by omega)); (have q396 : 0 < (l0.length : Int) := of_decide_eq_true (by first | (with_reducible assumption) | assumption)); obtain ⟨ad396, A396_0, c396_0, e396, hx396_0, hl396_0, hi396_0⟩ := at_L1 HR0.out 0 p396 q396; (obtain rfl : ad384 = ad396 := (by injection e396)); (have qi396 : (0 < l0.length) = True := eq_true (by omega)); (try rw [show ((0 : Int)).toNat = 0 from rfl] at hx396_0); (try rw [Addr.add_zero'] at hx396_0); replace hx396_0 := (HB.out.cell (World.block_lt_of_cell? w _ hx396_0)).trans hx396_0; have HR396_0 := Aside0.mk hi396_0; have HC396_0 := Aside0.mk hl396_0; clear hi396_0 hl396_0; replace p396 := eq_true p396; replace q396 := eq_true q396
               go_wp2_with (first | ((with_reducible refine gate_dst (N := 84) rfl ?_); refine Kd.R_make (Kd.int .i64) _ 2 rfl (N := 84) rfl 33 _ _ rfl ((rd_L1 l0 0).length : Int) rfl rfl Try.underlying33 (.int .i64 0) 8 info2 rfl (by decide) (by omega) 0 (ok := fun _ => True) (okp := fun _ => True) rfl (fun _ hk => hk) trivial (of_decide_eq_true (by first | (with_reducible assumption) | assumption)) (Nat.le_trans (Nat.mul_le_mul_right _ (of_decide_eq_true (by first | (with_reducible assumption) | assumption) : ((rd_L1 l0 0).length : Int).toNat ≤ 35184372088832)) (by omega)) (Below.refl _ _) (Nat.le_refl _) ?_; intro v398 w29 ho30 hb hg_ hnew_; clear hg_ hnew_; (first | rw [← Ny397.out] at ho30 | (simp only [Int.reduceToNat] at ho30; rw [← Ny397.out] at ho30)); have n0_ := Aside0.mk (Kd.N_elder' (by (with_reducible repeat (first | apply Kd.N_alloc | apply Kd.N_drewN | apply Kd.N_drew)); exact HO_4.out) (Kd.R_base ho30) hb); have n1_ := Aside0.mk (Kd.N_elder' (by (with_reducible repeat (first | apply Kd.N_alloc | apply Kd.N_drewN | apply Kd.N_drew)); exact HO_6.out) (Kd.R_base ho30) hb); have n2_ := Aside0.mk (Kd.R_lower (Kd.R_newM (M := fun k_ => (w.heap.size ≤ k_)) ho30 (below_size (by repeat (first | (with_reducible first | exact HB.out | apply below_alloc | apply pw_below_drewN | apply below_drew1) | exact HB.out))) (fun k_ h_ => h_)) (below_size (by repeat (first | (with_reducible first | exact HB.out | apply below_alloc | apply pw_below_drewN | apply below_drew1) | exact HB.out)))); have n3_ := Aside0.mk (below_step (by repeat (first | (with_reducible first | exact HB.out | apply below_alloc | apply pw_below_drewN | apply below_drew1) | exact HB.out)) hb); clear HO_4; clear HO_6; clear HB; have HO_4 := n0_; have HO_6 := n1_; have HO399 := n2_; have HB := n3_; clear n0_ n1_ n2_ n3_; clear hb ho30; have p28 : 0 ≤ (x7_1 : Int) := of_decide_eq_true (by first | (with_reducible assumption) | assumption); have q28 : (x7_1 : Int) < ((y397.length : Int) : Int) := of_decide_eq_true (by first | (with_reducible assumption) | assumption); obtain ⟨go28, co28, eo28, gb28, gl28, cl28, HG28⟩ := Kd.R_form HO399.out (by omega); (first | cases eo28 | (injection eo28 with ea_ en_ ec_; (first | subst ea_ | (injection ea_ with ea_; subst ea_)); subst ec_; clear en_)); have GB28 := Aside0.mk gb28; have GG28 := Aside0.mk HG28; clear gb28 gl28 HG28; obtain ⟨hx28_0, hf28_0⟩ := Kd.R_celln 0 HO399.out (x7_1 : Int) p28 q28; replace p28 := eq_true p28; replace q28 := eq_true q28; have n_ := Aside0.mk (Kd.R_mono (ok' := (fun k_ => (w.heap.size ≤ k_))) HO399.out (fun k_ hk => hk.1)); clear HO399; have HO399 := n_; clear n_; obtain ⟨hy31_, hz31_⟩ := Kd.R_celln 0 HO399.out (x7_1 : Int) (of_decide_eq_true (by first | (with_reducible assumption) | assumption)) (of_decide_eq_true (by first | (with_reducible assumption) | assumption)); have HP31 := Kd.R_putg HO399.out (x7_1 : Int) x8_2) | ((with_reducible refine gate_store (t := 2) (p := 88) rfl ?_); (try (rw [drewN_self w29]; generalize hq_ : World.drewN w29 _ = w29; have n0_ := Aside0.mk (Kd.N_at hq_ HO_4.out); have n1_ := Aside0.mk (Kd.N_at hq_ HO_6.out); have n2_ := Aside0.mk (Kd.R_at hq_ HO399.out); have n3_ := Aside0.mk (below_at hq_ HB.out); clear hq_ HO_4 HO_6 HO399 HB; have HO_4 := n0_; have HO_6 := n1_; have HO399 := n2_; have HB := n3_; clear n0_ n1_ n2_ n3_; (try (have n_ := Aside0.mk (Kd.R_mono (ok' := (fun k_ => (w.heap.size ≤ k_))) HO399.out (fun k_ hk => hk.1)); clear HO399; have HO399 := n_; clear n_)); (try (obtain ⟨hy31_, hz31_⟩ := Kd.R_celln 0 HO399.out (x7_1 : Int) (of_decide_eq_true (by first | (with_reducible assumption) | assumption)) (of_decide_eq_true (by first | (with_reducible assumption) | assumption)))); (try (have HP31 := Kd.R_putg HO399.out (x7_1 : Int) x8_2)))); refine store_event (t := 2) (p := 88) (v := ?vo_w32) (w1 := (w29.setCell ⟨go28, (x7_1 : Int).toNat, none⟩ (.int .i64 x8_2))) ?hg ?ho ?hn ?hr ?_; (case ho => rfl); (case hg => rfl); (case hn => rfl); (case hr => first | (go_simp; done) | (go_simp; rfl)); intro w32 hw; have hg : w29.grownBy w32 (some go28) := (by rw [hw]; exact HP31.2); have hp_ : Kd.R (Kd.int .i64) 2 w32 w.heap.size (fun k_ => (w.heap.size ≤ k_)) (.slice (some ⟨go28, 0, none⟩) y397.length co28) y400 := (by rw [hw, Ny400.out]; exact HP31.1); clear HP31; have n0_ := Aside0.mk (Kd.N_afterv (v := (.slice (some ⟨go28, 0, none⟩) y397.length co28)) (v1 := (.slice (some ⟨go28, 0, none⟩) y397.length co28)) (ok := (fun k_ => (w.heap.size ≤ k_) ∧ some k_ ≠ (u6 : Value).ownBlock)) (by (with_reducible repeat (first | apply Kd.N_alloc | apply Kd.N_drewN | apply Kd.N_drew)); exact HO_4.out) hg (.inl rfl)); have n1_ := Aside0.mk (Kd.N_afterv (v := (.slice (some ⟨go28, 0, none⟩) y397.length co28)) (v1 := (.slice (some ⟨go28, 0, none⟩) y397.length co28)) (ok := (fun k_ => (w.heap.size ≤ k_) ∧ some k_ ≠ (.slice Ao9 t380.length co9 : Value).ownBlock)) (by (with_reducible repeat (first | apply Kd.N_alloc | apply Kd.N_drewN | apply Kd.N_drew)); exact HO_6.out) hg (.inl rfl)); have n2_ := Aside0.mk (hp_); have n3_ := Aside0.mk ((by rw [hw]; exact below_set (HB.out) GB28.out : Below w.heap.size w w32)); clear HO_4; clear HO_6; clear HO399; clear HB; have HO_4 := n0_; have HO_6 := n1_; have HO399 := n2_; have HB := n3_; clear n0_ n1_ n2_ n3_; clear hg hw hp_))
               go_loopg [15] k2 (fun kq v15 w' => ∃ (x14_3 : List Int) (x15_3 : Int), v15 = .int .i64 x15_3 ∧ Aside0 (petrinetref08_Kernel.l2 kq l0 t380 x6_1 x7_1 x8_2 x14_3 x15_3 = some (r1, r2)) ∧ Aside0 (kq ≤ k2) ∧ Aside0 (Kd.N (Kd.slice 2 (Kd.int .i64)) 33 w' w.heap.size (fun k_ => (w.heap.size ≤ k_) ∧ some k_ ≠ (u6 : Value).ownBlock ∧ some k_ ≠ ((.slice (some ⟨go28, 0, none⟩) y397.length co28) : Value).ownBlock) (.slice Ao9 t380.length co9) t380) ∧ Aside0 (Kd.N (Kd.slice 2 (Kd.int .i64)) 33 w' w.heap.size (fun k_ => (w.heap.size ≤ k_) ∧ some k_ ≠ ((.slice Ao9 t380.length co9) : Value).ownBlock ∧ some k_ ≠ ((.slice (some ⟨go28, 0, none⟩) y397.length co28) : Value).ownBlock) u6 x6_1) ∧ Aside0 (Kd.R (Kd.int .i64) 2 w' w.heap.size (fun k_ => (w.heap.size ≤ k_)) (.slice (some ⟨go28, 0, none⟩) y397.length co28) x14_3) ∧ Aside0 (Below w.heap.size w w'))
               case atStart => exact ⟨(y400), (0), (by first | rfl | (simp; done) | (simp [*]; done)), H', ⟨Nat.le_refl _⟩, ⟨by (with_reducible repeat (first | apply Kd.N_alloc | apply Kd.N_drewN | apply Kd.N_drew)); exact Kd.N_mono HO_4.out (fun _ hk => ⟨hk.1.1, ⟨hk.1.2, hk.2⟩⟩)⟩, ⟨by (with_reducible repeat (first | apply Kd.N_alloc | apply Kd.N_drewN | apply Kd.N_drew)); exact Kd.N_mono HO_6.out (fun _ hk => ⟨hk.1.1, ⟨hk.1.2, hk.2⟩⟩)⟩, ⟨by (with_reducible repeat (first | apply Kd.R_alloc | apply Kd.R_drewN | apply Kd.R_drew)); exact HO399.out⟩, ⟨by repeat (first | (with_reducible first | exact HB.out | apply below_alloc | apply pw_below_drewN | apply below_drew1) | exact HB.out)⟩⟩
               case round =>
                clear H'; (try clear c1); (try clear c2); (try clear p2); (try clear q2); (try clear hx2); (try clear hf2); (try clear c3); (try clear p3); (try clear q3); (try clear hx3); (try clear qi3); (try clear c5); (try clear c5b0); (try clear c5b1); (try clear c6); (try clear c6b0); (try clear p6); (try clear c8); (try clear c10); (try clear c10b0); (try clear c11); (try clear c11b0); (try clear c13); (try clear c13b0); (try clear c14); (try clear c14b0); (try clear c15); (try clear c15b0); (try clear c16); (try clear c16b0); (try clear c18); (try clear c18b0); (try clear c18b1); (try clear c20); (try clear c20b0); (try clear c20b1); (try clear c22); (try clear c23); (try clear c23b0); (try clear c23b1); (try clear c24); (try clear c24b0); (try clear c24b1); (try clear c25); (try clear c25b0); (try clear c25b1); (try clear c26); (try clear c26b0); (try clear c27); (try clear c27b0); (try clear p28); (try clear q28); (try clear hx28); (try clear hf28); (try clear hx28_0); (try clear hx384_0); (try clear hx386_0); (try clear hx387_0); (try clear hx389_0); (try clear hx390_0); (try clear hx391_0); (try clear hx396_0); (try clear p2); (try clear p28); (try clear p3); (try clear p384); (try clear p386); (try clear p387); (try clear p389); (try clear p390); (try clear p391); (try clear p396); (try clear p6); (try clear q28); (try clear q3); (try clear q384); (try clear q386); (try clear q387); (try clear q389); (try clear q390); (try clear q391); (try clear q396); obtain ⟨x14_3, x15_3, rfl, HA, HK3, HO_4, HO_6, HO_14, HB⟩ := hrel; have hl14_3 := (Kd.R_reads' HO_14.out).1; rw [hl14_3] at HO_14; (try simp only [hl14_3]); (try simp only [hl14_3] at HO_4); (try simp only [hl14_3] at HO_6)
                cases gk with
                | zero => exact absurd HA.out (by simp [petrinetref08_Kernel.l2])
                | succ k3 =>
                 have H := HA.out; clear HA; simp only [petrinetref08_Kernel.l2] at H; by_cases c33 : x15_3 < (t380.length : Int)
                 ·
                  rw [if_pos c33] at H; have c33b0 : decide (x15_3 < (t380.length : Int)) = true := decide_eq_true c33; clear c33; by_cases c34 : 0 ≤ x15_3
                  ·
                   rw [if_pos c34] at H; have c34b0 : decide (0 ≤ x15_3) = true := decide_eq_true c34; clear c34; replace H := Option.bind_eq_some_iff.mp H; obtain ⟨t405, A350, H⟩ := H; (replace H : (if 0 ≤ t405 then (if t405 < ((rd_L1 t380 x15_3).length : Int) then (if 0 ≤ x7_1 then (if x7_1 < ((rd_L1 t380 x15_3).length : Int) then ((petrinetref08_common.f k3 (rd (rd_L1 t380 x15_3) t405) (rd (rd_L1 t380 x15_3) x7_1)).bind fun t410 => (if t410 = 0 then (none) else (if (wrap64 (Int.tdiv (rd (rd_L1 t380 x15_3) t405) t410)) = 0 then (none) else ((petrinetref08_times.f k3 (wrap64 (Int.tdiv x8_2 (wrap64 (Int.tdiv (rd (rd_L1 t380 x15_3) t405) t410)))) (wrap64 (-(wrap64 (Int.tdiv (rd (rd_L1 t380 x15_3) x7_1) t410))))).bind fun bt415 => (if bt415.2 = true then (if t405 < (x14_3.length : Int) then (petrinetref08_Kernel.l2 k3 l0 t380 x6_1 x7_1 x8_2 (x14_3.set (t405 : Int).toNat bt415.1) (wrap64 (x15_3 + 1))) else (none)) else (some (([] : List (List Int)), false))))))) else (none)) else (none)) else (none)) else (none)) = some (r1, r2) := H); have A35 := Aside0.mk A350; clear A350; by_cases c36 : 0 ≤ t405
                   ·
                    rw [if_pos c36] at H; have c36b0 : decide (0 ≤ t405) = true := decide_eq_true c36; clear c36; by_cases c37 : t405 < ((rd_L1 t380 x15_3).length : Int)
                    ·
                     rw [if_pos c37] at H; have c37b0 : decide (t405 < ((rd_L1 t380 x15_3).length : Int)) = true := decide_eq_true c37; clear c37; by_cases c38 : 0 ≤ x7_1
                     ·
                      rw [if_pos c38] at H; have c38b0 : decide (0 ≤ x7_1) = true := decide_eq_true c38; clear c38; by_cases c39 : x7_1 < ((rd_L1 t380 x15_3).length : Int)
                      ·
                       rw [if_pos c39] at H; have c39b0 : decide (x7_1 < ((rd_L1 t380 x15_3).length : Int)) = true := decide_eq_true c39; clear c39; replace H := Option.bind_eq_some_iff.mp H; obtain ⟨t410, A400, H⟩ := H; (replace H : (if t410 = 0 then (none) else (if (wrap64 (Int.tdiv (rd (rd_L1 t380 x15_3) t405) t410)) = 0 then (none) else ((petrinetref08_times.f k3 (wrap64 (Int.tdiv x8_2 (wrap64 (Int.tdiv (rd (rd_L1 t380 x15_3) t405) t410)))) (wrap64 (-(wrap64 (Int.tdiv (rd (rd_L1 t380 x15_3) x7_1) t410))))).bind fun bt415 => (if bt415.2 = true then (if t405 < (x14_3.length : Int) then (petrinetref08_Kernel.l2 k3 l0 t380 x6_1 x7_1 x8_2 (x14_3.set (t405 : Int).toNat bt415.1) (wrap64 (x15_3 + 1))) else (none)) else (some (([] : List (List Int)), false)))))) = some (r1, r2) := H); have A40 := Aside0.mk A400; clear A400; by_cases c41 : t410 = 0
                       ·
                        rw [if_pos c41] at H; (exact absurd H (by simp))
                       ·
                        rw [if_neg c41] at H; have c41b0 : (t410 == 0) = false := beq_eq_false_iff_ne.mpr c41; have c41b1 : (t410 != 0) = true := bne_iff_ne.mpr c41; by_cases c42 : (wrap64 (Int.tdiv (rd (rd_L1 t380 x15_3) t405) t410)) = 0
                        ·
                         rw [if_pos c42] at H; (exact absurd H (by simp))
                        ·
                         rw [if_neg c42] at H; have c42b0 : ((wrap64 (Int.tdiv (rd (rd_L1 t380 x15_3) t405) t410)) == 0) = false := beq_eq_false_iff_ne.mpr c42; have c42b1 : ((wrap64 (Int.tdiv (rd (rd_L1 t380 x15_3) t405) t410)) != 0) = true := bne_iff_ne.mpr c42; replace H := Option.bind_eq_some_iff.mp H; obtain ⟨⟨t415, t416⟩, A430, H⟩ := H; replace H : (if t416 = true then (if t405 < (x14_3.length : Int) then (petrinetref08_Kernel.l2 k3 l0 t380 x6_1 x7_1 x8_2 (x14_3.set (t405 : Int).toNat t415) (wrap64 (x15_3 + 1))) else (none)) else (some (([] : List (List Int)), false))) = some (r1, r2) := H; have A43 := Aside0.mk A430; clear A430; by_cases c44 : t416 = true
                         ·
                          subst c44; (have H1 : (if t405 < (x14_3.length : Int) then (petrinetref08_Kernel.l2 k3 l0 t380 x6_1 x7_1 x8_2 (x14_3.set (t405 : Int).toNat t415) (wrap64 (x15_3 + 1))) else (none)) = some (r1, r2) := by rw [if_pos rfl] at H; exact H); clear H; have H := H1; clear H1; by_cases c45 : t405 < (x14_3.length : Int)
                          ·
                           rw [if_pos c45] at H; have c45b0 : decide (t405 < (x14_3.length : Int)) = true := decide_eq_true c45; clear c45; obtain ⟨y417, hy417⟩ : ∃ y_ : List Int, y_ = (x14_3.set (t405 : Int).toNat t415) := ⟨_, rfl⟩; (replace H : (petrinetref08_Kernel.l2 k3 l0 t380 x6_1 x7_1 x8_2 y417 (wrap64 (x15_3 + 1))) = some (r1, r2) := by first | (rw [hy417]; with_reducible exact H) | (have H2_ := (Option.bind_some _ _).symm.trans H; rw [hy417]; with_reducible exact H2_) | (have H2_ := (Option.bind_some _ _).symm.trans H; with_reducible exact H2_) | with_reducible exact H | (rw [hy417]; exact H) | exact H); have Ny417 := Aside0.mk hy417; clear hy417; have H' := Aside0.mk H; clear H; (have p404 : 0 ≤ (x15_3 : Int) := of_decide_eq_true (by first | (with_reducible assumption) | assumption)); (have q404 : x15_3 < (t380.length : Int) := of_decide_eq_true (by first | (with_reducible assumption) | assumption)); obtain ⟨ad404, A404_0, c404_0, e404, hx404_0, hl404_0, hi404_0⟩ := at_L1 (Kd.N_reads' HO_4.out).2.2 x15_3 p404 q404
                           cases e404
                           (obtain ⟨ce404, hce404, hMe404, hcc404⟩ := Kd.N_get HO_4.out [] x15_3 p404 (by first | exact q404 | exact of_decide_eq_true (by first | (with_reducible assumption) | assumption) | (have e_ := (Kd.N_reads' HO_4.out).1; omega))); obtain ⟨ua404_0, uc404_0, rfl, ul404_0, ge404_0⟩ := Kd.FK_slice_open hMe404; have hv404_0 := hcc404 0 _ rfl; (rw [Nat.add_zero, show ((Kd.slice 2 (Kd.int .i64))).sz = 1 from rfl, Nat.mul_one] at hv404_0); replace hv404_0 := Option.some.inj (hv404_0.symm.trans hx404_0); injection hv404_0 with hva_ hvn_ hvc_; rw [hva_] at ge404_0; rw [hvc_] at ul404_0; (have HL404_0 := Aside0.mk (show Kd.V (Kd.int .i64) 2 _ w.heap.size _ _ (rd_L1 t380 x15_3) from Kd.V_mk ul404_0 ge404_0)); clear hva_ hvn_ hvc_ ge404_0 ul404_0; clear hcc404 hce404; have HR404_0 := Aside0.mk hi404_0; have HC404_0 := Aside0.mk hl404_0; clear hi404_0 hl404_0; replace p404 := eq_true p404; replace q404 := eq_true q404
                           go_wp2_with (first | (go_at_call 30; (with_reducible refine (petrinetref08_pivot.calls k3 _ _ (rd_L1 t380 x15_3) t405 _ ?side1 ?side2 A35.out).mono ?_); (case side1 => repeat (first | exact (by repeat (first | (with_reducible exact HR404_0.out) | (with_reducible refine Kd.C_alloc ?_ _) | (with_reducible refine Kd.C_drewN ?_ _) | (with_reducible refine Kd.C_drew ?_) | exact HR404_0.out)) | (with_reducible refine Kd.C_alloc ?_ _) | (with_reducible refine Kd.C_drewN ?_ _) | (with_reducible refine Kd.C_drew ?_))); (case side2 => exact HC404_0.out); rintro e w' ⟨rfl, ⟨nd, rfl⟩⟩; (try first | exact ⟨rfl, _, World.drewN_drewN _ _ _⟩ | exact ⟨rfl, _, Eq.trans (World.drewN_drewN _ _ _) (congrArg (World.drewN _) (Nat.add_assoc _ _ _))⟩); have p406 : 0 ≤ (x15_3 : Int) := of_decide_eq_true (by first | (with_reducible assumption) | assumption); have q406 : x15_3 < (t380.length : Int) := of_decide_eq_true (by first | (with_reducible assumption) | assumption); obtain ⟨ad406, A406_0, c406_0, e406, hx406_0, hl406_0, hi406_0⟩ := at_L1 (Kd.N_reads' HO_4.out).2.2 x15_3 p406 q406; obtain rfl : ad404 = ad406 := (by injection e406); obtain ⟨ce406, hce406, hMe406, hcc406⟩ := Kd.N_get HO_4.out [] x15_3 p406 (by first | exact q406 | exact of_decide_eq_true (by first | (with_reducible assumption) | assumption) | (have e_ := (Kd.N_reads' HO_4.out).1; omega)); obtain ⟨ua406_0, uc406_0, rfl, ul406_0, ge406_0⟩ := Kd.FK_slice_open hMe406; have hv406_0 := hcc406 0 _ rfl; rw [Nat.add_zero, show ((Kd.slice 2 (Kd.int .i64))).sz = 1 from rfl, Nat.mul_one] at hv406_0; replace hv406_0 := Option.some.inj (hv406_0.symm.trans hx406_0); injection hv406_0 with hva_ hvn_ hvc_; rw [hva_] at ge406_0; rw [hvc_] at ul406_0; have HL406_0 := Aside0.mk (show Kd.V (Kd.int .i64) 2 _ w.heap.size _ _ (rd_L1 t380 x15_3) from Kd.V_mk ul406_0 ge406_0); clear hva_ hvn_ hvc_ ge406_0 ul406_0; clear hcc406 hce406; have HR406_0 := Aside0.mk hi406_0; have HC406_0 := Aside0.mk hl406_0; clear hi406_0 hl406_0; replace p406 := eq_true p406; replace q406 := eq_true q406; have ea_ := Option.some.inj (hx404_0.symm.trans hx406_0); injection ea_ with ea_ en_ ec_; subst ea_; subst ec_; clear en_; have p407 : 0 ≤ (t405 : Int) := of_decide_eq_true (by first | (with_reducible assumption) | assumption); have q407 : t405 < ((rd_L1 t380 x15_3).length : Int) := of_decide_eq_true (by first | (with_reducible assumption) | assumption); obtain ⟨ad407, e407, hx407_0⟩ := Kd.at_int (by repeat (first | (with_reducible exact HR406_0.out) | (with_reducible refine Kd.C_alloc ?_ _) | (with_reducible refine Kd.C_drewN ?_ _) | (with_reducible refine Kd.C_drew ?_) | exact HR406_0.out)) t405 p407 q407; cases e407; replace p407 := eq_true p407; replace q407 := eq_true q407; have p408 : 0 ≤ (x15_3 : Int) := of_decide_eq_true (by first | (with_reducible assumption) | assumption); have q408 : x15_3 < (t380.length : Int) := of_decide_eq_true (by first | (with_reducible assumption) | assumption); obtain ⟨ad408, A408_0, c408_0, e408, hx408_0, hl408_0, hi408_0⟩ := at_L1 (Kd.N_reads' HO_4.out).2.2 x15_3 p408 q408; obtain rfl : ad404 = ad408 := (by injection e408); obtain ⟨ce408, hce408, hMe408, hcc408⟩ := Kd.N_get HO_4.out [] x15_3 p408 (by first | exact q408 | exact of_decide_eq_true (by first | (with_reducible assumption) | assumption) | (have e_ := (Kd.N_reads' HO_4.out).1; omega)); obtain ⟨ua408_0, uc408_0, rfl, ul408_0, ge408_0⟩ := Kd.FK_slice_open hMe408; have hv408_0 := hcc408 0 _ rfl; rw [Nat.add_zero, show ((Kd.slice 2 (Kd.int .i64))).sz = 1 from rfl, Nat.mul_one] at hv408_0; replace hv408_0 := Option.some.inj (hv408_0.symm.trans hx408_0); injection hv408_0 with hva_ hvn_ hvc_; rw [hva_] at ge408_0; rw [hvc_] at ul408_0; have HL408_0 := Aside0.mk (show Kd.V (Kd.int .i64) 2 _ w.heap.size _ _ (rd_L1 t380 x15_3) from Kd.V_mk ul408_0 ge408_0); clear hva_ hvn_ hvc_ ge408_0 ul408_0; clear hcc408 hce408; have HR408_0 := Aside0.mk hi408_0; have HC408_0 := Aside0.mk hl408_0; clear hi408_0 hl408_0; replace p408 := eq_true p408; replace q408 := eq_true q408; have ea_ := Option.some.inj (hx404_0.symm.trans hx408_0); injection ea_ with ea_ en_ ec_; subst ea_; subst ec_; clear en_; have p409 : 0 ≤ (x7_1 : Int) := of_decide_eq_true (by first | (with_reducible assumption) | assumption); have q409 : x7_1 < ((rd_L1 t380 x15_3).length : Int) := of_decide_eq_true (by first | (with_reducible assumption) | assumption); obtain ⟨ad409, e409, hx409_0⟩ := Kd.at_int (by repeat (first | (with_reducible exact HR408_0.out) | (with_reducible refine Kd.C_alloc ?_ _) | (with_reducible refine Kd.C_drewN ?_ _) | (with_reducible refine Kd.C_drew ?_) | exact HR408_0.out)) x7_1 p409 q409; cases e409; replace p409 := eq_true p409; replace q409 := eq_true q409))
                           go_quiet (first | (go_at_call 31; (with_reducible refine (petrinetref08_common.calls k3 (rd (rd_L1 t380 x15_3) t405) (rd (rd_L1 t380 x15_3) x7_1) t410 _ A40.out).mono ?_); rintro e w' ⟨rfl, ⟨nd, rfl⟩⟩; (try first | exact ⟨rfl, _, World.drewN_drewN _ _ _⟩ | exact ⟨rfl, _, Eq.trans (World.drewN_drewN _ _ _) (congrArg (World.drewN _) (Nat.add_assoc _ _ _))⟩); have p411 : 0 ≤ (x15_3 : Int) := of_decide_eq_true (by first | (with_reducible assumption) | assumption); have q411 : x15_3 < (t380.length : Int) := of_decide_eq_true (by first | (with_reducible assumption) | assumption); obtain ⟨ad411, A411_0, c411_0, e411, hx411_0, hl411_0, hi411_0⟩ := at_L1 (Kd.N_reads' HO_4.out).2.2 x15_3 p411 q411; obtain rfl : ad404 = ad411 := (by injection e411); obtain ⟨ce411, hce411, hMe411, hcc411⟩ := Kd.N_get HO_4.out [] x15_3 p411 (by first | exact q411 | exact of_decide_eq_true (by first | (with_reducible assumption) | assumption) | (have e_ := (Kd.N_reads' HO_4.out).1; omega)); obtain ⟨ua411_0, uc411_0, rfl, ul411_0, ge411_0⟩ := Kd.FK_slice_open hMe411; have hv411_0 := hcc411 0 _ rfl; rw [Nat.add_zero, show ((Kd.slice 2 (Kd.int .i64))).sz = 1 from rfl, Nat.mul_one] at hv411_0; replace hv411_0 := Option.some.inj (hv411_0.symm.trans hx411_0); injection hv411_0 with hva_ hvn_ hvc_; rw [hva_] at ge411_0; rw [hvc_] at ul411_0; have HL411_0 := Aside0.mk (show Kd.V (Kd.int .i64) 2 _ w.heap.size _ _ (rd_L1 t380 x15_3) from Kd.V_mk ul411_0 ge411_0); clear hva_ hvn_ hvc_ ge411_0 ul411_0; clear hcc411 hce411; have HR411_0 := Aside0.mk hi411_0; have HC411_0 := Aside0.mk hl411_0; clear hi411_0 hl411_0; replace p411 := eq_true p411; replace q411 := eq_true q411; have ea_ := Option.some.inj (hx404_0.symm.trans hx411_0); injection ea_ with ea_ en_ ec_; subst ea_; subst ec_; clear en_; have p412 : 0 ≤ (t405 : Int) := of_decide_eq_true (by first | (with_reducible assumption) | assumption); have q412 : t405 < ((rd_L1 t380 x15_3).length : Int) := of_decide_eq_true (by first | (with_reducible assumption) | assumption); obtain ⟨ad412, e412, hx412_0⟩ := Kd.at_int (by repeat (first | (with_reducible exact HR411_0.out) | (with_reducible refine Kd.C_alloc ?_ _) | (with_reducible refine Kd.C_drewN ?_ _) | (with_reducible refine Kd.C_drew ?_) | exact HR411_0.out)) t405 p412 q412; cases e412; replace p412 := eq_true p412; replace q412 := eq_true q412; have p413 : 0 ≤ (x15_3 : Int) := of_decide_eq_true (by first | (with_reducible assumption) | assumption); have q413 : x15_3 < (t380.length : Int) := of_decide_eq_true (by first | (with_reducible assumption) | assumption); obtain ⟨ad413, A413_0, c413_0, e413, hx413_0, hl413_0, hi413_0⟩ := at_L1 (Kd.N_reads' HO_4.out).2.2 x15_3 p413 q413; obtain rfl : ad404 = ad413 := (by injection e413); obtain ⟨ce413, hce413, hMe413, hcc413⟩ := Kd.N_get HO_4.out [] x15_3 p413 (by first | exact q413 | exact of_decide_eq_true (by first | (with_reducible assumption) | assumption) | (have e_ := (Kd.N_reads' HO_4.out).1; omega)); obtain ⟨ua413_0, uc413_0, rfl, ul413_0, ge413_0⟩ := Kd.FK_slice_open hMe413; have hv413_0 := hcc413 0 _ rfl; rw [Nat.add_zero, show ((Kd.slice 2 (Kd.int .i64))).sz = 1 from rfl, Nat.mul_one] at hv413_0; replace hv413_0 := Option.some.inj (hv413_0.symm.trans hx413_0); injection hv413_0 with hva_ hvn_ hvc_; rw [hva_] at ge413_0; rw [hvc_] at ul413_0; have HL413_0 := Aside0.mk (show Kd.V (Kd.int .i64) 2 _ w.heap.size _ _ (rd_L1 t380 x15_3) from Kd.V_mk ul413_0 ge413_0); clear hva_ hvn_ hvc_ ge413_0 ul413_0; clear hcc413 hce413; have HR413_0 := Aside0.mk hi413_0; have HC413_0 := Aside0.mk hl413_0; clear hi413_0 hl413_0; replace p413 := eq_true p413; replace q413 := eq_true q413; have ea_ := Option.some.inj (hx404_0.symm.trans hx413_0); injection ea_ with ea_ en_ ec_; subst ea_; subst ec_; clear en_; have p414 : 0 ≤ (x7_1 : Int) := of_decide_eq_true (by first | (with_reducible assumption) | assumption); have q414 : x7_1 < ((rd_L1 t380 x15_3).length : Int) := of_decide_eq_true (by first | (with_reducible assumption) | assumption); obtain ⟨ad414, e414, hx414_0⟩ := Kd.at_int (by repeat (first | (with_reducible exact HR413_0.out) | (with_reducible refine Kd.C_alloc ?_ _) | (with_reducible refine Kd.C_drewN ?_ _) | (with_reducible refine Kd.C_drew ?_) | exact HR413_0.out)) x7_1 p414 q414; cases e414; replace p414 := eq_true p414; replace q414 := eq_true q414))
                           try go_wp2_with (fail)
                           have c42b9 := c42b0; simp only [← i64_w] at c42b9; (refine wp_region_quiet_lit (by kernel_rfl) (by kernel_rfl) ?_)
                           repeat (first | go_big_quiet_step (first | (go_at_call 32; (try simp only [i64_w]); (with_reducible refine (petrinetref08_times.calls k3 (wrap64 (Int.tdiv x8_2 (wrap64 (Int.tdiv (rd (rd_L1 t380 x15_3) t405) t410)))) (wrap64 (-(wrap64 (Int.tdiv (rd (rd_L1 t380 x15_3) x7_1) t410)))) t415 true _ A43.out).mono ?_); rintro e w' ⟨rfl, ⟨nd, rfl⟩⟩; (try first | exact ⟨rfl, _, World.drewN_drewN _ _ _⟩ | exact ⟨rfl, _, Eq.trans (World.drewN_drewN _ _ _) (congrArg (World.drewN _) (Nat.add_assoc _ _ _))⟩))) | (go_big_quiet_want; go_simp; go_big_quiet_on))
                           refine wpQuiet_nil ?_
                           intro _ hw'
                           obtain ⟨nq, hw''⟩ := hw'
                           subst hw''; clear c42b9; (have p46 : 0 ≤ (t405 : Int) := of_decide_eq_true (by first | (with_reducible assumption) | assumption)); (have q46 : (t405 : Int) < ((x14_3.length : Int) : Int) := of_decide_eq_true (by first | (with_reducible assumption) | assumption)); replace p46 := eq_true p46; replace q46 := eq_true q46
                           try go_wp2_with (first | ((with_reducible refine gate_store (t := 2) (p := 145) rfl ?_); (try (rw [drewN_self wr]; generalize hq_ : World.drewN wr _ = wr; have n0_ := Aside0.mk (Kd.N_at hq_ HO_4.out); have n1_ := Aside0.mk (Kd.N_at hq_ HO_6.out); have n2_ := Aside0.mk (Kd.R_at hq_ HO_14.out); have n3_ := Aside0.mk (Eq.subst (motive := fun z => Kd.V _ _ z _ _ _ _) hq_ (Kd.V_drewN HL404_0.out _)); have n4_ := Aside0.mk (Eq.subst (motive := fun z => Kd.V _ _ z _ _ _ _) hq_ (Kd.V_drewN HL406_0.out _)); have n5_ := Aside0.mk (Eq.subst (motive := fun z => Kd.V _ _ z _ _ _ _) hq_ (Kd.V_drewN HL408_0.out _)); have n6_ := Aside0.mk (Eq.subst (motive := fun z => Kd.V _ _ z _ _ _ _) hq_ (Kd.V_drewN HL411_0.out _)); have n7_ := Aside0.mk (Eq.subst (motive := fun z => Kd.V _ _ z _ _ _ _) hq_ (Kd.V_drewN HL413_0.out _)); have n8_ := Aside0.mk (below_at hq_ HB.out); clear hq_ HO_4 HO_6 HO_14 HL404_0 HL406_0 HL408_0 HL411_0 HL413_0 HB; have HO_4 := n0_; have HO_6 := n1_; have HO_14 := n2_; have HL404_0 := n3_; have HL406_0 := n4_; have HL408_0 := n5_; have HL411_0 := n6_; have HL413_0 := n7_; have HB := n8_; clear n0_ n1_ n2_ n3_ n4_ n5_ n6_ n7_ n8_; (try (obtain ⟨hy47_, hz47_⟩ := Kd.R_celln 0 HO_14.out (t405 : Int) (of_decide_eq_true (by first | (with_reducible assumption) | assumption)) (of_decide_eq_true (by first | (with_reducible assumption) | assumption)))); (try (have HP47 := Kd.R_putg HO_14.out (t405 : Int) t415)))); refine store_event (t := 2) (p := 145) (v := ?vo_w48) (w1 := (wr.setCell ⟨go28, (t405 : Int).toNat, none⟩ (.int .i64 t415))) ?hg ?ho ?hn ?hr ?_; (case ho => rfl); (case hg => rfl); (case hn => rfl); (case hr => first | (go_simp; done) | (go_simp; rfl)); intro w48 hw; have hg : wr.grownBy w48 (some go28) := (by rw [hw]; exact HP47.2); have hp_ : Kd.R (Kd.int .i64) 2 w48 w.heap.size (fun k_ => (w.heap.size ≤ k_)) (.slice (some ⟨go28, 0, none⟩) x14_3.length co28) y417 := (by rw [hw, Ny417.out]; exact HP47.1); clear HP47; have n0_ := Aside0.mk (Kd.N_afterv (v := (.slice (some ⟨go28, 0, none⟩) x14_3.length co28)) (v1 := (.slice (some ⟨go28, 0, none⟩) x14_3.length co28)) (ok := (fun k_ => (w.heap.size ≤ k_) ∧ some k_ ≠ (u6 : Value).ownBlock)) (by (with_reducible repeat (first | apply Kd.N_alloc | apply Kd.N_drewN | apply Kd.N_drew)); exact Kd.N_mono HO_4.out (fun _ hk => ⟨⟨hk.1, hk.2.1⟩, hk.2.2⟩)) hg (.inl rfl)); have n1_ := Aside0.mk (Kd.N_afterv (v := (.slice (some ⟨go28, 0, none⟩) x14_3.length co28)) (v1 := (.slice (some ⟨go28, 0, none⟩) x14_3.length co28)) (ok := (fun k_ => (w.heap.size ≤ k_) ∧ some k_ ≠ (.slice (some ad404) t380.length co9 : Value).ownBlock)) (by (with_reducible repeat (first | apply Kd.N_alloc | apply Kd.N_drewN | apply Kd.N_drew)); exact Kd.N_mono HO_6.out (fun _ hk => ⟨⟨hk.1, hk.2.1⟩, hk.2.2⟩)) hg (.inl rfl)); have n2_ := Aside0.mk (hp_); have n3_ := Aside0.mk (Kd.V_afterv (v := (.slice (some ⟨go28, 0, none⟩) x14_3.length co28)) (v1 := (.slice (some ⟨go28, 0, none⟩) x14_3.length co28)) (ok := (fun k_ => (w.heap.size ≤ k_) ∧ some k_ ≠ (.slice (some ad404) t380.length co9 : Value).ownBlock ∧ some k_ ≠ (u6 : Value).ownBlock)) (by (with_reducible repeat (first | apply Kd.V_alloc | apply Kd.V_drewN | apply Kd.V_drew)); exact Kd.V_mono HL404_0.out (fun _ hk => ⟨⟨hk.1.1, ⟨hk.2, hk.1.2.1⟩⟩, hk.1.2.2⟩)) hg (.inl rfl)); have n4_ := Aside0.mk (Kd.V_afterv (v := (.slice (some ⟨go28, 0, none⟩) x14_3.length co28)) (v1 := (.slice (some ⟨go28, 0, none⟩) x14_3.length co28)) (ok := (fun k_ => (w.heap.size ≤ k_) ∧ some k_ ≠ (.slice (some ad404) t380.length co9 : Value).ownBlock ∧ some k_ ≠ (u6 : Value).ownBlock)) (by (with_reducible repeat (first | apply Kd.V_alloc | apply Kd.V_drewN | apply Kd.V_drew)); exact Kd.V_mono HL406_0.out (fun _ hk => ⟨⟨hk.1.1, ⟨hk.2, hk.1.2.1⟩⟩, hk.1.2.2⟩)) hg (.inl rfl)); have n5_ := Aside0.mk (Kd.V_afterv (v := (.slice (some ⟨go28, 0, none⟩) x14_3.length co28)) (v1 := (.slice (some ⟨go28, 0, none⟩) x14_3.length co28)) (ok := (fun k_ => (w.heap.size ≤ k_) ∧ some k_ ≠ (.slice (some ad404) t380.length co9 : Value).ownBlock ∧ some k_ ≠ (u6 : Value).ownBlock)) (by (with_reducible repeat (first | apply Kd.V_alloc | apply Kd.V_drewN | apply Kd.V_drew)); exact Kd.V_mono HL408_0.out (fun _ hk => ⟨⟨hk.1.1, ⟨hk.2, hk.1.2.1⟩⟩, hk.1.2.2⟩)) hg (.inl rfl)); have n6_ := Aside0.mk (Kd.V_afterv (v := (.slice (some ⟨go28, 0, none⟩) x14_3.length co28)) (v1 := (.slice (some ⟨go28, 0, none⟩) x14_3.length co28)) (ok := (fun k_ => (w.heap.size ≤ k_) ∧ some k_ ≠ (.slice (some ad404) t380.length co9 : Value).ownBlock ∧ some k_ ≠ (u6 : Value).ownBlock)) (by (with_reducible repeat (first | apply Kd.V_alloc | apply Kd.V_drewN | apply Kd.V_drew)); exact Kd.V_mono HL411_0.out (fun _ hk => ⟨⟨hk.1.1, ⟨hk.2, hk.1.2.1⟩⟩, hk.1.2.2⟩)) hg (.inl rfl)); have n7_ := Aside0.mk (Kd.V_afterv (v := (.slice (some ⟨go28, 0, none⟩) x14_3.length co28)) (v1 := (.slice (some ⟨go28, 0, none⟩) x14_3.length co28)) (ok := (fun k_ => (w.heap.size ≤ k_) ∧ some k_ ≠ (.slice (some ad404) t380.length co9 : Value).ownBlock ∧ some k_ ≠ (u6 : Value).ownBlock)) (by (with_reducible repeat (first | apply Kd.V_alloc | apply Kd.V_drewN | apply Kd.V_drew)); exact Kd.V_mono HL413_0.out (fun _ hk => ⟨⟨hk.1.1, ⟨hk.2, hk.1.2.1⟩⟩, hk.1.2.2⟩)) hg (.inl rfl)); have n8_ := Aside0.mk ((by rw [hw]; exact below_set (HB.out) GB28.out : Below w.heap.size w w48)); clear HO_4; clear HO_6; clear HO_14; clear HL404_0; clear HL406_0; clear HL408_0; clear HL411_0; clear HL413_0; clear HB; have HO_4 := n0_; have HO_6 := n1_; have HO_14 := n2_; have HL404_0 := n3_; have HL406_0 := n4_; have HL408_0 := n5_; have HL411_0 := n6_; have HL413_0 := n7_; have HB := n8_; clear n0_ n1_ n2_ n3_ n4_ n5_ n6_ n7_ n8_; clear hg hw hp_))
                           (try simp only [← hl14_3])
                           go_roundg k3
                           case measure => have := HK1.out; have := HK2.out; have := HK3.out; omega
                           case rel => exact ⟨(y417), (wrap64 (x15_3 + 1)), (by first | rfl | (simp; done) | (simp [*]; done)), H', ⟨by have := HK1.out; have := HK2.out; have := HK3.out; omega⟩, ⟨by (try simp only [hl14_3]); (with_reducible repeat (first | apply Kd.N_alloc | apply Kd.N_drewN | apply Kd.N_drew)); exact Kd.N_mono HO_4.out (fun _ hk => ⟨hk.1.1, ⟨hk.1.2, hk.2⟩⟩)⟩, ⟨by (try simp only [hl14_3]); (with_reducible repeat (first | apply Kd.N_alloc | apply Kd.N_drewN | apply Kd.N_drew)); exact Kd.N_mono HO_6.out (fun _ hk => ⟨hk.1.1, ⟨hk.1.2, hk.2⟩⟩)⟩, ⟨by (try simp only [hl14_3]); (with_reducible repeat (first | apply Kd.R_alloc | apply Kd.R_drewN | apply Kd.R_drew)); exact HO_14.out⟩, ⟨by repeat (first | (with_reducible first | exact HB.out | apply below_alloc | apply pw_below_drewN | apply below_drew1) | exact HB.out)⟩⟩
                          ·
                           rw [if_neg c45] at H; (exact absurd H (by simp))
                         ·
                          replace c44 := Bool.eq_false_iff.mpr c44; subst c44; (have H1 : (some (([] : List (List Int)), false)) = some (r1, r2) := by rw [if_neg (show ¬ (false = true) by decide)] at H; exact H); clear H; have H := H1; clear H1; simp only [Option.some.injEq, Prod.mk.injEq] at H; obtain ⟨rfl, rfl⟩ := H; (have p404 : 0 ≤ (x15_3 : Int) := of_decide_eq_true (by first | (with_reducible assumption) | assumption)); (have q404 : x15_3 < (t380.length : Int) := of_decide_eq_true (by first | (with_reducible assumption) | assumption)); obtain ⟨ad404, A404_0, c404_0, e404, hx404_0, hl404_0, hi404_0⟩ := at_L1 (Kd.N_reads' HO_4.out).2.2 x15_3 p404 q404
                          cases e404
                          (obtain ⟨ce404, hce404, hMe404, hcc404⟩ := Kd.N_get HO_4.out [] x15_3 p404 (by first | exact q404 | exact of_decide_eq_true (by first | (with_reducible assumption) | assumption) | (have e_ := (Kd.N_reads' HO_4.out).1; omega))); obtain ⟨ua404_0, uc404_0, rfl, ul404_0, ge404_0⟩ := Kd.FK_slice_open hMe404; have hv404_0 := hcc404 0 _ rfl; (rw [Nat.add_zero, show ((Kd.slice 2 (Kd.int .i64))).sz = 1 from rfl, Nat.mul_one] at hv404_0); replace hv404_0 := Option.some.inj (hv404_0.symm.trans hx404_0); injection hv404_0 with hva_ hvn_ hvc_; rw [hva_] at ge404_0; rw [hvc_] at ul404_0; (have HL404_0 := Aside0.mk (show Kd.V (Kd.int .i64) 2 _ w.heap.size _ _ (rd_L1 t380 x15_3) from Kd.V_mk ul404_0 ge404_0)); clear hva_ hvn_ hvc_ ge404_0 ul404_0; clear hcc404 hce404; have HR404_0 := Aside0.mk hi404_0; have HC404_0 := Aside0.mk hl404_0; clear hi404_0 hl404_0; replace p404 := eq_true p404; replace q404 := eq_true q404
                          go_wp2_with (first | (go_at_call 30; (with_reducible refine (petrinetref08_pivot.calls k3 _ _ (rd_L1 t380 x15_3) t405 _ ?side1 ?side2 A35.out).mono ?_); (case side1 => repeat (first | exact (by repeat (first | (with_reducible exact HR404_0.out) | (with_reducible refine Kd.C_alloc ?_ _) | (with_reducible refine Kd.C_drewN ?_ _) | (with_reducible refine Kd.C_drew ?_) | exact HR404_0.out)) | (with_reducible refine Kd.C_alloc ?_ _) | (with_reducible refine Kd.C_drewN ?_ _) | (with_reducible refine Kd.C_drew ?_))); (case side2 => exact HC404_0.out); rintro e w' ⟨rfl, ⟨nd, rfl⟩⟩; (try first | exact ⟨rfl, _, World.drewN_drewN _ _ _⟩ | exact ⟨rfl, _, Eq.trans (World.drewN_drewN _ _ _) (congrArg (World.drewN _) (Nat.add_assoc _ _ _))⟩); have p406 : 0 ≤ (x15_3 : Int) := of_decide_eq_true (by first | (with_reducible assumption) | assumption); have q406 : x15_3 < (t380.length : Int) := of_decide_eq_true (by first | (with_reducible assumption) | assumption); obtain ⟨ad406, A406_0, c406_0, e406, hx406_0, hl406_0, hi406_0⟩ := at_L1 (Kd.N_reads' HO_4.out).2.2 x15_3 p406 q406; obtain rfl : ad404 = ad406 := (by injection e406); obtain ⟨ce406, hce406, hMe406, hcc406⟩ := Kd.N_get HO_4.out [] x15_3 p406 (by first | exact q406 | exact of_decide_eq_true (by first | (with_reducible assumption) | assumption) | (have e_ := (Kd.N_reads' HO_4.out).1; omega)); obtain ⟨ua406_0, uc406_0, rfl, ul406_0, ge406_0⟩ := Kd.FK_slice_open hMe406; have hv406_0 := hcc406 0 _ rfl; rw [Nat.add_zero, show ((Kd.slice 2 (Kd.int .i64))).sz = 1 from rfl, Nat.mul_one] at hv406_0; replace hv406_0 := Option.some.inj (hv406_0.symm.trans hx406_0); injection hv406_0 with hva_ hvn_ hvc_; rw [hva_] at ge406_0; rw [hvc_] at ul406_0; have HL406_0 := Aside0.mk (show Kd.V (Kd.int .i64) 2 _ w.heap.size _ _ (rd_L1 t380 x15_3) from Kd.V_mk ul406_0 ge406_0); clear hva_ hvn_ hvc_ ge406_0 ul406_0; clear hcc406 hce406; have HR406_0 := Aside0.mk hi406_0; have HC406_0 := Aside0.mk hl406_0; clear hi406_0 hl406_0; replace p406 := eq_true p406; replace q406 := eq_true q406; have ea_ := Option.some.inj (hx404_0.symm.trans hx406_0); injection ea_ with ea_ en_ ec_; subst ea_; subst ec_; clear en_; have p407 : 0 ≤ (t405 : Int) := of_decide_eq_true (by first | (with_reducible assumption) | assumption); have q407 : t405 < ((rd_L1 t380 x15_3).length : Int) := of_decide_eq_true (by first | (with_reducible assumption) | assumption); obtain ⟨ad407, e407, hx407_0⟩ := Kd.at_int (by repeat (first | (with_reducible exact HR406_0.out) | (with_reducible refine Kd.C_alloc ?_ _) | (with_reducible refine Kd.C_drewN ?_ _) | (with_reducible refine Kd.C_drew ?_) | exact HR406_0.out)) t405 p407 q407; cases e407; replace p407 := eq_true p407; replace q407 := eq_true q407; have p408 : 0 ≤ (x15_3 : Int) := of_decide_eq_true (by first | (with_reducible assumption) | assumption); have q408 : x15_3 < (t380.length : Int) := of_decide_eq_true (by first | (with_reducible assumption) | assumption); obtain ⟨ad408, A408_0, c408_0, e408, hx408_0, hl408_0, hi408_0⟩ := at_L1 (Kd.N_reads' HO_4.out).2.2 x15_3 p408 q408; obtain rfl : ad404 = ad408 := (by injection e408); obtain ⟨ce408, hce408, hMe408, hcc408⟩ := Kd.N_get HO_4.out [] x15_3 p408 (by first | exact q408 | exact of_decide_eq_true (by first | (with_reducible assumption) | assumption) | (have e_ := (Kd.N_reads' HO_4.out).1; omega)); obtain ⟨ua408_0, uc408_0, rfl, ul408_0, ge408_0⟩ := Kd.FK_slice_open hMe408; have hv408_0 := hcc408 0 _ rfl; rw [Nat.add_zero, show ((Kd.slice 2 (Kd.int .i64))).sz = 1 from rfl, Nat.mul_one] at hv408_0; replace hv408_0 := Option.some.inj (hv408_0.symm.trans hx408_0); injection hv408_0 with hva_ hvn_ hvc_; rw [hva_] at ge408_0; rw [hvc_] at ul408_0; have HL408_0 := Aside0.mk (show Kd.V (Kd.int .i64) 2 _ w.heap.size _ _ (rd_L1 t380 x15_3) from Kd.V_mk ul408_0 ge408_0); clear hva_ hvn_ hvc_ ge408_0 ul408_0; clear hcc408 hce408; have HR408_0 := Aside0.mk hi408_0; have HC408_0 := Aside0.mk hl408_0; clear hi408_0 hl408_0; replace p408 := eq_true p408; replace q408 := eq_true q408; have ea_ := Option.some.inj (hx404_0.symm.trans hx408_0); injection ea_ with ea_ en_ ec_; subst ea_; subst ec_; clear en_; have p409 : 0 ≤ (x7_1 : Int) := of_decide_eq_true (by first | (with_reducible assumption) | assumption); have q409 : x7_1 < ((rd_L1 t380 x15_3).length : Int) := of_decide_eq_true (by first | (with_reducible assumption) | assumption); obtain ⟨ad409, e409, hx409_0⟩ := Kd.at_int (by repeat (first | (with_reducible exact HR408_0.out) | (with_reducible refine Kd.C_alloc ?_ _) | (with_reducible refine Kd.C_drewN ?_ _) | (with_reducible refine Kd.C_drew ?_) | exact HR408_0.out)) x7_1 p409 q409; cases e409; replace p409 := eq_true p409; replace q409 := eq_true q409))
                          go_quiet (first | (go_at_call 31; (with_reducible refine (petrinetref08_common.calls k3 (rd (rd_L1 t380 x15_3) t405) (rd (rd_L1 t380 x15_3) x7_1) t410 _ A40.out).mono ?_); rintro e w' ⟨rfl, ⟨nd, rfl⟩⟩; (try first | exact ⟨rfl, _, World.drewN_drewN _ _ _⟩ | exact ⟨rfl, _, Eq.trans (World.drewN_drewN _ _ _) (congrArg (World.drewN _) (Nat.add_assoc _ _ _))⟩); have p411 : 0 ≤ (x15_3 : Int) := of_decide_eq_true (by first | (with_reducible assumption) | assumption); have q411 : x15_3 < (t380.length : Int) := of_decide_eq_true (by first | (with_reducible assumption) | assumption); obtain ⟨ad411, A411_0, c411_0, e411, hx411_0, hl411_0, hi411_0⟩ := at_L1 (Kd.N_reads' HO_4.out).2.2 x15_3 p411 q411; obtain rfl : ad404 = ad411 := (by injection e411); obtain ⟨ce411, hce411, hMe411, hcc411⟩ := Kd.N_get HO_4.out [] x15_3 p411 (by first | exact q411 | exact of_decide_eq_true (by first | (with_reducible assumption) | assumption) | (have e_ := (Kd.N_reads' HO_4.out).1; omega)); obtain ⟨ua411_0, uc411_0, rfl, ul411_0, ge411_0⟩ := Kd.FK_slice_open hMe411; have hv411_0 := hcc411 0 _ rfl; rw [Nat.add_zero, show ((Kd.slice 2 (Kd.int .i64))).sz = 1 from rfl, Nat.mul_one] at hv411_0; replace hv411_0 := Option.some.inj (hv411_0.symm.trans hx411_0); injection hv411_0 with hva_ hvn_ hvc_; rw [hva_] at ge411_0; rw [hvc_] at ul411_0; have HL411_0 := Aside0.mk (show Kd.V (Kd.int .i64) 2 _ w.heap.size _ _ (rd_L1 t380 x15_3) from Kd.V_mk ul411_0 ge411_0); clear hva_ hvn_ hvc_ ge411_0 ul411_0; clear hcc411 hce411; have HR411_0 := Aside0.mk hi411_0; have HC411_0 := Aside0.mk hl411_0; clear hi411_0 hl411_0; replace p411 := eq_true p411; replace q411 := eq_true q411; have ea_ := Option.some.inj (hx404_0.symm.trans hx411_0); injection ea_ with ea_ en_ ec_; subst ea_; subst ec_; clear en_; have p412 : 0 ≤ (t405 : Int) := of_decide_eq_true (by first | (with_reducible assumption) | assumption); have q412 : t405 < ((rd_L1 t380 x15_3).length : Int) := of_decide_eq_true (by first | (with_reducible assumption) | assumption); obtain ⟨ad412, e412, hx412_0⟩ := Kd.at_int (by repeat (first | (with_reducible exact HR411_0.out) | (with_reducible refine Kd.C_alloc ?_ _) | (with_reducible refine Kd.C_drewN ?_ _) | (with_reducible refine Kd.C_drew ?_) | exact HR411_0.out)) t405 p412 q412; cases e412; replace p412 := eq_true p412; replace q412 := eq_true q412; have p413 : 0 ≤ (x15_3 : Int) := of_decide_eq_true (by first | (with_reducible assumption) | assumption); have q413 : x15_3 < (t380.length : Int) := of_decide_eq_true (by first | (with_reducible assumption) | assumption); obtain ⟨ad413, A413_0, c413_0, e413, hx413_0, hl413_0, hi413_0⟩ := at_L1 (Kd.N_reads' HO_4.out).2.2 x15_3 p413 q413; obtain rfl : ad404 = ad413 := (by injection e413); obtain ⟨ce413, hce413, hMe413, hcc413⟩ := Kd.N_get HO_4.out [] x15_3 p413 (by first | exact q413 | exact of_decide_eq_true (by first | (with_reducible assumption) | assumption) | (have e_ := (Kd.N_reads' HO_4.out).1; omega)); obtain ⟨ua413_0, uc413_0, rfl, ul413_0, ge413_0⟩ := Kd.FK_slice_open hMe413; have hv413_0 := hcc413 0 _ rfl; rw [Nat.add_zero, show ((Kd.slice 2 (Kd.int .i64))).sz = 1 from rfl, Nat.mul_one] at hv413_0; replace hv413_0 := Option.some.inj (hv413_0.symm.trans hx413_0); injection hv413_0 with hva_ hvn_ hvc_; rw [hva_] at ge413_0; rw [hvc_] at ul413_0; have HL413_0 := Aside0.mk (show Kd.V (Kd.int .i64) 2 _ w.heap.size _ _ (rd_L1 t380 x15_3) from Kd.V_mk ul413_0 ge413_0); clear hva_ hvn_ hvc_ ge413_0 ul413_0; clear hcc413 hce413; have HR413_0 := Aside0.mk hi413_0; have HC413_0 := Aside0.mk hl413_0; clear hi413_0 hl413_0; replace p413 := eq_true p413; replace q413 := eq_true q413; have ea_ := Option.some.inj (hx404_0.symm.trans hx413_0); injection ea_ with ea_ en_ ec_; subst ea_; subst ec_; clear en_; have p414 : 0 ≤ (x7_1 : Int) := of_decide_eq_true (by first | (with_reducible assumption) | assumption); have q414 : x7_1 < ((rd_L1 t380 x15_3).length : Int) := of_decide_eq_true (by first | (with_reducible assumption) | assumption); obtain ⟨ad414, e414, hx414_0⟩ := Kd.at_int (by repeat (first | (with_reducible exact HR413_0.out) | (with_reducible refine Kd.C_alloc ?_ _) | (with_reducible refine Kd.C_drewN ?_ _) | (with_reducible refine Kd.C_drew ?_) | exact HR413_0.out)) x7_1 p414 q414; cases e414; replace p414 := eq_true p414; replace q414 := eq_true q414))
                          try go_wp2_with (fail)
                          have c42b9 := c42b0; simp only [← i64_w] at c42b9; (refine wp_region_quiet_lit (by kernel_rfl) (by kernel_rfl) ?_)
                          repeat (first | go_big_quiet_step (first | (go_at_call 32; (try simp only [i64_w]); (with_reducible refine (petrinetref08_times.calls k3 (wrap64 (Int.tdiv x8_2 (wrap64 (Int.tdiv (rd (rd_L1 t380 x15_3) t405) t410)))) (wrap64 (-(wrap64 (Int.tdiv (rd (rd_L1 t380 x15_3) x7_1) t410)))) t415 false _ A43.out).mono ?_); rintro e w' ⟨rfl, ⟨nd, rfl⟩⟩; (try first | exact ⟨rfl, _, World.drewN_drewN _ _ _⟩ | exact ⟨rfl, _, Eq.trans (World.drewN_drewN _ _ _) (congrArg (World.drewN _) (Nat.add_assoc _ _ _))⟩))) | (go_big_quiet_want; go_simp; go_big_quiet_on))
                          refine wpQuiet_nil ?_
                          intro _ hw'
                          obtain ⟨nq, hw''⟩ := hw'
                          subst hw''; clear c42b9
                          try go_wp2_with (fail)
                          go_ret2
                          exact ⟨_, by first | rfl | (simp [errW_none, errW_some] <;> rfl) | (simp [*, errW_none, errW_some] <;> rfl), by first | exact Kd.S_nil _ _ _ _ _ | exact Kd.N_nil _ _ _ _ _ | exact Kd.V_nil _ _ _ _ _ | exact Kd.Q_nil _ _ _ _ _ | exact Kd.R_nil _ _ _ _ _, by repeat (first | (with_reducible first | exact HB.out | apply below_alloc | apply pw_below_drewN | apply below_drew1) | exact HB.out)⟩
                      ·
                       rw [if_neg c39] at H; (exact absurd H (by simp))
                     ·
                      rw [if_neg c38] at H; (exact absurd H (by simp))
                    ·
                     rw [if_neg c37] at H; (exact absurd H (by simp))
                   ·
                    rw [if_neg c36] at H; (exact absurd H (by simp))
                  ·
                   rw [if_neg c34] at H; (exact absurd H (by simp))
                 ·
                  rw [if_neg c33] at H; have c33b0 : decide (x15_3 < (t380.length : Int)) = false := decide_eq_false c33; clear c33; by_cases c49 : x6_1.length < 5864062014805
                  ·
                   rw [if_pos c49] at H; have LMc49 := Aside0.mk c49; clear c49; obtain ⟨y401, hy401⟩ : ∃ y_ : List (List Int), y_ = (x6_1 ++ [x14_3]) := ⟨_, rfl⟩; (replace H : (petrinetref08_Kernel.l0 k3 l0 t380 y401 (wrap64 (x7_1 + 1))) = some (r1, r2) := by first | (rw [hy401]; with_reducible exact H) | (have H2_ := (Option.bind_some _ _).symm.trans H; rw [hy401]; with_reducible exact H2_) | (have H2_ := (Option.bind_some _ _).symm.trans H; with_reducible exact H2_) | with_reducible exact H | (rw [hy401]; exact H) | exact H); have Ny401 := Aside0.mk hy401; clear hy401; have H' := Aside0.mk H; clear H
                   go_wp2_with (first | ((with_reducible refine gate_builtin (b := .append) (xs := #[.tmp 146, .tmp 148]) rfl ?_); at_builtin; refine Kd.N_append (Kd.slice 2 (Kd.int .i64)) (w0 := w) w.heap.size rfl (.tmp 146) (.tmp 148) 22 33 (.slice none 0 0) 24 rfl Try.underlying22 info33 rfl (by decide) (by omega) u6 x6_1 x14_3 [.slice (some ⟨go28, 0, none⟩) x14_3.length co28] (fun k_ => (w.heap.size ≤ k_) ∧ some k_ ≠ (.slice Ao9 t380.length co9 : Value).ownBlock) (fun k_ => ((fun k_ => (w.heap.size ≤ k_) ∧ some k_ ≠ (.slice Ao9 t380.length co9 : Value).ownBlock)) k_ ∧ some k_ ≠ (u6 : Value).ownBlock) rfl rfl ?aP (fun _ hk => hk) ?aF ?aO ?aB ?aS ?aL ?_; (case aP => exact (Kd.FK_slice_mk (Kd.R_reads' (Kd.R_mono (ok' := (fun k_ => ((fun k_ => (w.heap.size ≤ k_) ∧ some k_ ≠ (.slice Ao9 t380.length co9 : Value).ownBlock)) k_ ∧ some k_ ≠ (u6 : Value).ownBlock)) (Kd.R_apart' (Kd.R_apart' (HO_14.out) (Kd.N_typed HO_4.out) (by decide)) (Kd.N_typed HO_6.out) (by decide)) (fun k_ hk => ⟨⟨hk.1.1, hk.1.2⟩, hk.2⟩))).2.1 (Kd.R_F (Kd.R_mono (ok' := (fun k_ => ((fun k_ => (w.heap.size ≤ k_) ∧ some k_ ≠ (.slice Ao9 t380.length co9 : Value).ownBlock)) k_ ∧ some k_ ≠ (u6 : Value).ownBlock)) (Kd.R_apart' (Kd.R_apart' (HO_14.out) (Kd.N_typed HO_4.out) (by decide)) (Kd.N_typed HO_6.out) (by decide)) (fun k_ hk => ⟨⟨hk.1.1, hk.1.2⟩, hk.2⟩))))); (case aB => exact (by repeat (first | (with_reducible first | exact HB.out | apply below_alloc | apply pw_below_drewN | apply below_drew1) | exact HB.out))); (case aF => exact (fun k_ hk => ⟨(Nat.le_trans (below_size (by repeat (first | (with_reducible first | exact HB.out | apply below_alloc | apply pw_below_drewN | apply below_drew1) | exact HB.out))) hk), Kd.fresh' (Kd.N_lt (by (with_reducible repeat (first | apply Kd.N_alloc | apply Kd.N_drewN | apply Kd.N_drew)); exact HO_4.out)) k_ hk⟩)); (case aO => exact (by (with_reducible repeat (first | apply Kd.N_alloc | apply Kd.N_drewN | apply Kd.N_drew)); exact Kd.N_mono HO_6.out (fun _ hk => ⟨hk.1, hk.2.1⟩))); (case aS => exact (below_size (by repeat (first | (with_reducible first | exact HB.out | apply below_alloc | apply pw_below_drewN | apply below_drew1) | exact HB.out)))); (case aL => have := LMc49.out; omega); intro v402 w50 ho hb hg hat; rw [← Ny401.out] at ho; have n0_ := Aside0.mk (Kd.N_afterv (ok := (fun k_ => (w.heap.size ≤ k_) ∧ some k_ ≠ (.slice (some ⟨go28, 0, none⟩) x14_3.length co28 : Value).ownBlock)) (by (with_reducible repeat (first | apply Kd.N_alloc | apply Kd.N_drewN | apply Kd.N_drew)); exact Kd.N_mono HO_4.out (fun _ hk => ⟨⟨hk.1, hk.2.2⟩, hk.2.1⟩)) hg hat); have n1_ := Aside0.mk (hb); have n2_ := Aside0.mk (ho); clear HO_4; clear HB; clear HO_6; clear HO_14; have HO_4 := n0_; have HB := n1_; have HO403 := n2_; clear n0_ n1_ n2_; clear ho hb hg hat))
                   (try simp only [← hl14_3])
                   go_roundg k3
                   case measure => have := HK1.out; have := HK2.out; have := HK3.out; omega
                   case rel => exact ⟨(y401), (wrap64 (x7_1 + 1)), (by first | rfl | (simp; done) | (simp [*]; done)), H', ⟨by have := HK1.out; have := HK2.out; have := HK3.out; omega⟩, ⟨by (try simp only [hl14_3]); (with_reducible repeat (first | apply Kd.N_alloc | apply Kd.N_drewN | apply Kd.N_drew)); exact Kd.N_mono HO_4.out (fun _ hk => ⟨hk.1.1, hk.2⟩)⟩, ⟨by (try simp only [hl14_3]); (with_reducible repeat (first | apply Kd.N_alloc | apply Kd.N_drewN | apply Kd.N_drew)); exact HO403.out⟩, ⟨by repeat (first | (with_reducible first | exact HB.out | apply below_alloc | apply pw_below_drewN | apply below_drew1) | exact HB.out)⟩⟩
                  ·
                   rw [if_neg c49] at H; (exact absurd H (by simp))
              ·
               rw [if_neg c27] at H; (exact absurd H (by simp))
             ·
              rw [if_neg c26] at H; (exact absurd H (by simp))
            ·
             rw [if_neg c25] at H; (exact absurd H (by simp))
           ·
            rw [if_neg c24] at H; (exact absurd H (by simp))
          ·
           rw [if_neg c23] at H; (exact absurd H (by simp))
      ·
       replace c8 := Bool.eq_false_iff.mpr c8; subst c8; (have H1 : (petrinetref08_Kernel.l0 k1 l0 t380 x6_1 (wrap64 (x7_1 + 1))) = some (r1, r2) := by rw [if_neg (show ¬ (false = true) by decide)] at H; exact H); clear H; have H := H1; clear H1; have H' := Aside0.mk H; clear H; (have p384 : 0 ≤ (0 : Int) := (by omega)); (have q384 : 0 < (l0.length : Int) := of_decide_eq_true (by first | (with_reducible assumption) | assumption)); obtain ⟨ad384, A384_0, c384_0, e384, hx384_0, hl384_0, hi384_0⟩ := at_L1 HR0.out 0 p384 q384
       cases e384
       (have qi384 : (0 < l0.length) = True := eq_true (by omega)); (try rw [show ((0 : Int)).toNat = 0 from rfl] at hx384_0); (try rw [Addr.add_zero'] at hx384_0); replace hx384_0 := (HB.out.cell (World.block_lt_of_cell? w _ hx384_0)).trans hx384_0; have HR384_0 := Aside0.mk hi384_0; have HC384_0 := Aside0.mk hl384_0; clear hi384_0 hl384_0; replace p384 := eq_true p384; replace q384 := eq_true q384; obtain ⟨Ao51, co51, eo51⟩ := Kd.N_slice HO_4.out; subst eo51
       go_wp2_with (first | (go_at_call 29; (with_reducible refine (petrinetref08_free.calls k1 _ _ t380 x7_1 false _ ?side1 ?side2 A7.out).mono ?_); (case side1 => repeat (first | exact (Kd.N_reads' HO_4.out).2.2 | (with_reducible refine Kd.C_alloc ?_ _) | (with_reducible refine Kd.C_drewN ?_ _) | (with_reducible refine Kd.C_drew ?_))); (case side2 => exact (Kd.N_reads' HO_4.out).2.1); rintro e w' ⟨rfl, ⟨nd, rfl⟩⟩; (try first | exact ⟨rfl, _, World.drewN_drewN _ _ _⟩ | exact ⟨rfl, _, Eq.trans (World.drewN_drewN _ _ _) (congrArg (World.drewN _) (Nat.add_assoc _ _ _))⟩)))
       go_roundg k1
       case measure => have := HK1.out; omega
       case rel => exact ⟨(x6_1), (wrap64 (x7_1 + 1)), (by first | rfl | (simp; done) | (simp [*]; done)), H', ⟨by have := HK1.out; omega⟩, ⟨by (with_reducible repeat (first | apply Kd.N_alloc | apply Kd.N_drewN | apply Kd.N_drew)); exact HO_4.out⟩, ⟨by (with_reducible repeat (first | apply Kd.N_alloc | apply Kd.N_drewN | apply Kd.N_drew)); exact HO_6.out⟩, ⟨by repeat (first | (with_reducible first | exact HB.out | apply below_alloc | apply pw_below_drewN | apply below_drew1) | exact HB.out)⟩⟩
     ·
      rw [if_neg c6] at H; have c6b0 : decide (x7_1 < ((rd_L1 l0 0).length : Int)) = false := decide_eq_false c6; clear c6; simp only [Option.some.injEq, Prod.mk.injEq] at H; obtain ⟨rfl, rfl⟩ := H; (have p384 : 0 ≤ (0 : Int) := (by omega)); (have q384 : 0 < (l0.length : Int) := of_decide_eq_true (by first | (with_reducible assumption) | assumption)); obtain ⟨ad384, A384_0, c384_0, e384, hx384_0, hl384_0, hi384_0⟩ := at_L1 HR0.out 0 p384 q384
      cases e384
      (have qi384 : (0 < l0.length) = True := eq_true (by omega)); (try rw [show ((0 : Int)).toNat = 0 from rfl] at hx384_0); (try rw [Addr.add_zero'] at hx384_0); replace hx384_0 := (HB.out.cell (World.block_lt_of_cell? w _ hx384_0)).trans hx384_0; have HR384_0 := Aside0.mk hi384_0; have HC384_0 := Aside0.mk hl384_0; clear hi384_0 hl384_0; replace p384 := eq_true p384; replace q384 := eq_true q384
      go_wp2
      go_ret2
      exact ⟨_, by first | rfl | (simp [errW_none, errW_some] <;> rfl) | (simp [*, errW_none, errW_some] <;> rfl), by (with_reducible repeat (first | apply Kd.N_alloc | apply Kd.N_drewN | apply Kd.N_drew)); exact Kd.N_mono HO_6.out (fun _ hk => hk.1), by repeat (first | (with_reducible first | exact HB.out | apply below_alloc | apply pw_below_drewN | apply below_drew1) | exact HB.out)⟩
    ·
     rw [if_neg c5] at H; (exact absurd H (by simp))
 ·
  replace c3 := Bool.eq_false_iff.mpr c3; subst c3; (have H1 : (some (([] : List (List Int)), false)) = some (r1, r2) := by rw [if_neg (show ¬ (false = true) by decide)] at H; exact H); clear H; have H := H1; clear H1; simp only [Option.some.injEq, Prod.mk.injEq] at H; obtain ⟨rfl, rfl⟩ := H
  go_enter Try.func13, Try.ntmps13
  go_wp2_with (first | (go_at_call 17; (with_reducible refine (petrinetref08_Echelon.calls k _ _ l0 t380 false _ ?side1 ?side2 A2.out).mono ?_); (case side1 => repeat (first | exact HR0.out | (with_reducible refine Kd.C_alloc ?_ _) | (with_reducible refine Kd.C_drewN ?_ _) | (with_reducible refine Kd.C_drew ?_))); (case side2 => exact HC0.out); rintro e w52 ⟨v381, rfl, ho0, hb⟩; have n0_ := Aside0.mk (Kd.N_lower (Kd.N_mono (ok' := fun k_ => (w.heap.size ≤ k_)) ho0 (fun k_ hk_ => (Nat.le_trans (below_size (by repeat (first | (with_reducible first | exact HB.out | apply below_alloc | apply pw_below_drewN | apply below_drew1) | exact HB.out))) hk_))) (below_size (by repeat (first | (with_reducible first | exact HB.out | apply below_alloc | apply pw_below_drewN | apply below_drew1) | exact HB.out)))); have n1_ := Aside0.mk (below_step (by repeat (first | (with_reducible first | exact HB.out | apply below_alloc | apply pw_below_drewN | apply below_drew1) | exact HB.out)) hb); clear HB; have HO382 := n0_; have HB := n1_; clear n0_ n1_; (try clear hb); (try clear hb2); (try clear hk); (try clear hi); (try clear ho0)))
  go_ret2
  exact ⟨_, by first | rfl | (simp [errW_none, errW_some] <;> rfl) | (simp [*, errW_none, errW_some] <;> rfl), by first | exact Kd.S_nil _ _ _ _ _ | exact Kd.N_nil _ _ _ _ _ | exact Kd.V_nil _ _ _ _ _ | exact Kd.Q_nil _ _ _ _ _ | exact Kd.R_nil _ _ _ _ _, by repeat (first | (with_reducible first | exact HB.out | apply below_alloc | apply pw_below_drewN | apply below_drew1) | exact HB.out)⟩
end Go.Proofs.Ytckefohfahphpaa.Z
end
section
namespace Go.Proofs.Ytckefohfahphpaa.Z
open Go.RowKit Go.Proofs.YtckefohfahphpaaW.PrintWords Go.Proofs.YtckefohfahphpaaW.PrintLast Go.Proofs.YtckefohfahphpaaW.PrintMore
structure RK (a E : List (List Int)) (p : Nat → Nat) (n : Nat) : Prop where
 n64 : n ≤ 64
 len : E.length ≤ n
 row : ∀ j : Nat, j < E.length → nlr n (rd_L1 E (j : Int))
 pn : ∀ j, j < E.length → p j < n
 pos : ∀ j, j < E.length → 0 < rowsV E j (p j)
 ld : ∀ j, j < E.length → ∀ x, x < p j → rowsV E j x = 0
 inc : ∀ i j, i < j → j < E.length → p i < p j
theorem Outc.rk {a E : List (List Int)} {p : Nat → Nat} {n : Nat} (hn : n ≤ 64) (h : Outc a n E p) : RK a E p n :=
 ⟨hn, h.len, fun j hj => h.ok _ (rdL_mem (by omega) (by omega)), h.pn, fun j hj => (h.fn.pr j hj).2, fun j hj x hx => h.fn.red.ld (p j, rowsV E j) (mem_pairs.mpr ⟨j, hj, rfl⟩) x hx, fun i j h1 h2 => h.fn.inc h1 h2⟩
theorem rpivot_eq {a E : List (List Int)} {p : Nat → Nat} {n j : Nat} (h : RK a E p n) (hj : j < E.length) {k : Nat} (hk : 100 ≤ k) : petrinetref08_pivot.f k (rd_L1 E (j : Int)) = some (p j : Int) := by
 have hn := h.n64
 have hl := (h.row j hj).1
 have hp := h.pn j hj
 have key : ∀ (d i k : Nat), i + d = p j → d + 1 ≤ k → petrinetref08_pivot.l0 k (rd_L1 E (j : Int)) (i : Int) = some (p j : Int) := by
  intro d
  induction d with
  | zero =>
   intro i k hi hk
   obtain ⟨k, rfl⟩ : ∃ z, k = z + 1 := ⟨k - 1, by omega⟩
   have hne : vec (rd_L1 E (j : Int)) (p j) ≠ 0 := by
    have h1 : 0 < vec (rd_L1 E (j : Int)) (p j) := h.pos j hj
    omega
   have e : i = p j := by omega
   subst e
   rw [petrinetref08_pivot.l0, if_pos (by omega), if_pos (by omega), rd_vec, if_neg hne]
  | succ d ih =>
   intro i k hi hk
   obtain ⟨k, rfl⟩ : ∃ z, k = z + 1 := ⟨k - 1, by omega⟩
   have h0 : vec (rd_L1 E (j : Int)) i = 0 := h.ld j hj i (by omega)
   rw [petrinetref08_pivot.l0, if_pos (by omega), if_pos (by omega), rd_vec, if_pos h0, wsucc (by omega)]
   exact ih (i + 1) k (by omega) (by omega)
 exact key (p j) 0 k (by omega) (by omega)
theorem rfree_eq {a E : List (List Int)} {p : Nat → Nat} {n f : Nat} (h : RK a E p n) {k : Nat} (hk : 300 ≤ k) : ∃ b, petrinetref08_free.f k E (f : Int) = some b ∧ (b = true → ∀ j, j < E.length → p j ≠ f) ∧ (b = false → ∃ j, j < E.length ∧ p j = f) := by
 have hn := h.n64
 have hl := h.len
 have key : ∀ (d i k : Nat), i + d = E.length → 100 + d + 1 ≤ k → (∀ j, j < i → p j ≠ f) → ∃ b, petrinetref08_free.l0 k E (f : Int) (i : Int) = some b ∧ (b = true → ∀ j, j < E.length → p j ≠ f) ∧ (b = false → ∃ j, j < E.length ∧ p j = f) := by
  intro d
  induction d with
  | zero =>
   intro i k hi hk hb
   obtain ⟨k, rfl⟩ : ∃ z, k = z + 1 := ⟨k - 1, by omega⟩
   rw [petrinetref08_free.l0, if_neg (by omega)]
   exact ⟨true, rfl, fun _ j hj => hb j (by omega), (fun h => by cases h)⟩
  | succ d ih =>
   intro i k hi hk hb
   obtain ⟨k, rfl⟩ : ∃ z, k = z + 1 := ⟨k - 1, by omega⟩
   rw [petrinetref08_free.l0, if_pos (by omega), if_pos (by omega), rpivot_eq h (by omega) (by omega)]
   simp only [Option.bind_some]
   by_cases e : p i = f
   ·
    rw [if_pos (by omega)]
    exact ⟨false, rfl, (fun h => by cases h), fun _ => ⟨i, by omega, e⟩⟩
   ·
    rw [if_neg (by omega), wsucc (by omega)]
    refine ih (i + 1) k (by omega) (by omega) fun j hj => ?_
    by_cases e' : j = i
    ·
     rw [e']; exact e
    ·
     exact hb j (by omega)
 exact key E.length 0 k (by omega) (by omega) fun j hj => by omega
theorem rkfill {a x0 E acc : List (List Int)} {p : Nat → Nat} {n f Bk : Nat} {s : Int} (h : RK a E p n) (hB : Lots Bk) (hf : f < n) (hs : 0 < s) (hs' : s ≤ 9223372036854775807) (hdd : DD E p f s) (hacc : acc.length ≤ 100) :
  ∀ (d i k : Nat) (out : List Int), i + d = E.length → Bk + d + 1 ≤ k → okr n out →
  petrinetref08_Kernel.l2 k x0 E acc (f : Int) s out (i : Int) = some ([], false) ∨ ∃ out' k', petrinetref08_Kernel.l2 k x0 E acc (f : Int) s out (i : Int) = petrinetref08_Kernel.l0 k' x0 E (acc ++ [out']) ((f + 1 : Nat) : Int) ∧ k ≤ k' + d + 1 ∧ okr n out' ∧
   (∀ x, (∀ j, i ≤ j → j < E.length → p j ≠ x) → vec out' x = vec out x) ∧ ∀ j, i ≤ j → j < E.length → rowsV E j (p j) * vec out' (p j) = -(rowsV E j f * s) := by
 have hn := h.n64
 have hEl := h.len
 intro d
 induction d with
 | zero =>
  intro i k out hi hk ho
  obtain ⟨k, rfl⟩ : ∃ z, k = z + 1 := ⟨k - 1, by omega⟩
  right
  refine ⟨out, k, ?_, by omega, ho, fun _ _ => rfl, fun j h1 h2 => by omega⟩
  rw [petrinetref08_Kernel.l2, if_neg (by omega), if_pos (by omega), wsucc (by omega)]
 | succ d ih =>
  intro i k out hi hk ho
  obtain ⟨k, rfl⟩ : ∃ z, k = z + 1 := ⟨k - 1, by omega⟩
  have hL : Lots k := hB.le (by omega)
  have hk100 : 100 ≤ k := Nat.le_trans (by decide) hL.out
  have hk3 : 3 ≤ k := Nat.le_trans (by decide) hk100
  have hkr : Bk + d + 1 ≤ k := by omega
  clear hk
  have hiE : i < E.length := by omega
  have hid : i + 1 + d = E.length := by omega
  have hr := h.row i hiE
  have hrl := hr.1
  have hol := ho.1
  have hpi := h.pn i hiE
  have hi5 : i ≤ 100000 := by omega
  have t1 : (i : Int) < (E.length : Int) := by omega
  have t2 : (0 : Int) ≤ (i : Int) := by omega
  have t3 : (0 : Int) ≤ (p i : Int) := by omega
  have t4 : (p i : Int) < ((rd_L1 E (i : Int)).length : Int) := by omega
  have t5 : (0 : Int) ≤ (f : Int) := by omega
  have t6 : (f : Int) < ((rd_L1 E (i : Int)).length : Int) := by omega
  have t7 : (p i : Int) < (out.length : Int) := by omega
  have t8 : p i < out.length := by omega
  rw [petrinetref08_Kernel.l2, if_pos t1, if_pos t2, rpivot_eq h hiE hk100]
  simp only [Option.bind_some]
  rw [if_pos t3, if_pos t4, if_pos t5, if_pos t6, rd_vec, rd_vec, rcommon_eq (nlr_in hr (p i)) (nlr_in hr f) (Nat.le_trans (by decide) hL.out)]
  simp only [Option.bind_some]
  have hP : 0 < vec (rd_L1 E (i : Int)) (p i) := h.pos i hiE
  obtain ⟨b1, b2⟩ := nlr_in hr (p i)
  obtain ⟨b3, b4⟩ := nlr_in hr f
  have hd := hdd i hiE
  obtain ⟨P, hPe⟩ : ∃ P, P = vec (rd_L1 E (i : Int)) (p i) := ⟨_, rfl⟩
  obtain ⟨F, hFe⟩ : ∃ F, F = vec (rd_L1 E (i : Int)) f := ⟨_, rfl⟩
  have eP : rowsV E i (p i) = P := hPe.symm
  have eF : rowsV E i f = F := hFe.symm
  rw [eP, eF] at hd
  rw [← hPe] at b1 b2 hP ⊢
  rw [← hFe] at b3 b4 ⊢
  obtain ⟨g, q, m, w, h1, h2, h3, h4, h5, h6, h7, h8, h9, h10, h11, h12⟩ := fill_val hP hs hd
  have u1 : wrap64 q = q := wrap64_id ⟨by omega, by omega⟩
  have u2 : wrap64 m = m := wrap64_id ⟨by omega, by omega⟩
  have u3 : wrap64 w = w := wrap64_id ⟨by omega, by omega⟩
  have u4 : wrap64 (-m) = -m := wrap64_id ⟨by omega, by omega⟩
  have i1 : in64 w := ⟨by omega, by omega⟩
  have i2 : in64 (-m) := ⟨by omega, by omega⟩
  have hg0 : ¬ g = 0 := by omega
  have hq0 : ¬ q = 0 := by omega
  rw [← h1, if_neg hg0, ← h4, u1, if_neg hq0, ← h9, u3, ← h5, u2, u4]
  obtain ⟨z, hz1, hz2⟩ := rtimes_eq (k := k) i1 i2 hk3
  rw [hz1]
  simp only [Option.bind_some]
  by_cases hin : in64 (w * -m)
  ·
   rw [decide_eq_true hin, if_pos rfl, if_pos t7, hz2 hin, wsucc hi5]
   have hset : ∀ x, vec (out.set (p i : Int).toNat (w * -m)) x = if x = p i then w * -m else vec out x := fun x => by
    rw [show ((p i : Int)).toNat = p i from Int.toNat_natCast _]
    exact vec_set t8 x
   have hok : okr n (out.set (p i : Int).toNat (w * -m)) := ⟨by rw [List.length_set]; exact hol, fun z hz => by
    rcases List.mem_or_eq_of_mem_set hz with h | h
    ·
     exact ho.2 z h
    ·
     rw [h]; exact hin⟩
   rcases ih (i + 1) k _ hid hkr hok with r | ⟨out', k', r1, r2, r3, r4, r5⟩
   ·
    exact .inl r
   ·
    refine .inr ⟨out', k', r1, by omega, r3, fun x hx => ?_, fun j h13 h14 => ?_⟩
    ·
     rw [r4 x (fun j h13 h14 => hx j (by omega) h14), hset, if_neg fun e => hx i (Nat.le_refl _) hiE e.symm]
    ·
     by_cases e : j = i
     ·
      subst e
      rw [r4 _ (fun j' h15 h16 => by have := h.inc j j' (by omega) h16; omega), hset, if_pos rfl, eP, eF, Int.mul_comm w]
      exact h12
     ·
      exact r5 j (by omega) h14
  ·
   rw [decide_eq_false hin, if_neg (by decide)]
   exact .inl rfl
theorem rkscale {a x0 E acc : List (List Int)} {p : Nat → Nat} {n f Bk : Nat} (h : RK a E p n) (hB : Lots Bk) (hf : f < n) :
  ∀ (d i k : Nat) (s : Int), i + d = E.length → Bk + d + 1 ≤ k → 0 < s → s ≤ 9223372036854775807 → (∀ j, j < i → rowsV E j (p j) ∣ rowsV E j f * s) → (∀ t, (∀ j, j < i → rowsV E j (p j) ∣ rowsV E j f * t) → s ∣ t) →
  petrinetref08_Kernel.l1 k x0 E acc (f : Int) s (i : Int) = some ([], false) ∨ ∃ s' k', petrinetref08_Kernel.l1 k x0 E acc (f : Int) s (i : Int) = petrinetref08_Kernel.l1 (k' + 1) x0 E acc (f : Int) s' (E.length : Int) ∧ k ≤ k' + 1 + d ∧ 0 < s' ∧ s' ≤ 9223372036854775807 ∧ DD E p f s' ∧ ∀ t, DD E p f t → s' ∣ t := by
 have hn := h.n64
 have hEl := h.len
 intro d
 induction d with
 | zero =>
  intro i k s hi hk hs hs' hd hle
  obtain ⟨k, rfl⟩ : ∃ z, k = z + 1 := ⟨k - 1, by omega⟩
  have e : i = E.length := by omega
  subst e
  exact .inr ⟨s, k, rfl, by omega, hs, hs', hd, hle⟩
 | succ d ih =>
  intro i k s hi hk hs hs' hd hle
  obtain ⟨k, rfl⟩ : ∃ z, k = z + 1 := ⟨k - 1, by omega⟩
  have hL : Lots k := hB.le (by omega)
  have hk100 : 100 ≤ k := Nat.le_trans (by decide) hL.out
  have hk3 : 3 ≤ k := Nat.le_trans (by decide) hk100
  have hkr : Bk + d + 1 ≤ k := by omega
  clear hk
  have hiE : i < E.length := by omega
  have hid : i + 1 + d = E.length := by omega
  have hr := h.row i hiE
  have hrl := hr.1
  have hpi := h.pn i hiE
  have hi5 : i ≤ 100000 := by omega
  have t1 : (i : Int) < (E.length : Int) := by omega
  have t2 : (0 : Int) ≤ (i : Int) := by omega
  have t3 : (0 : Int) ≤ (p i : Int) := by omega
  have t4 : (p i : Int) < ((rd_L1 E (i : Int)).length : Int) := by omega
  have t5 : (0 : Int) ≤ (f : Int) := by omega
  have t6 : (f : Int) < ((rd_L1 E (i : Int)).length : Int) := by omega
  rw [petrinetref08_Kernel.l1, if_pos t1, if_pos t2, rpivot_eq h hiE hk100]
  simp only [Option.bind_some]
  have hkc : 9223372036854775808 ≤ k := Nat.le_trans (by decide) hL.out
  rw [if_pos t3, if_pos t4, if_pos t5, if_pos t6, rd_vec, rd_vec, rcommon_eq (nlr_in hr (p i)) (nlr_in hr f) hkc]
  simp only [Option.bind_some]
  have hP : 0 < vec (rd_L1 E (i : Int)) (p i) := h.pos i hiE
  obtain ⟨b1, b2⟩ := nlr_in hr (p i)
  obtain ⟨b3, b4⟩ := nlr_in hr f
  obtain ⟨P, hPe⟩ : ∃ P, P = vec (rd_L1 E (i : Int)) (p i) := ⟨_, rfl⟩
  obtain ⟨F, hFe⟩ : ∃ F, F = vec (rd_L1 E (i : Int)) f := ⟨_, rfl⟩
  have eP : rowsV E i (p i) = P := hPe.symm
  have eF : rowsV E i f = F := hFe.symm
  rw [← hPe] at b1 b2 hP ⊢
  rw [← hFe] at b3 b4 ⊢
  obtain ⟨g, q, m, h1, h2, h3, h4, h5, h6, h7, h8, h9, h10⟩ := quo_gcd (P := P) (F := F) hP
  have u1 : wrap64 q = q := wrap64_id ⟨by clear hkc; omega, by clear hkc; omega⟩
  have hg0 : ¬ g = 0 := by clear hkc; omega
  have nq : nl q := ⟨by clear hkc; omega, by clear hkc; omega⟩
  have ns : nl s := ⟨by clear hkc; omega, hs'⟩
  rw [← h1, if_neg hg0, ← h3, u1, rcommon_eq ns nq hkc]
  simp only [Option.bind_some]
  obtain ⟨L, e1, e2, e3, e4, e5, e6⟩ := lcm_props hs h7
  have hc0 : ¬ (Int.gcd s q : Int) = 0 := by
   have := Int.gcd_pos_of_ne_zero_left q (show s ≠ 0 by clear hkc; omega)
   clear hkc
   omega
  have t9 := tdiv_abs q (Int.gcd s q : Int)
  have u2 : wrap64 (Int.tdiv q (Int.gcd s q : Int)) = Int.tdiv q (Int.gcd s q : Int) := wrap64_id ⟨by clear hkc; omega, by clear hkc; omega⟩
  have i2 : in64 (Int.tdiv q (Int.gcd s q : Int)) := ⟨by clear hkc; omega, by clear hkc; omega⟩
  rw [if_neg hc0, u2]
  obtain ⟨z, hz1, hz2⟩ := rtimes_eq (k := k) ns.in64 i2 hk3
  rw [hz1, ← e2]
  rw [← e2] at hz2
  simp only [Option.bind_some]
  by_cases hin : in64 L
  ·
   rw [decide_eq_true hin, if_pos rfl, hz2 hin, wsucc hi5]
   have hd' : ∀ j, j < i + 1 → rowsV E j (p j) ∣ rowsV E j f * L := fun j hj => by
    by_cases e : j = i
    ·
     rw [e, eP, eF]
     exact (h10 L).mp e5
    ·
     obtain ⟨y, hy⟩ := hd j (by omega)
     obtain ⟨x, hx⟩ := e4
     exact ⟨y * x, by rw [hx, ← Int.mul_assoc, hy, Int.mul_assoc]⟩
   have hle' : ∀ t, (∀ j, j < i + 1 → rowsV E j (p j) ∣ rowsV E j f * t) → L ∣ t := fun t ht => e6 t (hle t fun j hj => ht j (by omega)) (by
    have := ht i (by omega)
    rw [eP, eF] at this
    exact (h10 t).mpr this)
   rcases ih (i + 1) k L hid hkr e3 hin.2 hd' hle' with r | ⟨s', k', r1, r2, r3⟩
   ·
    exact .inl r
   ·
    exact .inr ⟨s', k', r1, by omega, r3⟩
  ·
   rw [decide_eq_false hin, if_neg (by decide)]
   exact .inl rfl
theorem rker_l0 {a x0 E : List (List Int)} {p : Nat → Nat} {n Bk : Nat} (h : RK a E p n) (hB : Lots Bk) (hx0 : 0 < x0.length) (hx : (rd_L1 x0 0).length = n) : ∀ (d f k : Nat) (acc : List (List Int)), f + d = n → Bk + 300 * d + 300 ≤ k → acc.length ≤ f →
  petrinetref08_Kernel.l0 k x0 E acc (f : Int) = some ([], false) ∨ ∃ l, petrinetref08_Kernel.l0 k x0 E acc (f : Int) = some (acc ++ l, true) ∧ KL E p n f l := by
 have hn := h.n64
 have hEl := h.len
 intro d
 induction d with
 | zero =>
  intro f k acc hf hk hacc
  obtain ⟨k, rfl⟩ : ∃ z, k = z + 1 := ⟨k - 1, by omega⟩
  have e : f = n := by omega
  subst e
  rw [petrinetref08_Kernel.l0, if_pos (by omega), if_neg (by omega)]
  exact .inr ⟨[], by simp, .done⟩
 | succ d ih =>
  intro f k acc hf hk hacc
  obtain ⟨k, rfl⟩ : ∃ z, k = z + 1 := ⟨k - 1, by omega⟩
  have hfn : f < n := by omega
  rw [petrinetref08_Kernel.l0, if_pos (by omega), if_pos (by omega)]
  obtain ⟨b, b1, b2, b3⟩ := rfree_eq (f := f) h (k := k) (by omega)
  rw [b1]
  simp only [Option.bind_some]
  cases b with
  | false =>
   rw [if_neg (by decide), wsucc (by omega)]
   rcases ih (f + 1) k acc (by omega) (by omega) (by omega) with r | ⟨l, r1, r2⟩
   ·
    exact .inl r
   ·
    exact .inr ⟨l, r1, .skip hfn (b3 rfl) r2⟩
  | true =>
   rw [if_pos rfl]
   rcases rkscale (x0 := x0) (acc := acc) h hB hfn E.length 0 k 1 (by omega) (by omega) (by omega) (by omega) (fun j hj => by omega) (fun t _ => ⟨t, by simp⟩) with r | ⟨s, k', r1, r2, r3, r4, r5, r6⟩
   ·
    exact .inl r
   ·
    have r1' : petrinetref08_Kernel.l1 k x0 E acc (f : Int) 1 0 = petrinetref08_Kernel.l1 (k' + 1) x0 E acc (f : Int) s (E.length : Int) := r1
    rw [r1', petrinetref08_Kernel.l1, if_neg (by omega), if_pos (by omega), if_pos (by omega), hx, if_pos (by omega)]
    simp only [Option.bind_some]
    rw [if_pos (by omega), if_pos (by simp; omega), show ((n : Int)).toNat = n from Int.toNat_natCast _, show ((f : Int)).toNat = f from Int.toNat_natCast _]
    rcases rkfill (x0 := x0) (acc := acc) h hB hfn r3 r4 r5 (by omega) E.length 0 k' _ (by omega) (by omega) (start_ok (n := n) (f := f) r3 r4) with q | ⟨out, k2, q1, q2, q3, q4, q5⟩
    ·
     exact .inl q
    ·
     have q1' : petrinetref08_Kernel.l2 k' x0 E acc (f : Int) s ((List.replicate n 0).set f s) 0 = petrinetref08_Kernel.l0 k2 x0 E (acc ++ [out]) ((f + 1 : Nat) : Int) := q1
     rw [q1']
     have hk : KerV E p n f out := KerV.mk' q3 r3 r5 r6 (b2 rfl) (fun x hx => by rw [q4 x (fun j _ hj => hx j hj)]; exact start_vec hfn s x) fun j hj => q5 j (by omega) hj
     rcases ih (f + 1) k2 (acc ++ [out]) (by omega) (by omega) (by simp; omega) with r | ⟨l, c1, c2⟩
     ·
      exact .inl r
     ·
      exact .inr ⟨out :: l, by rw [c1]; simp, .take hfn (b2 rfl) hk c2⟩
theorem rker_spec {k : Nat} {a : List (List Int)} (hv : validB a = true) (ha : ∀ r ∈ a, ok64 r) (hB : 9223372036854775808 + 60000 ≤ k) : (∃ l, petrinetref08_Kernel.f k a = some (l, false)) ∨ ∃ E p l, petrinetref08_Kernel.f k a = some (l, true) ∧ Outc a (rd_L1 a 0).length E p ∧ KL E p (rd_L1 a 0).length 0 l := by
 obtain ⟨n, h1, h2, h3, h4, h5, h6⟩ := validB_iff.mp hv
 obtain ⟨r, e1, e2⟩ := rech_spec (k := k) hv ha (Nat.le_trans (by decide) hB)
 obtain ⟨Bk, hBe⟩ : ∃ z, k = z + 30000 := ⟨k - 30000, by omega⟩
 have hL : Lots Bk := ⟨by omega⟩
 clear hB
 subst hBe
 unfold petrinetref08_Kernel.f
 rw [e1]
 simp only [Option.bind_some]
 by_cases hr : r.2 = true
 ·
  rw [if_pos hr]
  obtain ⟨p, hp⟩ := e2 hr
  rw [h6] at hp ⊢
  rcases rker_l0 (hp.rk h4) hL (show 0 < a.length by omega) h6 n 0 (Bk + 30000) [] (by omega) (by omega) (by simp) with q | ⟨l, q1, q2⟩
  ·
   exact .inl ⟨[], q⟩
  ·
   exact .inr ⟨r.1, p, l, q1, hp, q2⟩
 ·
  rw [if_neg hr]
  exact .inl ⟨[], rfl⟩
end Go.Proofs.Ytckefohfahphpaa.Z
end
section
namespace Go.Proofs.Ytckefohfahphpaa.Z
open Go.RowKit Go.Proofs.YtckefohfahphpaaW.PrintWords Go.Proofs.YtckefohfahphpaaW.PrintLast Go.Proofs.YtckefohfahphpaaW.PrintMore
theorem KL.congr {E : List (List Int)} {p q : Nat → Nat} {n : Nat} (hpq : ∀ j, j < E.length → p j = q j) {f : Nat} {l : List (List Int)} (h : KL E q n f l) : KL E p n f l := by
 induction h with
 | done => exact .done
 | skip h1 h2 _ ih =>
  obtain ⟨j, hj, e⟩ := h2
  exact .skip h1 ⟨j, hj, by rw [hpq j hj, e]⟩ ih
 | take h1 h2 h3 _ ih =>
  refine .take h1 (fun j hj => by rw [hpq j hj]; exact h2 j hj) ?_ ih
  rename_i f' v' l' _
  have hd : ∀ t, DD E p f' t ↔ DD E q f' t := fun t => ⟨fun h j hj => by rw [← hpq j hj]; exact h j hj, fun h j hj => by rw [hpq j hj]; exact h j hj⟩
  exact ⟨h3.ok, h3.ps, (hd _).mpr h3.dd, fun t ht => h3.le t ((hd t).mp ht), fun j hj => by rw [hpq j hj]; exact h3.pv j hj, fun x hx hp => h3.zr x hx fun j hj => by rw [← hpq j hj]; exact hp j hj⟩
theorem KL.size {E : List (List Int)} {p : Nat → Nat} {n f : Nat} {l : List (List Int)} (h : KL E p n f l) : l.length + f ≤ n ∧ ∀ v ∈ l, ∃ g, g < n ∧ (∀ j, j < E.length → p j ≠ g) ∧ KerV E p n g v := by
 induction h with
 | done => exact ⟨by simp, fun v hv => by simp at hv⟩
 | skip h1 _ _ ih => exact ⟨by have := ih.1; omega, ih.2⟩
 | take h1 h2 h3 _ ih =>
  refine ⟨by have := ih.1; simp; omega, fun v hv => ?_⟩
  rcases List.mem_cons.mp hv with rfl | hv
  ·
   exact ⟨_, h1, h2, h3⟩
  ·
   exact ih.2 v hv
theorem KL.same {a E F : List (List Int)} {p q : Nat → Nat} {n : Nat} (hE : Outc a n E p) (hF : Outc a n F q) {l l' : List (List Int)} (h : KL E p n 0 l) (h' : KL F q n 0 l') : l = l' := by
 have e := hE.same hF
 subst e
 obtain ⟨_, h2⟩ := hE.fn.uniq hF.fn (fun v hv => .mem hv) (fun v hv => .mem hv)
 exact h.uniq (fun j hj => by have := (hE.fn.pr j hj).2; omega) (h'.congr fun j hj => (h2 j hj).1)
end Go.Proofs.Ytckefohfahphpaa.Z
end
section
namespace Go.Proofs.Ytckefohfahphpaa.Z
open Go.RowKit Go.Proofs.YtckefohfahphpaaW.PrintWords Go.Proofs.YtckefohfahphpaaW.PrintLast Go.Proofs.YtckefohfahphpaaW.PrintMore
attribute [local go_sem] max2_int min2_int max_two min_two max_three min_three max_four min_four
def petrinetlaw08_MatrixKernels.f (k : Nat) (l0 : List (List Int)) : Option (Bool) := (matrix_Kernel.f k l0).bind fun bt417 => ((petrinetref08_Valid.f k l0).bind fun t421 => (if t421 = true then (if bt417.2 = 0 then ((petrinetref08_Kernel.f k l0).bind fun bt423 => (if bt423.2 = true then ((petrinetref08_Same.f k bt417.1 bt423.1).bind fun t427 => (if t427 = true then ((petrinetlaw08_exampleHolds.f k).bind fun t428 => (some t428)) else (none))) else ((petrinetlaw08_exampleHolds.f k).bind fun t429 => (some t429)))) else (if bt417.2 = 3 then ((petrinetref08_Small.f k l0).bind fun t430 => (if t430 = true then (none) else (if (bt417.1.length : Int) = 0 then ((petrinetlaw08_exampleHolds.f k).bind fun t431 => (some t431)) else (none)))) else (none))) else (if bt417.2 = 2 then (if (bt417.1.length : Int) = 0 then ((petrinetlaw08_exampleHolds.f k).bind fun t422 => (some t422)) else (none)) else (none))))
theorem petrinetlaw08_MatrixKernels.mono : ∀ a0 k, LeO (petrinetlaw08_MatrixKernels.f k a0) (petrinetlaw08_MatrixKernels.f (k + 1) a0) := by
 intro a0 k
 unfold petrinetlaw08_MatrixKernels.f
 repeat' first
   | (with_reducible exact matrix_Kernel.mono _ _)
   | (with_reducible exact petrinetlaw08_exampleHolds.mono _)
   | (with_reducible exact petrinetref08_Kernel.mono _ _)
   | (with_reducible exact petrinetref08_Same.mono _ _ _)
   | (with_reducible exact petrinetref08_Small.mono _ _)
   | (with_reducible exact petrinetref08_Valid.mono _ _)
   | (with_reducible exact LeO.refl _)
   | (with_reducible exact LeO.none _)
   | (with_reducible refine LeO.ite ?_ ?_)
   | (with_reducible refine LeO.bind ?_ (fun _ => ?_))
   | exact matrix_Kernel.mono _ _
   | exact petrinetlaw08_exampleHolds.mono _
   | exact petrinetref08_Kernel.mono _ _
   | exact petrinetref08_Same.mono _ _ _
   | exact petrinetref08_Small.mono _ _
   | exact petrinetref08_Valid.mono _ _
   | exact LeO.none _
   | refine LeO.ite ?_ ?_
   | refine LeO.bind ?_ (fun _ => ?_)
set_option maxHeartbeats 8000000 in
set_option maxRecDepth 100000 in
theorem petrinetlaw08_MatrixKernels.calls (k : Nat) (A0 : Option Addr) (c0 : Nat) (l0 : List (List Int)) (r : Bool) (w : World) (hr0 : Kd.C (Kd.slice 2 (Kd.int .i64)) w A0 l0.length l0) (hc0 : l0.length ≤ c0) (h : petrinetlaw08_MatrixKernels.f k l0 = some r) :
  Calls Try.prog 3 #[.slice A0 l0.length c0] w fun e w' => e = .returned (.bool r) ∧ Below w.heap.size w w' := by
 have HR0 := Aside0.mk hr0
 have HC0 := Aside0.mk hc0
 clear hr0 hc0
 have HB := Aside0.mk (Below.refl w.heap.size w)
 have H : ((matrix_Kernel.f k l0).bind fun bt417 => ((petrinetref08_Valid.f k l0).bind fun t421 => (if t421 = true then (if bt417.2 = 0 then ((petrinetref08_Kernel.f k l0).bind fun bt423 => (if bt423.2 = true then ((petrinetref08_Same.f k bt417.1 bt423.1).bind fun t427 => (if t427 = true then ((petrinetlaw08_exampleHolds.f k).bind fun t428 => (some t428)) else (none))) else ((petrinetlaw08_exampleHolds.f k).bind fun t429 => (some t429)))) else (if bt417.2 = 3 then ((petrinetref08_Small.f k l0).bind fun t430 => (if t430 = true then (none) else (if (bt417.1.length : Int) = 0 then ((petrinetlaw08_exampleHolds.f k).bind fun t431 => (some t431)) else (none)))) else (none))) else (if bt417.2 = 2 then (if (bt417.1.length : Int) = 0 then ((petrinetlaw08_exampleHolds.f k).bind fun t422 => (some t422)) else (none)) else (none))))) = some r := h
 clear h
 replace H := Option.bind_eq_some_iff.mp H
 obtain ⟨⟨t417, t420⟩, A20, H⟩ := H
 replace H : ((petrinetref08_Valid.f k l0).bind fun t421 => (if t421 = true then (if t420 = 0 then ((petrinetref08_Kernel.f k l0).bind fun bt423 => (if bt423.2 = true then ((petrinetref08_Same.f k t417 bt423.1).bind fun t427 => (if t427 = true then ((petrinetlaw08_exampleHolds.f k).bind fun t428 => (some t428)) else (none))) else ((petrinetlaw08_exampleHolds.f k).bind fun t429 => (some t429)))) else (if t420 = 3 then ((petrinetref08_Small.f k l0).bind fun t430 => (if t430 = true then (none) else (if (t417.length : Int) = 0 then ((petrinetlaw08_exampleHolds.f k).bind fun t431 => (some t431)) else (none)))) else (none))) else (if t420 = 2 then (if (t417.length : Int) = 0 then ((petrinetlaw08_exampleHolds.f k).bind fun t422 => (some t422)) else (none)) else (none)))) = some r := H
 have A2 := Aside0.mk A20
 clear A20
 replace H := Option.bind_eq_some_iff.mp H
 obtain ⟨t421, A30, H⟩ := H
 replace H : (if t421 = true then (if t420 = 0 then ((petrinetref08_Kernel.f k l0).bind fun bt423 => (if bt423.2 = true then ((petrinetref08_Same.f k t417 bt423.1).bind fun t427 => (if t427 = true then ((petrinetlaw08_exampleHolds.f k).bind fun t428 => (some t428)) else (none))) else ((petrinetlaw08_exampleHolds.f k).bind fun t429 => (some t429)))) else (if t420 = 3 then ((petrinetref08_Small.f k l0).bind fun t430 => (if t430 = true then (none) else (if (t417.length : Int) = 0 then ((petrinetlaw08_exampleHolds.f k).bind fun t431 => (some t431)) else (none)))) else (none))) else (if t420 = 2 then (if (t417.length : Int) = 0 then ((petrinetlaw08_exampleHolds.f k).bind fun t422 => (some t422)) else (none)) else (none))) = some r := H
 have A3 := Aside0.mk A30
 clear A30
 by_cases c4 : t421 = true
 ·
  subst c4; (have H1 : (if t420 = 0 then ((petrinetref08_Kernel.f k l0).bind fun bt423 => (if bt423.2 = true then ((petrinetref08_Same.f k t417 bt423.1).bind fun t427 => (if t427 = true then ((petrinetlaw08_exampleHolds.f k).bind fun t428 => (some t428)) else (none))) else ((petrinetlaw08_exampleHolds.f k).bind fun t429 => (some t429)))) else (if t420 = 3 then ((petrinetref08_Small.f k l0).bind fun t430 => (if t430 = true then (none) else (if (t417.length : Int) = 0 then ((petrinetlaw08_exampleHolds.f k).bind fun t431 => (some t431)) else (none)))) else (none))) = some r := by rw [if_pos rfl] at H; exact H); clear H; have H := H1; clear H1; by_cases c5 : t420 = 0
  ·
   rw [if_pos c5] at H; have c5b0 : (t420 == 0) = true := beq_iff_eq.mpr c5; have c5b1 : (t420 != 0) = false := bne_eq_false_iff_eq.mpr c5; clear c5; replace H := Option.bind_eq_some_iff.mp H; obtain ⟨⟨t423, t426⟩, A60, H⟩ := H; (replace H : (if t426 = true then ((petrinetref08_Same.f k t417 t423).bind fun t427 => (if t427 = true then ((petrinetlaw08_exampleHolds.f k).bind fun t428 => (some t428)) else (none))) else ((petrinetlaw08_exampleHolds.f k).bind fun t429 => (some t429))) = some r := H); have A6 := Aside0.mk A60; clear A60; by_cases c7 : t426 = true
   ·
    subst c7; (have H1 : ((petrinetref08_Same.f k t417 t423).bind fun t427 => (if t427 = true then ((petrinetlaw08_exampleHolds.f k).bind fun t428 => (some t428)) else (none))) = some r := by rw [if_pos rfl] at H; exact H); clear H; have H := H1; clear H1; replace H := Option.bind_eq_some_iff.mp H; obtain ⟨t427, A80, H⟩ := H; (replace H : (if t427 = true then ((petrinetlaw08_exampleHolds.f k).bind fun t428 => (some t428)) else (none)) = some r := H); have A8 := Aside0.mk A80; clear A80; by_cases c9 : t427 = true
    ·
     subst c9; (have H1 : ((petrinetlaw08_exampleHolds.f k).bind fun t428 => (some t428)) = some r := by rw [if_pos rfl] at H; exact H); clear H; have H := H1; clear H1; replace H := Option.bind_eq_some_iff.mp H; obtain ⟨t428, A100, H⟩ := H; replace H : (some t428) = some r := H; have A10 := Aside0.mk A100; clear A100; obtain rfl := Option.some.inj H
     go_enter Try.func3, Try.ntmps3
     (go_wp2_with (first | ((with_reducible refine gate_callee (f := 9) rfl ?_); refine goesL_ (some 9) rfl rfl Try.func9 (by kernel_rfl) rfl #[.slice A0 l0.length c0] rfl (by (try simp only [List.map_toArray, List.map_cons, List.map_nil]); first | done | rfl | (simp only [List.length_drop, List.length_take]; rfl)) ?_; (with_reducible refine (matrix_Kernel.calls k _ _ l0 t417 t420 _ ?side1 ?side2 A2.out).mono ?_); (case side1 => repeat (first | exact HR0.out | (with_reducible refine Kd.C_alloc ?_ _) | (with_reducible refine Kd.C_drewN ?_ _) | (with_reducible refine Kd.C_drew ?_))); (case side2 => exact HC0.out); rintro e w11 ⟨v418, rfl, ho0, hb⟩; refine ⟨_, rfl, ?_⟩; have n0_ := Aside0.mk (Kd.N_lower (Kd.N_mono (ok' := fun k_ => True) ho0 (fun k_ hk_ => trivial)) (below_size (by repeat (first | (with_reducible first | exact HB.out | apply below_alloc | apply pw_below_drewN | apply below_drew1) | exact HB.out)))); have n1_ := Aside0.mk (below_step (by repeat (first | (with_reducible first | exact HB.out | apply below_alloc | apply pw_below_drewN | apply below_drew1) | exact HB.out)) hb); clear HB; have HO419 := n0_; have HB := n1_; clear n0_ n1_; (try clear hb); (try clear hb2); (try clear hk); (try clear hi); (try clear ho0)) | ((with_reducible refine gate_callee (f := 10) rfl ?_); refine goesL_ (some 13) rfl rfl Try.func10 (by kernel_rfl) rfl #[.slice A0 l0.length c0] rfl (by (try simp only [List.map_toArray, List.map_cons, List.map_nil]); first | done | rfl | (simp only [List.length_drop, List.length_take]; rfl)) ?_; (with_reducible refine (petrinetref08_Valid.calls k _ _ l0 true _ ?side1 ?side2 A3.out).mono ?_); (case side1 => repeat (first | exact (Kd.C_below HR0.out HB.out) | (with_reducible refine Kd.C_alloc ?_ _) | (with_reducible refine Kd.C_drewN ?_ _) | (with_reducible refine Kd.C_drew ?_))); (case side2 => exact HC0.out); rintro e w' ⟨rfl, ⟨nd, rfl⟩⟩; refine ⟨_, rfl, ?_⟩) | ((with_reducible refine gate_callee (f := 13) rfl ?_); refine goesL_ (some 44) rfl rfl Try.func13 (by kernel_rfl) rfl #[.slice A0 l0.length c0] rfl (by (try simp only [List.map_toArray, List.map_cons, List.map_nil]); first | done | rfl | (simp only [List.length_drop, List.length_take]; rfl)) ?_; (with_reducible refine (petrinetref08_Kernel.calls k _ _ l0 t423 true _ ?side1 ?side2 A6.out).mono ?_); (case side1 => repeat (first | exact (Kd.C_below HR0.out (by repeat (first | (with_reducible first | exact HB.out | apply below_alloc | apply pw_below_drewN | apply below_drew1) | exact HB.out))) | (with_reducible refine Kd.C_alloc ?_ _) | (with_reducible refine Kd.C_drewN ?_ _) | (with_reducible refine Kd.C_drew ?_))); (case side2 => exact HC0.out); rintro e w12 ⟨v424, rfl, ho0, hb⟩; refine ⟨_, rfl, ?_⟩; have n0_ := Aside0.mk (Kd.N_elder' (by (with_reducible repeat (first | apply Kd.N_alloc | apply Kd.N_drewN | apply Kd.N_drew)); exact HO419.out) (Kd.N_base ho0) hb); have n1_ := Aside0.mk (Kd.N_lower (Kd.N_mono (ok' := fun k_ => some k_ ≠ (v418 : Value).ownBlock) ho0 (fun k_ hk_ => (Kd.fresh' (Kd.N_lt (by (with_reducible repeat (first | apply Kd.N_alloc | apply Kd.N_drewN | apply Kd.N_drew)); exact HO419.out)) k_ hk_))) (below_size (by repeat (first | (with_reducible first | exact HB.out | apply below_alloc | apply pw_below_drewN | apply below_drew1) | exact HB.out)))); have n2_ := Aside0.mk (below_step (by repeat (first | (with_reducible first | exact HB.out | apply below_alloc | apply pw_below_drewN | apply below_drew1) | exact HB.out)) hb); clear HO419; clear HB; have HO419 := n0_; have HO425 := n1_; have HB := n2_; clear n0_ n1_ n2_; (try clear hb); (try clear hb2); (try clear hk); (try clear hi); (try clear ho0); obtain ⟨Ao13, co13, eo13⟩ := Kd.N_slice HO419.out; subst eo13; obtain ⟨Ao14, co14, eo14⟩ := Kd.N_slice HO425.out; subst eo14) | (go_at_call 14; (with_reducible refine (petrinetref08_Same.calls k _ _ t417 _ _ t423 true _ ?side1 ?side2 ?side3 ?side4 A8.out).mono ?_); (case side1 => repeat (first | exact (Kd.N_reads' HO419.out).2.2 | (with_reducible refine Kd.C_alloc ?_ _) | (with_reducible refine Kd.C_drewN ?_ _) | (with_reducible refine Kd.C_drew ?_))); (case side2 => exact (Kd.N_reads' HO419.out).2.1); (case side3 => repeat (first | exact (Kd.N_reads' HO425.out).2.2 | (with_reducible refine Kd.C_alloc ?_ _) | (with_reducible refine Kd.C_drewN ?_ _) | (with_reducible refine Kd.C_drew ?_))); (case side4 => exact (Kd.N_reads' HO425.out).2.1); rintro e w' ⟨rfl, ⟨nd, rfl⟩⟩) | (go_at_call 11; (with_reducible refine (petrinetlaw08_exampleHolds.calls k  t428 _ A10.out).mono ?_); rintro e w15 ⟨rfl, hb⟩; have n0_ := Aside0.mk (Kd.N_below (by (with_reducible repeat (first | apply Kd.N_alloc | apply Kd.N_drewN | apply Kd.N_drew)); exact HO419.out) hb); have n1_ := Aside0.mk (Kd.N_below (by (with_reducible repeat (first | apply Kd.N_alloc | apply Kd.N_drewN | apply Kd.N_drew)); exact HO425.out) hb); have n2_ := Aside0.mk (below_step (by repeat (first | (with_reducible first | exact HB.out | apply below_alloc | apply pw_below_drewN | apply below_drew1) | exact HB.out)) hb); clear HO419; clear HO425; clear HB; have HO419 := n0_; have HO425 := n1_; have HB := n2_; clear n0_ n1_ n2_; (try clear hb); (try clear hb2); (try clear hk); (try clear hi)))); go_ret; (exact ⟨by first | rfl | (simp [errW_none, errW_some] <;> rfl) | (simp [*, errW_none, errW_some] <;> rfl), by repeat (first | (with_reducible first | exact HB.out | apply below_alloc | apply pw_below_drewN | apply below_drew1) | exact HB.out)⟩)
    ·
     replace c9 := Bool.eq_false_iff.mpr c9; subst c9; (have H1 : (none) = some r := by rw [if_neg (show ¬ (false = true) by decide)] at H; exact H); clear H; have H := H1; clear H1; (exact absurd H (by simp))
   ·
    replace c7 := Bool.eq_false_iff.mpr c7; subst c7; (have H1 : ((petrinetlaw08_exampleHolds.f k).bind fun t429 => (some t429)) = some r := by rw [if_neg (show ¬ (false = true) by decide)] at H; exact H); clear H; have H := H1; clear H1; replace H := Option.bind_eq_some_iff.mp H; obtain ⟨t429, A160, H⟩ := H; replace H : (some t429) = some r := H; have A16 := Aside0.mk A160; clear A160; obtain rfl := Option.some.inj H
    go_enter Try.func3, Try.ntmps3
    (go_wp2_with (first | ((with_reducible refine gate_callee (f := 9) rfl ?_); refine goesL_ (some 9) rfl rfl Try.func9 (by kernel_rfl) rfl #[.slice A0 l0.length c0] rfl (by (try simp only [List.map_toArray, List.map_cons, List.map_nil]); first | done | rfl | (simp only [List.length_drop, List.length_take]; rfl)) ?_; (with_reducible refine (matrix_Kernel.calls k _ _ l0 t417 t420 _ ?side1 ?side2 A2.out).mono ?_); (case side1 => repeat (first | exact HR0.out | (with_reducible refine Kd.C_alloc ?_ _) | (with_reducible refine Kd.C_drewN ?_ _) | (with_reducible refine Kd.C_drew ?_))); (case side2 => exact HC0.out); rintro e w17 ⟨v418, rfl, ho0, hb⟩; refine ⟨_, rfl, ?_⟩; have n0_ := Aside0.mk (Kd.N_lower (Kd.N_mono (ok' := fun k_ => True) ho0 (fun k_ hk_ => trivial)) (below_size (by repeat (first | (with_reducible first | exact HB.out | apply below_alloc | apply pw_below_drewN | apply below_drew1) | exact HB.out)))); have n1_ := Aside0.mk (below_step (by repeat (first | (with_reducible first | exact HB.out | apply below_alloc | apply pw_below_drewN | apply below_drew1) | exact HB.out)) hb); clear HB; have HO419 := n0_; have HB := n1_; clear n0_ n1_; (try clear hb); (try clear hb2); (try clear hk); (try clear hi); (try clear ho0)) | ((with_reducible refine gate_callee (f := 10) rfl ?_); refine goesL_ (some 13) rfl rfl Try.func10 (by kernel_rfl) rfl #[.slice A0 l0.length c0] rfl (by (try simp only [List.map_toArray, List.map_cons, List.map_nil]); first | done | rfl | (simp only [List.length_drop, List.length_take]; rfl)) ?_; (with_reducible refine (petrinetref08_Valid.calls k _ _ l0 true _ ?side1 ?side2 A3.out).mono ?_); (case side1 => repeat (first | exact (Kd.C_below HR0.out HB.out) | (with_reducible refine Kd.C_alloc ?_ _) | (with_reducible refine Kd.C_drewN ?_ _) | (with_reducible refine Kd.C_drew ?_))); (case side2 => exact HC0.out); rintro e w' ⟨rfl, ⟨nd, rfl⟩⟩; refine ⟨_, rfl, ?_⟩) | ((with_reducible refine gate_callee (f := 13) rfl ?_); refine goesL_ (some 44) rfl rfl Try.func13 (by kernel_rfl) rfl #[.slice A0 l0.length c0] rfl (by (try simp only [List.map_toArray, List.map_cons, List.map_nil]); first | done | rfl | (simp only [List.length_drop, List.length_take]; rfl)) ?_; (with_reducible refine (petrinetref08_Kernel.calls k _ _ l0 t423 false _ ?side1 ?side2 A6.out).mono ?_); (case side1 => repeat (first | exact (Kd.C_below HR0.out (by repeat (first | (with_reducible first | exact HB.out | apply below_alloc | apply pw_below_drewN | apply below_drew1) | exact HB.out))) | (with_reducible refine Kd.C_alloc ?_ _) | (with_reducible refine Kd.C_drewN ?_ _) | (with_reducible refine Kd.C_drew ?_))); (case side2 => exact HC0.out); rintro e w18 ⟨v424, rfl, ho0, hb⟩; refine ⟨_, rfl, ?_⟩; have n0_ := Aside0.mk (Kd.N_elder' (by (with_reducible repeat (first | apply Kd.N_alloc | apply Kd.N_drewN | apply Kd.N_drew)); exact HO419.out) (Kd.N_base ho0) hb); have n1_ := Aside0.mk (Kd.N_lower (Kd.N_mono (ok' := fun k_ => some k_ ≠ (v418 : Value).ownBlock) ho0 (fun k_ hk_ => (Kd.fresh' (Kd.N_lt (by (with_reducible repeat (first | apply Kd.N_alloc | apply Kd.N_drewN | apply Kd.N_drew)); exact HO419.out)) k_ hk_))) (below_size (by repeat (first | (with_reducible first | exact HB.out | apply below_alloc | apply pw_below_drewN | apply below_drew1) | exact HB.out)))); have n2_ := Aside0.mk (below_step (by repeat (first | (with_reducible first | exact HB.out | apply below_alloc | apply pw_below_drewN | apply below_drew1) | exact HB.out)) hb); clear HO419; clear HB; have HO419 := n0_; have HO425 := n1_; have HB := n2_; clear n0_ n1_ n2_; (try clear hb); (try clear hb2); (try clear hk); (try clear hi); (try clear ho0)) | (go_at_call 11; (with_reducible refine (petrinetlaw08_exampleHolds.calls k  t429 _ A16.out).mono ?_); rintro e w19 ⟨rfl, hb⟩; have n0_ := Aside0.mk (Kd.N_below (by (with_reducible repeat (first | apply Kd.N_alloc | apply Kd.N_drewN | apply Kd.N_drew)); exact HO419.out) hb); have n1_ := Aside0.mk (Kd.N_below (by (with_reducible repeat (first | apply Kd.N_alloc | apply Kd.N_drewN | apply Kd.N_drew)); exact HO425.out) hb); have n2_ := Aside0.mk (below_step (by repeat (first | (with_reducible first | exact HB.out | apply below_alloc | apply pw_below_drewN | apply below_drew1) | exact HB.out)) hb); clear HO419; clear HO425; clear HB; have HO419 := n0_; have HO425 := n1_; have HB := n2_; clear n0_ n1_ n2_; (try clear hb); (try clear hb2); (try clear hk); (try clear hi)))); go_ret; (exact ⟨by first | rfl | (simp [errW_none, errW_some] <;> rfl) | (simp [*, errW_none, errW_some] <;> rfl), by repeat (first | (with_reducible first | exact HB.out | apply below_alloc | apply pw_below_drewN | apply below_drew1) | exact HB.out)⟩)
  ·
   rw [if_neg c5] at H; have c5b0 : (t420 == 0) = false := beq_eq_false_iff_ne.mpr c5; have c5b1 : (t420 != 0) = true := bne_iff_ne.mpr c5; by_cases c20 : t420 = 3
   ·
    rw [if_pos c20] at H; have c20b0 : (t420 == 3) = true := beq_iff_eq.mpr c20; have c20b1 : (t420 != 3) = false := bne_eq_false_iff_eq.mpr c20; clear c20; replace H := Option.bind_eq_some_iff.mp H; obtain ⟨t430, A210, H⟩ := H; (replace H : (if t430 = true then (none) else (if (t417.length : Int) = 0 then ((petrinetlaw08_exampleHolds.f k).bind fun t431 => (some t431)) else (none))) = some r := H); have A21 := Aside0.mk A210; clear A210; by_cases c22 : t430 = true
    ·
     subst c22; (have H1 : (none) = some r := by rw [if_pos rfl] at H; exact H); clear H; have H := H1; clear H1; (exact absurd H (by simp))
    ·
     replace c22 := Bool.eq_false_iff.mpr c22; subst c22; (have H1 : (if (t417.length : Int) = 0 then ((petrinetlaw08_exampleHolds.f k).bind fun t431 => (some t431)) else (none)) = some r := by rw [if_neg (show ¬ (false = true) by decide)] at H; exact H); clear H; have H := H1; clear H1; by_cases c23 : (t417.length : Int) = 0
     ·
      rw [if_pos c23] at H; have c23b0 : ((t417.length : Int) == 0) = true := beq_iff_eq.mpr c23; have c23b1 : ((t417.length : Int) != 0) = false := bne_eq_false_iff_eq.mpr c23; clear c23; replace H := Option.bind_eq_some_iff.mp H; obtain ⟨t431, A240, H⟩ := H; replace H : (some t431) = some r := H; have A24 := Aside0.mk A240; clear A240; obtain rfl := Option.some.inj H
      go_enter Try.func3, Try.ntmps3
      (go_wp2_with (first | ((with_reducible refine gate_callee (f := 9) rfl ?_); refine goesL_ (some 9) rfl rfl Try.func9 (by kernel_rfl) rfl #[.slice A0 l0.length c0] rfl (by (try simp only [List.map_toArray, List.map_cons, List.map_nil]); first | done | rfl | (simp only [List.length_drop, List.length_take]; rfl)) ?_; (with_reducible refine (matrix_Kernel.calls k _ _ l0 t417 t420 _ ?side1 ?side2 A2.out).mono ?_); (case side1 => repeat (first | exact HR0.out | (with_reducible refine Kd.C_alloc ?_ _) | (with_reducible refine Kd.C_drewN ?_ _) | (with_reducible refine Kd.C_drew ?_))); (case side2 => exact HC0.out); rintro e w25 ⟨v418, rfl, ho0, hb⟩; refine ⟨_, rfl, ?_⟩; have n0_ := Aside0.mk (Kd.N_lower (Kd.N_mono (ok' := fun k_ => True) ho0 (fun k_ hk_ => trivial)) (below_size (by repeat (first | (with_reducible first | exact HB.out | apply below_alloc | apply pw_below_drewN | apply below_drew1) | exact HB.out)))); have n1_ := Aside0.mk (below_step (by repeat (first | (with_reducible first | exact HB.out | apply below_alloc | apply pw_below_drewN | apply below_drew1) | exact HB.out)) hb); clear HB; have HO419 := n0_; have HB := n1_; clear n0_ n1_; (try clear hb); (try clear hb2); (try clear hk); (try clear hi); (try clear ho0)) | ((with_reducible refine gate_callee (f := 10) rfl ?_); refine goesL_ (some 13) rfl rfl Try.func10 (by kernel_rfl) rfl #[.slice A0 l0.length c0] rfl (by (try simp only [List.map_toArray, List.map_cons, List.map_nil]); first | done | rfl | (simp only [List.length_drop, List.length_take]; rfl)) ?_; (with_reducible refine (petrinetref08_Valid.calls k _ _ l0 true _ ?side1 ?side2 A3.out).mono ?_); (case side1 => repeat (first | exact (Kd.C_below HR0.out HB.out) | (with_reducible refine Kd.C_alloc ?_ _) | (with_reducible refine Kd.C_drewN ?_ _) | (with_reducible refine Kd.C_drew ?_))); (case side2 => exact HC0.out); rintro e w' ⟨rfl, ⟨nd, rfl⟩⟩; refine ⟨_, rfl, ?_⟩) | (go_at_call 12; (with_reducible refine (petrinetref08_Small.calls k _ _ l0 false _ ?side1 ?side2 A21.out).mono ?_); (case side1 => repeat (first | exact (Kd.C_below HR0.out (by repeat (first | (with_reducible first | exact HB.out | apply below_alloc | apply pw_below_drewN | apply below_drew1) | exact HB.out))) | (with_reducible refine Kd.C_alloc ?_ _) | (with_reducible refine Kd.C_drewN ?_ _) | (with_reducible refine Kd.C_drew ?_))); (case side2 => exact HC0.out); rintro e w' ⟨rfl, ⟨nd, rfl⟩⟩; obtain ⟨Ao26, co26, eo26⟩ := Kd.N_slice HO419.out; subst eo26) | (go_at_call 11; (with_reducible refine (petrinetlaw08_exampleHolds.calls k  t431 _ A24.out).mono ?_); rintro e w27 ⟨rfl, hb⟩; have n0_ := Aside0.mk (Kd.N_below (by (with_reducible repeat (first | apply Kd.N_alloc | apply Kd.N_drewN | apply Kd.N_drew)); exact HO419.out) hb); have n1_ := Aside0.mk (below_step (by repeat (first | (with_reducible first | exact HB.out | apply below_alloc | apply pw_below_drewN | apply below_drew1) | exact HB.out)) hb); clear HO419; clear HB; have HO419 := n0_; have HB := n1_; clear n0_ n1_; (try clear hb); (try clear hb2); (try clear hk); (try clear hi)))); go_ret; (exact ⟨by first | rfl | (simp [errW_none, errW_some] <;> rfl) | (simp [*, errW_none, errW_some] <;> rfl), by repeat (first | (with_reducible first | exact HB.out | apply below_alloc | apply pw_below_drewN | apply below_drew1) | exact HB.out)⟩)
     ·
      rw [if_neg c23] at H; (exact absurd H (by simp))
   ·
    rw [if_neg c20] at H; (exact absurd H (by simp))
 ·
  replace c4 := Bool.eq_false_iff.mpr c4; subst c4; (have H1 : (if t420 = 2 then (if (t417.length : Int) = 0 then ((petrinetlaw08_exampleHolds.f k).bind fun t422 => (some t422)) else (none)) else (none)) = some r := by rw [if_neg (show ¬ (false = true) by decide)] at H; exact H); clear H; have H := H1; clear H1; by_cases c28 : t420 = 2
  ·
   rw [if_pos c28] at H; have c28b0 : (t420 == 2) = true := beq_iff_eq.mpr c28; have c28b1 : (t420 != 2) = false := bne_eq_false_iff_eq.mpr c28; clear c28; by_cases c29 : (t417.length : Int) = 0
   ·
    rw [if_pos c29] at H; have c29b0 : ((t417.length : Int) == 0) = true := beq_iff_eq.mpr c29; have c29b1 : ((t417.length : Int) != 0) = false := bne_eq_false_iff_eq.mpr c29; clear c29; replace H := Option.bind_eq_some_iff.mp H; obtain ⟨t422, A300, H⟩ := H; replace H : (some t422) = some r := H; have A30 := Aside0.mk A300; clear A300; obtain rfl := Option.some.inj H
    go_enter Try.func3, Try.ntmps3
    (go_wp2_with (first | ((with_reducible refine gate_callee (f := 9) rfl ?_); refine goesL_ (some 9) rfl rfl Try.func9 (by kernel_rfl) rfl #[.slice A0 l0.length c0] rfl (by (try simp only [List.map_toArray, List.map_cons, List.map_nil]); first | done | rfl | (simp only [List.length_drop, List.length_take]; rfl)) ?_; (with_reducible refine (matrix_Kernel.calls k _ _ l0 t417 t420 _ ?side1 ?side2 A2.out).mono ?_); (case side1 => repeat (first | exact HR0.out | (with_reducible refine Kd.C_alloc ?_ _) | (with_reducible refine Kd.C_drewN ?_ _) | (with_reducible refine Kd.C_drew ?_))); (case side2 => exact HC0.out); rintro e w31 ⟨v418, rfl, ho0, hb⟩; refine ⟨_, rfl, ?_⟩; have n0_ := Aside0.mk (Kd.N_lower (Kd.N_mono (ok' := fun k_ => True) ho0 (fun k_ hk_ => trivial)) (below_size (by repeat (first | (with_reducible first | exact HB.out | apply below_alloc | apply pw_below_drewN | apply below_drew1) | exact HB.out)))); have n1_ := Aside0.mk (below_step (by repeat (first | (with_reducible first | exact HB.out | apply below_alloc | apply pw_below_drewN | apply below_drew1) | exact HB.out)) hb); clear HB; have HO419 := n0_; have HB := n1_; clear n0_ n1_; (try clear hb); (try clear hb2); (try clear hk); (try clear hi); (try clear ho0)) | ((with_reducible refine gate_callee (f := 10) rfl ?_); refine goesL_ (some 13) rfl rfl Try.func10 (by kernel_rfl) rfl #[.slice A0 l0.length c0] rfl (by (try simp only [List.map_toArray, List.map_cons, List.map_nil]); first | done | rfl | (simp only [List.length_drop, List.length_take]; rfl)) ?_; (with_reducible refine (petrinetref08_Valid.calls k _ _ l0 false _ ?side1 ?side2 A3.out).mono ?_); (case side1 => repeat (first | exact (Kd.C_below HR0.out HB.out) | (with_reducible refine Kd.C_alloc ?_ _) | (with_reducible refine Kd.C_drewN ?_ _) | (with_reducible refine Kd.C_drew ?_))); (case side2 => exact HC0.out); rintro e w' ⟨rfl, ⟨nd, rfl⟩⟩; refine ⟨_, rfl, ?_⟩; obtain ⟨Ao32, co32, eo32⟩ := Kd.N_slice HO419.out; subst eo32) | (go_at_call 11; (with_reducible refine (petrinetlaw08_exampleHolds.calls k  t422 _ A30.out).mono ?_); rintro e w33 ⟨rfl, hb⟩; have n0_ := Aside0.mk (Kd.N_below (by (with_reducible repeat (first | apply Kd.N_alloc | apply Kd.N_drewN | apply Kd.N_drew)); exact HO419.out) hb); have n1_ := Aside0.mk (below_step (by repeat (first | (with_reducible first | exact HB.out | apply below_alloc | apply pw_below_drewN | apply below_drew1) | exact HB.out)) hb); clear HO419; clear HB; have HO419 := n0_; have HB := n1_; clear n0_ n1_; (try clear hb); (try clear hb2); (try clear hk); (try clear hi)))); go_ret; (exact ⟨by first | rfl | (simp [errW_none, errW_some] <;> rfl) | (simp [*, errW_none, errW_some] <;> rfl), by repeat (first | (with_reducible first | exact HB.out | apply below_alloc | apply pw_below_drewN | apply below_drew1) | exact HB.out)⟩)
   ·
    rw [if_neg c29] at H; (exact absurd H (by simp))
  ·
   rw [if_neg c28] at H; (exact absurd H (by simp))
def petrinetlaw08_MatrixKernels.Pure : Prop := ∀ (x0 : List (List Int)), (fun l => l.length ≤ maxLen ∧ ∀ x ∈ l, (fun l => l.length ≤ maxLen ∧ ∀ x ∈ l, (fun n => (Lit.int .i64 n).wf = true) x) x) x0 → ∃ k, petrinetlaw08_MatrixKernels.f k x0 = some true
end Go.Proofs.Ytckefohfahphpaa.Z
end
section
namespace Go.Proofs.Ytckefohfahphpaa.Pure
open Go.RowKit Go.Proofs.Ytckefohfahphpaa.Z Go.Proofs.YtckefohfahphpaaW.PrintWords Go.Proofs.YtckefohfahphpaaW.PrintLast Go.Proofs.YtckefohfahphpaaW.PrintMore
theorem MatrixKernels : petrinetlaw08_MatrixKernels.Pure := by
 intro a hw
 have ha : ∀ r ∈ a, ok64 r := fun r hr => ok64_wf (hw.2 r hr).2
 clear hw
 obtain ⟨k, hk⟩ : ∃ k : Nat, k = 9223372036854775808 + 2000000 := ⟨_, rfl⟩
 have hL : 9223372036854775808 + 60000 ≤ k := by omega
 have hb : 1500000 ≤ k := by omega
 clear hk
 refine ⟨k, ?_⟩
 unfold petrinetlaw08_MatrixKernels.f
 rw [rvalid_eq a _ (by omega), example_eq k (by omega)]
 by_cases hv : validB a = true
 ·
  obtain ⟨b, s1, s2⟩ := small_spec (k := k) hv (by omega)
  rw [s1]
  rcases mkern_spec (K := k) (by omega) hv ha with ⟨E, cols, p, l, h1, _, h2, _, h4⟩ | ⟨h1, h2⟩
  ·
   rw [h1]
   simp only [Option.bind_some, hv, if_true]
   rcases rker_spec hv ha hL with ⟨l', e1⟩ | ⟨F, q, l', e1, e2, e3⟩
   ·
    rw [e1]
    simp
   ·
    have hs := KL.same h2 e2 h4 e3
    obtain ⟨n, _, _, _, h64, _, hn⟩ := validB_iff.mp hv
    rw [hn] at h4
    have hz := h4.size
    rw [e1, ← hs]
    simp only [Option.bind_some, if_true]
    rw [same_self (a := l) (by omega) (fun z hz' => by
     obtain ⟨g, _, _, hv⟩ := hz.2 z hz'
     have := hv.ok.1
     omega) k (by omega)]
    simp
  ·
   rw [h1]
   have hbf : b = false := by cases b with
    | false => rfl
    | true => exact absurd (s2 rfl) h2
   rw [hbf]
   simp [hv]
 ·
  have h1 : matrix_Kernel.f k a = some ([], 2) := by
   unfold matrix_Kernel.f
   rw [mvalid_eq a k (by omega)]
   simp only [Option.bind_some]
   rw [if_neg hv]
  rw [h1]
  simp [hv]
end Go.Proofs.Ytckefohfahphpaa.Pure
end
section
namespace Go.Proofs.Ytckefohfahphpaa.matrixKernels
open Go.ChangeShapes Go.WideShapes Go.ChangeAt Go.RowKit Go.Proofs.Ytckefohfahphpaa.Z Go.Proofs.YtckefohfahphpaaW.PrintWords
open Go.ChangeMaps (open_string shut_string)
theorem own : ownKnob Try.prog.godebug = none := by kernel_rfl
theorem laidOut : laidOutB Try.prog = true := by kernel_rfl
set_option maxRecDepth 100000 in
theorem lifted (os : Os) (started : os.Started) (H : Type) (enc : TypeId × Value → H) :
  ReturnsInHanded {} Try.checked os 3 .any (Rows.matrixKernelsSpec.pre6 enc Try.prog Try.f3 Rows.matrixKernelsRow.domain false) (Rows.matrixKernelsSpec.post enc Try.prog Try.f3 false true false false) := by
 refine returnsInHanded_of_change_sized (C := Try.checked) own started (by kernel_rfl) Try.func3
  (ChangeSpec.witness6 (enc := enc) (C := Try.checked) false ⟨#[], #[.slice none 0 0], []⟩ 8 (by kernel_rfl) (by kernel_rfl) (by kernel_rfl) (by kernel_rfl)) ?_
 intro W base args ds gs before hval0 hW hcnd hsz0 _
 have hval : ∀ (j : Nat) t v, Try.f3.params[j]? = some t → args[j]? = some v → Value.okWide Try.prog W .any base t v := hval0
 have hW' := hW
 obtain ⟨p, q, hA0, hV, rfl, hfz, hnd⟩ := hW
 have hA : DataW.TrodAll enc Try.prog W 0 (fun _ => true) true Try.f3.params.toList args.toList ds p := hA0
 rw [Try.params3] at hA hval
 obtain ⟨v0, vs0, d0, ds0, p0, q0, hargs, rfl, rfl, h0, r0⟩ := trodAll_cons hA
 obtain ⟨rfl, rfl, rfl⟩ := trodAll_nil r0
 obtain rfl : args = #[v0] := by cases args; simp_all
 obtain ⟨rfl, rfl⟩ := trodVars_none hV
 have k0 := h0
 have lt0 : ∀ x ∈ p0, x.block < W.heap.size := by obtain ⟨m, hm⟩ := k0; exact DataW.trod_lt m _ _ _ hm
 obtain ⟨a0, len0, cap0, rfl⟩ := okWide_slice Try.underlying22 (hval 0 22 v0 rfl rfl)
 obtain ⟨fuel0, hf0⟩ := h0
 obtain ⟨x0, ⟨A0, c0, hc0, hl0, hC0⟩, w0⟩ := (opens_slice Try.underlying22 (by kernel_rfl) (opens_slice Try.underlying33 (by kernel_rfl) (opens_int Try.underlying2))) hf0
 simp only [Value.cells, List.cons.injEq, Value.slice.injEq, and_true] at hc0
 obtain ⟨rfl, rfl, rfl⟩ := hc0
 clear hA0 hval0 hsz0
 obtain ⟨k, hP⟩ := Pure.MatrixKernels x0 w0
 refine (petrinetlaw08_MatrixKernels.calls k _ _ x0 true W hC0 hl0 hP).mono fun e W' ⟨he, bel⟩ => ?_
 subst he
 exact ⟨_, rfl, _, _, _, [], _, [], hW', trodAll_mk1 (shut_bool Try.underlying4 _), (trodAll_cons_mk (Below.trod laidOut (by kernel_rfl) (of_decide_eq_true (by kernel_rfl)) k0 bel lt0) trodAll_mk0), rfl, bel.frame _, fun h => by cases h⟩
theorem over : Rows.matrixKernelsRow.holds Try.pinned (OpenSpec.ofChange Rows.matrixKernelsSpec) :=
 OpenClaim.holds_of_wide 3 Try.f3 rfl rfl rfl rfl rfl rfl rfl ⟨rfl, rfl, rfl, rfl, rfl⟩ rfl rfl rfl rfl rfl (by kernel_rfl) Try.func3 (by kernel_rfl)
  (of_decide_eq_true (by kernel_rfl)) (by unfold Func.isWrapper; first | (rw [if_pos (by decide +kernel)]; kernel_rfl) | (rw [if_neg (by decide +kernel)]; exact ⟨rfl, rfl⟩))
  (fun os started H enc _ => lifted os started H enc)
theorem proved : Rows.MatrixKernelsSaid := over
#print axioms proved
end Go.Proofs.Ytckefohfahphpaa.matrixKernels
namespace Go.Proofs.Ytckefohfahphpaa
theorem matrixKernels_holds : Rows.MatrixKernelsSaid := matrixKernels.proved
end Go.Proofs.Ytckefohfahphpaa
end
