/- The pure statement of VectorLinear: for all lists of int64s that a call can hold, the printed function answers true. -/
import Derived.Test.YtojpjknjoikdgaaVb
import Derived.Test.YtojpjknjoikdgaaVd
import Derived.Test.YtojpjknjoikdgaaVe
import Derived.Test.YtojpjknjoikdgaaZx1
import Derived.Test.YtojpjknjoikdgaaZx22
namespace Go.Proofs.Ytojpjknjoikdgaa.Pure
open Go.RowKit Go.Proofs.Ytojpjknjoikdgaa.Z Go.Proofs.YtojpjknjoikdgaaW.PrintWords Go.Proofs.YtojpjknjoikdgaaW.PrintLast Go.Proofs.YtojpjknjoikdgaaW.PrintMore
set_option linter.unusedVariables false
set_option linter.unusedSimpArgs false
/-- The inner product, exactly. -/
def dotX : List Int → List Int → Int
  | x :: a, y :: b => x * y + dotX a b
  | _, _ => 0
theorem dotG_small {B : Int} (hB : 0 ≤ B) : ∀ (a b : List Int) (s : Int), (∀ x ∈ a, ∀ y ∈ b, -B ≤ x * y ∧ x * y ≤ B) → ((s.natAbs : Int) + B * a.length ≤ 9223372036854775807) → dotG a b s = (s + dotX a b, 0)
  | x :: a, y :: b, s, hab, h => by
    have h1 := hab x (by simp) y (by simp)
    have h3 : B * ((x :: a).length : Int) = B * (a.length : Int) + B := by
      rw [List.length_cons]
      simp [Int.mul_add]
    have h4 : 0 ≤ B * (a.length : Int) := Int.mul_nonneg hB (by omega)
    rw [h3] at h
    have e := dotG_small hB a b (s + x * y) (fun u hu v hv => hab u (by simp [hu]) v (by simp [hv]))
    generalize B * (a.length : Int) = q at *
    rw [dotG, dotX, if_pos ⟨by omega, by omega⟩, if_pos ⟨by omega, by omega⟩, e (by omega)]
    congr 1
    omega
  | [], _, s, _, _ => by simp [dotG, dotX]
  | _ :: _, [], s, _, _ => by simp [dotG, dotX]
theorem dotX_bound {B : Int} : ∀ (a b : List Int), (∀ x ∈ a, ∀ y ∈ b, -B ≤ x * y ∧ x * y ≤ B) → 0 ≤ B → -(B * a.length) ≤ dotX a b ∧ dotX a b ≤ B * a.length
  | x :: a, y :: b, hab, hB => by
    have h1 := hab x (by simp) y (by simp)
    have h3 : B * ((x :: a).length : Int) = B * (a.length : Int) + B := by
      rw [List.length_cons]
      simp [Int.mul_add]
    have e := dotX_bound a b (fun u hu v hv => hab u (by simp [hu]) v (by simp [hv])) hB
    rw [h3, dotX]
    generalize B * (a.length : Int) = q at *
    omega
  | [], _, _, _ => by simp [dotX]
  | x :: a, [], _, hB => by
    have := Int.mul_nonneg hB (show (0 : Int) ≤ ((x :: a).length : Int) by omega)
    simp only [dotX]
    omega
theorem dotX_comm : ∀ a b : List Int, dotX a b = dotX b a
  | [], [] => rfl
  | [], _ :: _ => rfl
  | _ :: _, [] => rfl
  | x :: a, y :: b => by rw [dotX, dotX, dotX_comm a b, Int.mul_comm]
theorem dotX_lin (i k : Int) : ∀ a b c : List Int, a.length = b.length → dotX (List.zipWith (fun x y => x * i + y * k) a b) c = i * dotX a c + k * dotX b c
  | [], [], c, _ => by simp [dotX]
  | x :: a, y :: b, [], _ => by simp [dotX]
  | x :: a, y :: b, z :: c, h => by
    rw [List.zipWith_cons_cons, dotX, dotX, dotX, dotX_lin i k a b c (by simpa using h), Int.add_mul, Int.mul_add, Int.mul_add]
    have e1 : x * i * z = i * (x * z) := by ac_rfl
    have e2 : y * k * z = k * (y * z) := by ac_rfl
    omega
  | [], _ :: _, _, h => by simp at h
  | _ :: _, [], _, h => by simp at h
theorem VectorLinear : petrinetlaw03_VectorLinear.Pure := by
  intro l0 l1 l2 _ _ w0 _ _ w1 _ _ w2
  refine ⟨399 + 1, ?_⟩
  have hv := lives_eq 360
  have key : petrinetlaw03_VectorLinear.j0 (399 + 1) l0 l1 l2 true = some true := by
    rw [petrinetlaw03_VectorLinear.j0, if_pos rfl]
  unfold petrinetlaw03_VectorLinear.f
  rw [show (399 + 1 : Nat) = 360 + 40 from rfl, hv]
  simp only [Option.bind_some, if_true]
  rw [small_eq l0 _ (by omega), small_eq l1 _ (by omega), small_eq l2 _ (by omega), show (360 + 40 : Nat) = 399 + 1 from rfl]
  simp only [Option.bind_some]
  by_cases s0 : smallB l0 = true
  · by_cases s1 : smallB l1 = true
    · by_cases s2 : smallB l2 = true
      · rw [if_pos s0, if_pos s1, if_pos s2]
        by_cases e1 : (l0.length : Int) = (l1.length : Int)
        · rw [if_pos e1]
          by_cases e2 : (l0.length : Int) = (l2.length : Int)
          · obtain ⟨n0, b0⟩ := small_iff s0
            obtain ⟨n1, b1⟩ := small_iff s1
            obtain ⟨n2, b2⟩ := small_iff s2
            have k0 := small_ok s0
            have k1 := small_ok s1
            have k2 := small_ok s2
            have i3 : in64 3 := ⟨by decide, by decide⟩
            have i2 : in64 (-2) := ⟨by decide, by decide⟩
            have hc : zipP (combP 3 (-2)) (fun x y => x * 3 + y * -2) l0 l1 [] = (List.zipWith (fun x y => x * 3 + y * -2) l0 l1, 0) := by
              rw [zip_all]
              · simp
              · intro x hx y hy
                have := b0 x hx
                have := b1 y hy
                unfold combP
                rw [decide_eq_true (show in64 (x * 3) from ⟨by omega, by omega⟩), decide_eq_true (show in64 (y * -2) from ⟨by omega, by omega⟩), decide_eq_true (show in64 (x * 3 + y * -2) from ⟨by omega, by omega⟩)]
                rfl
            have zb : ∀ z ∈ List.zipWith (fun x y => x * 3 + y * -2) l0 l1, -5242880 ≤ z ∧ z ≤ 5242880 := fun z hz => by
              obtain ⟨x, hx, y, hy, rfl⟩ := zipWith_mem hz
              have := b0 x hx
              have := b1 y hy
              omega
            have zk : ok64 (List.zipWith (fun x y => x * 3 + y * -2) l0 l1) := fun z hz => by
              have := zb z hz
              exact ⟨by omega, by omega⟩
            have zl : (List.zipWith (fun x y => x * 3 + y * -2) l0 l1).length = l0.length := by simp; omega
            have d1 := dotG_small (B := 5242880 * 1048576) (by decide) (List.zipWith (fun x y => x * 3 + y * -2) l0 l1) l2 0 (fun x hx y hy => abs_mul_le (zb x hx) (b2 y hy) (by decide) (by decide)) (by rw [zl]; simp; omega)
            have d2 := dotG_small (B := 1048576 * 1048576) (by decide) l0 l2 0 (fun x hx y hy => abs_mul_le (b0 x hx) (b2 y hy) (by decide) (by decide)) (by simp; omega)
            have d3 := dotG_small (B := 1048576 * 1048576) (by decide) l2 l1 0 (fun x hx y hy => abs_mul_le (b2 x hx) (b1 y hy) (by decide) (by decide)) (by simp; omega)
            have d4 := dotG_small (B := 1048576 * 1048576) (by decide) l2 l0 0 (fun x hx y hy => abs_mul_le (b2 x hx) (b0 y hy) (by decide) (by decide)) (by simp; omega)
            have r2 := dotX_bound (B := 1048576 * 1048576) l0 l2 (fun x hx y hy => abs_mul_le (b0 x hx) (b2 y hy) (by decide) (by decide)) (by decide)
            have r3 := dotX_bound (B := 1048576 * 1048576) l2 l1 (fun x hx y hy => abs_mul_le (b2 x hx) (b1 y hy) (by decide) (by decide)) (by decide)
            have hlin := dotX_lin 3 (-2) l0 l1 l2 (by omega)
            have c1 := dotX_comm l1 l2
            have c2 := dotX_comm l0 l2
            rw [show ((l0.length : Int) != (l2.length : Int)) = false from bne_eq_false_iff_eq.mpr e2, petrinetlaw03_VectorLinear.j0, if_neg (by decide)]
            rw [vcomb_eq k0 k1 i3 i2 (by omega), if_pos (by omega), hc]
            simp only [Option.bind_some]
            rw [vdot_eq zk k2 (by omega) 399 (by omega), vdot_eq k0 k2 (by omega) 399 (by omega), vdot_eq k2 k1 (by omega) 399 (by omega), vdot_eq k2 k0 (by omega) 399 (by omega)]
            rw [if_pos (by omega), if_pos (by omega), if_pos (by omega), if_pos (by omega), d1, d2, d3, d4]
            simp only [Option.bind_some, if_true, Int.zero_add]
            have m2 : (1048576 * 1048576 : Int) * l0.length ≤ 21990232555520 := by omega
            have m3 : (1048576 * 1048576 : Int) * l2.length ≤ 21990232555520 := by omega
            rw [hlin, c1, ← c2]
            generalize dotX l0 l2 = u at *
            generalize dotX l2 l1 = v at *
            rw [wrap64_id (n := 3 * u) ⟨by omega, by omega⟩, wrap64_id (n := 2 * v) ⟨by omega, by omega⟩, wrap64_id ⟨by omega, by omega⟩, if_pos (by omega)]
            simp
          · rw [show ((l0.length : Int) != (l2.length : Int)) = true from bne_iff_ne.mpr e2]
            exact key
        · rw [if_neg e1]
          exact key
      · rw [if_pos s0, if_pos s1, if_neg s2]
        exact key
    · rw [if_pos s0, if_neg s1]
      exact key
  · rw [if_neg s0]
    exact key
end Go.Proofs.Ytojpjknjoikdgaa.Pure
