/- The statement Echelons is proved here, for every input, out of the walks and the plain laws of the texts ahead of it. -/
import Derived.Test.YtckefohfahphpaaRows
import Derived.WalkKit
import Derived.ProofKit
import Derived.OpenShut
import Derived.ShutString
import Derived.ChangeOld
import Derived.Below
import Derived.SizedLaws
import Derived.Test.YtckefohfahphpaaJEchelons0
import Derived.Test.YtckefohfahphpaaJEchelons1
import Derived.Test.YtckefohfahphpaaJEchelons2
section
namespace Go.Proofs.Ytckefohfahphpaa.Z
open Go.RowKit Go.Proofs.YtckefohfahphpaaW.PrintWords Go.Proofs.YtckefohfahphpaaW.PrintLast Go.Proofs.YtckefohfahphpaaW.PrintMore
attribute [local go_sem] max2_int min2_int max_two min_two max_three min_three max_four min_four   -- for this text's walks alone
set_option linter.unusedVariables false
set_option linter.unusedSimpArgs false

/-! ### petrinetref08_Echelon: function 17 -/
mutual
def petrinetref08_Echelon.l0 : Nat → List (List Int) → List (List Int) → Int → Option ((List (List Int)) × Bool)
 | 0, _, _, _ => none
 | k + 1, x0, x4, x5 => if x5 < (x0.length : Int) then (if 0 ≤ x5 then ((petrinetref08_primitive.f k (rd_L1 x0 x5)).bind fun bt328 => (if bt328.2 = true then (if x4.length < 5864062014805 then (petrinetref08_Echelon.l0 k x0 (x4 ++ [bt328.1]) (wrap64 (x5 + 1))) else (none)) else (some (([] : List (List Int)), false)))) else (none)) else (petrinetref08_Echelon.l1 k x0 x4 0 0)
def petrinetref08_Echelon.l1 : Nat → List (List Int) → List (List Int) → Int → Int → Option ((List (List Int)) × Bool)
 | 0, _, _, _, _ => none
 | k + 1, x0, x4, x8, x9 => if 0 < (x0.length : Int) then (if x9 < ((rd_L1 x0 0).length : Int) then (petrinetref08_Echelon.j2 k x0 x4 x8 x9 (decide (x8 < (x4.length : Int)))) else (petrinetref08_Echelon.j2 k x0 x4 x8 x9 false)) else (none)
def petrinetref08_Echelon.j2 : Nat → List (List Int) → List (List Int) → Int → Int → Bool → Option ((List (List Int)) × Bool)
 | 0, _, _, _, _, _ => none
 | k + 1, x0, x4, x8, x9, x48 => if x48 = true then (petrinetref08_Echelon.l2 k x0 x4 x8 x9 x8) else (petrinetref08_Echelon.l4 k x4 x8 ([] : List (List Int)) 0)
def petrinetref08_Echelon.j4 : Nat → List (List Int) → List (List Int) → Int → Int → Int → Option ((List (List Int)) × Bool)
 | 0, _, _, _, _, _ => none
 | k + 1, x0, x4, x8, x9, x10 => if x10 = (x4.length : Int) then (petrinetref08_Echelon.l1 k x0 x4 x8 (wrap64 (x9 + 1))) else (if 0 ≤ x10 then (if x10 < (x4.length : Int) then (if 0 ≤ x8 then (if x8 < (x4.length : Int) then (petrinetref08_Echelon.l3 k x0 ((x4.set (x10 : Int).toNat (rd_L1 x4 x8)).set (x8 : Int).toNat (rd_L1 x4 x10)) x8 x9 0) else (none)) else (none)) else (none)) else (none))
def petrinetref08_Echelon.l3 : Nat → List (List Int) → List (List Int) → Int → Int → Int → Option ((List (List Int)) × Bool)
 | 0, _, _, _, _, _ => none
 | k + 1, x0, x4, x8, x9, x12 => if x12 < (x4.length : Int) then (if x12 = x8 then (petrinetref08_Echelon.j6 k x0 x4 x8 x9 x12 false) else (if 0 ≤ x12 then (if 0 ≤ x9 then (if x9 < ((rd_L1 x4 x12).length : Int) then (petrinetref08_Echelon.j6 k x0 x4 x8 x9 x12 ((rd (rd_L1 x4 x12) x9) != 0)) else (none)) else (none)) else (none))) else (petrinetref08_Echelon.l1 k x0 x4 (wrap64 (x8 + 1)) (wrap64 (x9 + 1)))
def petrinetref08_Echelon.j6 : Nat → List (List Int) → List (List Int) → Int → Int → Int → Bool → Option ((List (List Int)) × Bool)
 | 0, _, _, _, _, _, _ => none
 | k + 1, x0, x4, x8, x9, x12, x105 => if x105 = true then (if 0 ≤ x12 then (if x12 < (x4.length : Int) then (if 0 ≤ x8 then (if x8 < (x4.length : Int) then ((petrinetref08_clear.f k (rd_L1 x4 x12) (rd_L1 x4 x8) x9).bind fun bt346 => (if bt346.2 = true then (petrinetref08_Echelon.l3 k x0 (x4.set (x12 : Int).toNat bt346.1) x8 x9 (wrap64 (x12 + 1))) else (some (([] : List (List Int)), false)))) else (none)) else (none)) else (none)) else (none)) else (petrinetref08_Echelon.l3 k x0 x4 x8 x9 (wrap64 (x12 + 1)))
def petrinetref08_Echelon.l2 : Nat → List (List Int) → List (List Int) → Int → Int → Int → Option ((List (List Int)) × Bool)
 | 0, _, _, _, _, _ => none
 | k + 1, x0, x4, x8, x9, x10 => if x10 < (x4.length : Int) then (if 0 ≤ x10 then (if 0 ≤ x9 then (if x9 < ((rd_L1 x4 x10).length : Int) then (if (rd (rd_L1 x4 x10) x9) = 0 then (petrinetref08_Echelon.l2 k x0 x4 x8 x9 (wrap64 (x10 + 1))) else (petrinetref08_Echelon.j4 k x0 x4 x8 x9 x10)) else (none)) else (none)) else (none)) else (petrinetref08_Echelon.j4 k x0 x4 x8 x9 x10)
def petrinetref08_Echelon.l4 : Nat → List (List Int) → Int → List (List Int) → Int → Option ((List (List Int)) × Bool)
 | 0, _, _, _, _ => none
 | k + 1, x4, x8, x15, x16 => if x16 < x8 then (if 0 ≤ x16 then (if x16 < (x4.length : Int) then (if x15.length < 5864062014805 then (petrinetref08_Echelon.l4 k x4 x8 (x15 ++ [rd_L1 x4 x16]) (wrap64 (x16 + 1))) else (none)) else (none)) else (none)) else (some (x15, true))
end
def petrinetref08_Echelon.f (k : Nat) (l0 : List (List Int)) : Option ((List (List Int)) × Bool) := petrinetref08_Echelon.l0 k l0 ([] : List (List Int)) 0
theorem petrinetref08_Echelon.mono_l : ∀ k, (∀ y0 y1 y2, LeO (petrinetref08_Echelon.l0 k y0 y1 y2) (petrinetref08_Echelon.l0 (k + 1) y0 y1 y2)) ∧ (∀ y0 y1 y2 y3, LeO (petrinetref08_Echelon.l1 k y0 y1 y2 y3) (petrinetref08_Echelon.l1 (k + 1) y0 y1 y2 y3)) ∧ (∀ y0 y1 y2 y3 y4, LeO (petrinetref08_Echelon.j2 k y0 y1 y2 y3 y4) (petrinetref08_Echelon.j2 (k + 1) y0 y1 y2 y3 y4)) ∧ (∀ y0 y1 y2 y3 y4, LeO (petrinetref08_Echelon.j4 k y0 y1 y2 y3 y4) (petrinetref08_Echelon.j4 (k + 1) y0 y1 y2 y3 y4)) ∧ (∀ y0 y1 y2 y3 y4, LeO (petrinetref08_Echelon.l3 k y0 y1 y2 y3 y4) (petrinetref08_Echelon.l3 (k + 1) y0 y1 y2 y3 y4)) ∧ (∀ y0 y1 y2 y3 y4 y5, LeO (petrinetref08_Echelon.j6 k y0 y1 y2 y3 y4 y5) (petrinetref08_Echelon.j6 (k + 1) y0 y1 y2 y3 y4 y5)) ∧ (∀ y0 y1 y2 y3 y4, LeO (petrinetref08_Echelon.l2 k y0 y1 y2 y3 y4) (petrinetref08_Echelon.l2 (k + 1) y0 y1 y2 y3 y4)) ∧ (∀ y0 y1 y2 y3, LeO (petrinetref08_Echelon.l4 k y0 y1 y2 y3) (petrinetref08_Echelon.l4 (k + 1) y0 y1 y2 y3))
 | 0 => ⟨fun _ _ _ r h => by simp [petrinetref08_Echelon.l0] at h, fun _ _ _ _ r h => by simp [petrinetref08_Echelon.l1] at h, fun _ _ _ _ _ r h => by simp [petrinetref08_Echelon.j2] at h, fun _ _ _ _ _ r h => by simp [petrinetref08_Echelon.j4] at h, fun _ _ _ _ _ r h => by simp [petrinetref08_Echelon.l3] at h, fun _ _ _ _ _ _ r h => by simp [petrinetref08_Echelon.j6] at h, fun _ _ _ _ _ r h => by simp [petrinetref08_Echelon.l2] at h, fun _ _ _ _ r h => by simp [petrinetref08_Echelon.l4] at h⟩
 | k + 1 => by
  obtain ⟨ih0, ih1, ih2, ih3, ih4, ih5, ih6, ih7⟩ := petrinetref08_Echelon.mono_l k
  refine ⟨?_, ?_, ?_, ?_, ?_, ?_, ?_, ?_⟩
  ·
   intro y0 y1 y2
   unfold petrinetref08_Echelon.l0
   repeat' first
   | (with_reducible exact ih0 _ _ _)
   | (with_reducible exact ih1 _ _ _ _)
   | (with_reducible exact ih2 _ _ _ _ _)
   | (with_reducible exact ih3 _ _ _ _ _)
   | (with_reducible exact ih4 _ _ _ _ _)
   | (with_reducible exact ih5 _ _ _ _ _ _)
   | (with_reducible exact ih6 _ _ _ _ _)
   | (with_reducible exact ih7 _ _ _ _)
   | (with_reducible exact petrinetref08_clear.mono _ _ _ _)
   | (with_reducible exact petrinetref08_primitive.mono _ _)
   | (with_reducible exact LeO.refl _)
   | (with_reducible exact LeO.none _)
   | (with_reducible refine LeO.ite ?_ ?_)
   | (with_reducible refine LeO.bind ?_ (fun _ => ?_))
   | exact ih0 _ _ _
   | exact ih1 _ _ _ _
   | exact ih2 _ _ _ _ _
   | exact ih3 _ _ _ _ _
   | exact ih4 _ _ _ _ _
   | exact ih5 _ _ _ _ _ _
   | exact ih6 _ _ _ _ _
   | exact ih7 _ _ _ _
   | exact petrinetref08_clear.mono _ _ _ _
   | exact petrinetref08_primitive.mono _ _
   | exact LeO.none _
   | refine LeO.ite ?_ ?_
   | refine LeO.bind ?_ (fun _ => ?_)
  ·
   intro y0 y1 y2 y3
   unfold petrinetref08_Echelon.l1
   repeat' first
   | (with_reducible exact ih0 _ _ _)
   | (with_reducible exact ih1 _ _ _ _)
   | (with_reducible exact ih2 _ _ _ _ _)
   | (with_reducible exact ih3 _ _ _ _ _)
   | (with_reducible exact ih4 _ _ _ _ _)
   | (with_reducible exact ih5 _ _ _ _ _ _)
   | (with_reducible exact ih6 _ _ _ _ _)
   | (with_reducible exact ih7 _ _ _ _)
   | (with_reducible exact petrinetref08_clear.mono _ _ _ _)
   | (with_reducible exact petrinetref08_primitive.mono _ _)
   | (with_reducible exact LeO.refl _)
   | (with_reducible exact LeO.none _)
   | (with_reducible refine LeO.ite ?_ ?_)
   | (with_reducible refine LeO.bind ?_ (fun _ => ?_))
   | exact ih0 _ _ _
   | exact ih1 _ _ _ _
   | exact ih2 _ _ _ _ _
   | exact ih3 _ _ _ _ _
   | exact ih4 _ _ _ _ _
   | exact ih5 _ _ _ _ _ _
   | exact ih6 _ _ _ _ _
   | exact ih7 _ _ _ _
   | exact petrinetref08_clear.mono _ _ _ _
   | exact petrinetref08_primitive.mono _ _
   | exact LeO.none _
   | refine LeO.ite ?_ ?_
   | refine LeO.bind ?_ (fun _ => ?_)
  ·
   intro y0 y1 y2 y3 y4
   unfold petrinetref08_Echelon.j2
   repeat' first
   | (with_reducible exact ih0 _ _ _)
   | (with_reducible exact ih1 _ _ _ _)
   | (with_reducible exact ih2 _ _ _ _ _)
   | (with_reducible exact ih3 _ _ _ _ _)
   | (with_reducible exact ih4 _ _ _ _ _)
   | (with_reducible exact ih5 _ _ _ _ _ _)
   | (with_reducible exact ih6 _ _ _ _ _)
   | (with_reducible exact ih7 _ _ _ _)
   | (with_reducible exact petrinetref08_clear.mono _ _ _ _)
   | (with_reducible exact petrinetref08_primitive.mono _ _)
   | (with_reducible exact LeO.refl _)
   | (with_reducible exact LeO.none _)
   | (with_reducible refine LeO.ite ?_ ?_)
   | (with_reducible refine LeO.bind ?_ (fun _ => ?_))
   | exact ih0 _ _ _
   | exact ih1 _ _ _ _
   | exact ih2 _ _ _ _ _
   | exact ih3 _ _ _ _ _
   | exact ih4 _ _ _ _ _
   | exact ih5 _ _ _ _ _ _
   | exact ih6 _ _ _ _ _
   | exact ih7 _ _ _ _
   | exact petrinetref08_clear.mono _ _ _ _
   | exact petrinetref08_primitive.mono _ _
   | exact LeO.none _
   | refine LeO.ite ?_ ?_
   | refine LeO.bind ?_ (fun _ => ?_)
  ·
   intro y0 y1 y2 y3 y4
   unfold petrinetref08_Echelon.j4
   repeat' first
   | (with_reducible exact ih0 _ _ _)
   | (with_reducible exact ih1 _ _ _ _)
   | (with_reducible exact ih2 _ _ _ _ _)
   | (with_reducible exact ih3 _ _ _ _ _)
   | (with_reducible exact ih4 _ _ _ _ _)
   | (with_reducible exact ih5 _ _ _ _ _ _)
   | (with_reducible exact ih6 _ _ _ _ _)
   | (with_reducible exact ih7 _ _ _ _)
   | (with_reducible exact petrinetref08_clear.mono _ _ _ _)
   | (with_reducible exact petrinetref08_primitive.mono _ _)
   | (with_reducible exact LeO.refl _)
   | (with_reducible exact LeO.none _)
   | (with_reducible refine LeO.ite ?_ ?_)
   | (with_reducible refine LeO.bind ?_ (fun _ => ?_))
   | exact ih0 _ _ _
   | exact ih1 _ _ _ _
   | exact ih2 _ _ _ _ _
   | exact ih3 _ _ _ _ _
   | exact ih4 _ _ _ _ _
   | exact ih5 _ _ _ _ _ _
   | exact ih6 _ _ _ _ _
   | exact ih7 _ _ _ _
   | exact petrinetref08_clear.mono _ _ _ _
   | exact petrinetref08_primitive.mono _ _
   | exact LeO.none _
   | refine LeO.ite ?_ ?_
   | refine LeO.bind ?_ (fun _ => ?_)
  ·
   intro y0 y1 y2 y3 y4
   unfold petrinetref08_Echelon.l3
   repeat' first
   | (with_reducible exact ih0 _ _ _)
   | (with_reducible exact ih1 _ _ _ _)
   | (with_reducible exact ih2 _ _ _ _ _)
   | (with_reducible exact ih3 _ _ _ _ _)
   | (with_reducible exact ih4 _ _ _ _ _)
   | (with_reducible exact ih5 _ _ _ _ _ _)
   | (with_reducible exact ih6 _ _ _ _ _)
   | (with_reducible exact ih7 _ _ _ _)
   | (with_reducible exact petrinetref08_clear.mono _ _ _ _)
   | (with_reducible exact petrinetref08_primitive.mono _ _)
   | (with_reducible exact LeO.refl _)
   | (with_reducible exact LeO.none _)
   | (with_reducible refine LeO.ite ?_ ?_)
   | (with_reducible refine LeO.bind ?_ (fun _ => ?_))
   | exact ih0 _ _ _
   | exact ih1 _ _ _ _
   | exact ih2 _ _ _ _ _
   | exact ih3 _ _ _ _ _
   | exact ih4 _ _ _ _ _
   | exact ih5 _ _ _ _ _ _
   | exact ih6 _ _ _ _ _
   | exact ih7 _ _ _ _
   | exact petrinetref08_clear.mono _ _ _ _
   | exact petrinetref08_primitive.mono _ _
   | exact LeO.none _
   | refine LeO.ite ?_ ?_
   | refine LeO.bind ?_ (fun _ => ?_)
  ·
   intro y0 y1 y2 y3 y4 y5
   unfold petrinetref08_Echelon.j6
   repeat' first
   | (with_reducible exact ih0 _ _ _)
   | (with_reducible exact ih1 _ _ _ _)
   | (with_reducible exact ih2 _ _ _ _ _)
   | (with_reducible exact ih3 _ _ _ _ _)
   | (with_reducible exact ih4 _ _ _ _ _)
   | (with_reducible exact ih5 _ _ _ _ _ _)
   | (with_reducible exact ih6 _ _ _ _ _)
   | (with_reducible exact ih7 _ _ _ _)
   | (with_reducible exact petrinetref08_clear.mono _ _ _ _)
   | (with_reducible exact petrinetref08_primitive.mono _ _)
   | (with_reducible exact LeO.refl _)
   | (with_reducible exact LeO.none _)
   | (with_reducible refine LeO.ite ?_ ?_)
   | (with_reducible refine LeO.bind ?_ (fun _ => ?_))
   | exact ih0 _ _ _
   | exact ih1 _ _ _ _
   | exact ih2 _ _ _ _ _
   | exact ih3 _ _ _ _ _
   | exact ih4 _ _ _ _ _
   | exact ih5 _ _ _ _ _ _
   | exact ih6 _ _ _ _ _
   | exact ih7 _ _ _ _
   | exact petrinetref08_clear.mono _ _ _ _
   | exact petrinetref08_primitive.mono _ _
   | exact LeO.none _
   | refine LeO.ite ?_ ?_
   | refine LeO.bind ?_ (fun _ => ?_)
  ·
   intro y0 y1 y2 y3 y4
   unfold petrinetref08_Echelon.l2
   repeat' first
   | (with_reducible exact ih0 _ _ _)
   | (with_reducible exact ih1 _ _ _ _)
   | (with_reducible exact ih2 _ _ _ _ _)
   | (with_reducible exact ih3 _ _ _ _ _)
   | (with_reducible exact ih4 _ _ _ _ _)
   | (with_reducible exact ih5 _ _ _ _ _ _)
   | (with_reducible exact ih6 _ _ _ _ _)
   | (with_reducible exact ih7 _ _ _ _)
   | (with_reducible exact petrinetref08_clear.mono _ _ _ _)
   | (with_reducible exact petrinetref08_primitive.mono _ _)
   | (with_reducible exact LeO.refl _)
   | (with_reducible exact LeO.none _)
   | (with_reducible refine LeO.ite ?_ ?_)
   | (with_reducible refine LeO.bind ?_ (fun _ => ?_))
   | exact ih0 _ _ _
   | exact ih1 _ _ _ _
   | exact ih2 _ _ _ _ _
   | exact ih3 _ _ _ _ _
   | exact ih4 _ _ _ _ _
   | exact ih5 _ _ _ _ _ _
   | exact ih6 _ _ _ _ _
   | exact ih7 _ _ _ _
   | exact petrinetref08_clear.mono _ _ _ _
   | exact petrinetref08_primitive.mono _ _
   | exact LeO.none _
   | refine LeO.ite ?_ ?_
   | refine LeO.bind ?_ (fun _ => ?_)
  ·
   intro y0 y1 y2 y3
   unfold petrinetref08_Echelon.l4
   repeat' first
   | (with_reducible exact ih0 _ _ _)
   | (with_reducible exact ih1 _ _ _ _)
   | (with_reducible exact ih2 _ _ _ _ _)
   | (with_reducible exact ih3 _ _ _ _ _)
   | (with_reducible exact ih4 _ _ _ _ _)
   | (with_reducible exact ih5 _ _ _ _ _ _)
   | (with_reducible exact ih6 _ _ _ _ _)
   | (with_reducible exact ih7 _ _ _ _)
   | (with_reducible exact petrinetref08_clear.mono _ _ _ _)
   | (with_reducible exact petrinetref08_primitive.mono _ _)
   | (with_reducible exact LeO.refl _)
   | (with_reducible exact LeO.none _)
   | (with_reducible refine LeO.ite ?_ ?_)
   | (with_reducible refine LeO.bind ?_ (fun _ => ?_))
   | exact ih0 _ _ _
   | exact ih1 _ _ _ _
   | exact ih2 _ _ _ _ _
   | exact ih3 _ _ _ _ _
   | exact ih4 _ _ _ _ _
   | exact ih5 _ _ _ _ _ _
   | exact ih6 _ _ _ _ _
   | exact ih7 _ _ _ _
   | exact petrinetref08_clear.mono _ _ _ _
   | exact petrinetref08_primitive.mono _ _
   | exact LeO.none _
   | refine LeO.ite ?_ ?_
   | refine LeO.bind ?_ (fun _ => ?_)
theorem petrinetref08_Echelon.mono : ∀ a0 k, LeO (petrinetref08_Echelon.f k a0) (petrinetref08_Echelon.f (k + 1) a0) := by
 intro a0 k
 obtain ⟨ih0, ih1, ih2, ih3, ih4, ih5, ih6, ih7⟩ := petrinetref08_Echelon.mono_l k
 unfold petrinetref08_Echelon.f
 repeat' first
   | (with_reducible exact ih0 _ _ _)
   | (with_reducible exact ih1 _ _ _ _)
   | (with_reducible exact ih2 _ _ _ _ _)
   | (with_reducible exact ih3 _ _ _ _ _)
   | (with_reducible exact ih4 _ _ _ _ _)
   | (with_reducible exact ih5 _ _ _ _ _ _)
   | (with_reducible exact ih6 _ _ _ _ _)
   | (with_reducible exact ih7 _ _ _ _)
   | (with_reducible exact petrinetref08_clear.mono _ _ _ _)
   | (with_reducible exact petrinetref08_primitive.mono _ _)
   | (with_reducible exact LeO.refl _)
   | (with_reducible exact LeO.none _)
   | (with_reducible refine LeO.ite ?_ ?_)
   | (with_reducible refine LeO.bind ?_ (fun _ => ?_))
   | exact ih0 _ _ _
   | exact ih1 _ _ _ _
   | exact ih2 _ _ _ _ _
   | exact ih3 _ _ _ _ _
   | exact ih4 _ _ _ _ _
   | exact ih5 _ _ _ _ _ _
   | exact ih6 _ _ _ _ _
   | exact ih7 _ _ _ _
   | exact petrinetref08_clear.mono _ _ _ _
   | exact petrinetref08_primitive.mono _ _
   | exact LeO.none _
   | refine LeO.ite ?_ ?_
   | refine LeO.bind ?_ (fun _ => ?_)
def petrinetref08_Echelon.T24 : Bool × List (List Nat × List Nat) := (true, [([], []), ([], []), ([0, 1], [0, 1]), ([2], [2]), ([], []), ([], []), ([4, 5], [4, 5]), ([6], [6]), ([], []), ([3, 7, 8], [3, 7, 8]), ([9], [9]), ([10], [10]), ([10], [10]), ([11, 9, 0, 1, 2, 3, 4, 5, 6, 7, 8, 9, 10, 11], [11]), ([12, 13, 0, 1, 2, 3, 4, 5, 6, 7, 8, 9, 10, 11, 12, 13], [12])])
def petrinetref08_Echelon.B24 : List Nat := [0, 0, 3, 7, 0, 0, 48, 112, 0, 511, 1023, 2047, 2047, 4095, 16383]
theorem petrinetref08_Echelon.tab24 : rtab .any (opsOf Try.f17 24) = petrinetref08_Echelon.T24 := by kernel_rfl
theorem petrinetref08_Echelon.bits24 : waitsOk petrinetref08_Echelon.T24.2 petrinetref08_Echelon.B24 = true := by kernel_rfl
set_option maxHeartbeats 8000000 in
set_option maxRecDepth 100000 in
theorem petrinetref08_Echelon.calls (k : Nat) (A0 : Option Addr) (c0 : Nat) (l0 : List (List Int)) (r1 : List (List Int)) (r2 : Bool) (w : World) (hr0 : Kd.C (Kd.slice 2 (Kd.int .i64)) w A0 l0.length l0) (hc0 : l0.length ≤ c0) (h : petrinetref08_Echelon.f k l0 = some (r1, r2)) :
  Calls Try.prog 17 #[.slice A0 l0.length c0] w fun e w' => ∃ v0_ : Value, e = .returned (.tuple #[v0_, .bool r2]) ∧ Kd.N (Kd.slice 2 (Kd.int .i64)) 33 w' w.heap.size (fun k_ => (w.heap.size ≤ k_)) v0_ r1 ∧ Below w.heap.size w w' := by
 have HR0 := Aside0.mk hr0
 have HC0 := Aside0.mk hc0
 clear hr0 hc0
 have HB := Aside0.mk (Below.refl w.heap.size w)
 have H : (petrinetref08_Echelon.l0 k l0 ([] : List (List Int)) 0) = some (r1, r2) := h
 clear h
 have H' := Aside0.mk H
 clear H
 go_enter Try.func17, Try.ntmps17
 go_wp2
 go_loopg [4, 5] k (fun kq v4 v5 w' => ∃ (x4_1 : List (List Int)) (x5_1 : Int), v5 = .int .i64 x5_1 ∧ Aside0 (petrinetref08_Echelon.l0 kq l0 x4_1 x5_1 = some (r1, r2)) ∧ Aside0 (kq ≤ k) ∧ Aside0 (Kd.N (Kd.slice 2 (Kd.int .i64)) 33 w' w.heap.size (fun k_ => (w.heap.size ≤ k_)) v4 x4_1) ∧ Aside0 (Below w.heap.size w w'))
 case atStart => exact ⟨(([] : List (List Int))), (0), (by first | rfl | (simp; done) | (simp [*]; done)), H', ⟨Nat.le_refl _⟩, ⟨by first | exact Kd.S_nil _ _ _ _ _ | exact Kd.N_nil _ _ _ _ _ | exact Kd.V_nil _ _ _ _ _ | exact Kd.Q_nil _ _ _ _ _ | exact Kd.R_nil _ _ _ _ _⟩, ⟨by repeat (first | (with_reducible first | exact HB.out | apply below_alloc | apply pw_below_drewN | apply below_drew1) | exact HB.out)⟩⟩
 case round =>
  clear H'
  try clear c1
  obtain ⟨x4_1, x5_1, rfl, HA, HK1, HO_4, HB⟩ := hrel
  cases gk with
  | zero => exact absurd HA.out (by simp [petrinetref08_Echelon.l0])
  | succ k1 =>
   have H := HA.out
   clear HA
   simp only [petrinetref08_Echelon.l0] at H
   by_cases c2 : x5_1 < (l0.length : Int)
   ·
    rw [if_pos c2] at H
    have c2b0 : decide (x5_1 < (l0.length : Int)) = true := decide_eq_true c2
    clear c2
    by_cases c3 : 0 ≤ x5_1
    ·
     rw [if_pos c3] at H
     have c3b0 : decide (0 ≤ x5_1) = true := decide_eq_true c3
     clear c3
     replace H := Option.bind_eq_some_iff.mp H
     obtain ⟨⟨t328, t329⟩, A40, H⟩ := H
     replace H : (if t329 = true then (if x4_1.length < 5864062014805 then (petrinetref08_Echelon.l0 k1 l0 (x4_1 ++ [t328]) (wrap64 (x5_1 + 1))) else (none)) else (some (([] : List (List Int)), false))) = some (r1, r2) := H
     have A4 := Aside0.mk A40
     clear A40
     by_cases c5 : t329 = true
     ·
      subst c5
      have H1 : (if x4_1.length < 5864062014805 then (petrinetref08_Echelon.l0 k1 l0 (x4_1 ++ [t328]) (wrap64 (x5_1 + 1))) else (none)) = some (r1, r2) := by rw [if_pos rfl] at H; exact H
      clear H
      have H := H1
      clear H1
      by_cases c6 : x4_1.length < 5864062014805
      ·
       rw [if_pos c6] at H
       have LMc6 := Aside0.mk c6
       clear c6
       obtain ⟨y332, hy332⟩ : ∃ y_ : List (List Int), y_ = (x4_1 ++ [t328]) := ⟨_, rfl⟩
       replace H : (petrinetref08_Echelon.l0 k1 l0 y332 (wrap64 (x5_1 + 1))) = some (r1, r2) := by first | (rw [hy332]; with_reducible exact H) | (have H2_ := (Option.bind_some _ _).symm.trans H; rw [hy332]; with_reducible exact H2_) | (have H2_ := (Option.bind_some _ _).symm.trans H; with_reducible exact H2_) | with_reducible exact H | (rw [hy332]; exact H) | exact H
       have Ny332 := Aside0.mk hy332
       clear hy332
       have H' := Aside0.mk H
       clear H
       have p327 : 0 ≤ (x5_1 : Int) := of_decide_eq_true (by first | (with_reducible assumption) | assumption)
       have q327 : x5_1 < (l0.length : Int) := of_decide_eq_true (by first | (with_reducible assumption) | assumption)
       obtain ⟨ad327, A327_0, c327_0, e327, hx327_0, hl327_0, hi327_0⟩ := at_L1 HR0.out x5_1 p327 q327
       cases e327
       replace hx327_0 := (HB.out.cell (World.block_lt_of_cell? w _ hx327_0)).trans hx327_0
       have HR327_0 := Aside0.mk hi327_0
       have HC327_0 := Aside0.mk hl327_0
       clear hi327_0 hl327_0
       replace p327 := eq_true p327
       replace q327 := eq_true q327
       go_wp2_with (first | ((with_reducible refine gate_callee (f := 33) rfl ?_); refine goesL_ (some 28) rfl rfl Try.func33 (by kernel_rfl) rfl #[.slice A327_0 (rd_L1 l0 x5_1).length c327_0] rfl (by (try simp only [List.map_toArray, List.map_cons, List.map_nil]); first | done | rfl | (simp only [List.length_drop, List.length_take]; rfl)) ?_; (with_reducible refine (petrinetref08_primitive.calls k1 _ _ (rd_L1 l0 x5_1) t328 true _ ?side1 ?side2 A4.out).mono ?_); (case side1 => repeat (first | exact (Kd.C_below HR327_0.out HB.out) | (with_reducible refine Kd.C_alloc ?_ _) | (with_reducible refine Kd.C_drewN ?_ _) | (with_reducible refine Kd.C_drew ?_))); (case side2 => exact HC327_0.out); rintro e w7 ⟨v330, rfl, ho0, hb⟩; refine ⟨_, rfl, ?_⟩; have n0_ := Aside0.mk (Kd.N_elder' (by (with_reducible repeat (first | apply Kd.N_alloc | apply Kd.N_drewN | apply Kd.N_drew)); exact HO_4.out) (Kd.R_base ho0) hb); have n1_ := Aside0.mk (Kd.R_lower (Kd.R_newM (M := fun k_ => (w.heap.size ≤ k_)) ho0 (below_size (by repeat (first | (with_reducible first | exact HB.out | apply below_alloc | apply pw_below_drewN | apply below_drew1) | exact HB.out))) (fun k_ h_ => h_)) (below_size (by repeat (first | (with_reducible first | exact HB.out | apply below_alloc | apply pw_below_drewN | apply below_drew1) | exact HB.out)))); have n2_ := Aside0.mk (below_step (by repeat (first | (with_reducible first | exact HB.out | apply below_alloc | apply pw_below_drewN | apply below_drew1) | exact HB.out)) hb); clear HO_4; clear HB; have HO_4 := n0_; have HO331 := n1_; have HB := n2_; clear n0_ n1_ n2_; (try clear hb); (try clear hb2); (try clear hk); (try clear hi); (try clear ho0); obtain ⟨Ao9, co9, eo9⟩ := Kd.R_slice HO331.out; subst eo9) | ((with_reducible refine gate_builtin (b := .append) (xs := #[.tmp 33, .tmp 35]) rfl ?_); (try (refine gate_guard (by rfl) ?_; dsimp only)); at_builtin; refine Kd.N_append (Kd.slice 2 (Kd.int .i64)) (w0 := w) w.heap.size rfl (.tmp 33) (.tmp 35) 22 33 (.slice none 0 0) 24 rfl Try.underlying22 info33 rfl (by decide) (by omega) u4 x4_1 t328 [.slice Ao9 t328.length co9] (fun k_ => (w.heap.size ≤ k_)) (fun k_ => ((fun k_ => (w.heap.size ≤ k_))) k_ ∧ some k_ ≠ (u4 : Value).ownBlock) rfl rfl ?aP (fun _ hk => hk) ?aF ?aO ?aB ?aS ?aL ?_; (case aP => exact (Kd.FK_slice_mk (Kd.R_reads' (Kd.R_mono (ok' := (fun k_ => ((fun k_ => (w.heap.size ≤ k_))) k_ ∧ some k_ ≠ (u4 : Value).ownBlock)) (Kd.R_apart' (HO331.out) (Kd.N_typed HO_4.out) (by decide)) (fun k_ hk => ⟨hk.1.1, hk.2⟩))).2.1 (Kd.R_F (Kd.R_mono (ok' := (fun k_ => ((fun k_ => (w.heap.size ≤ k_))) k_ ∧ some k_ ≠ (u4 : Value).ownBlock)) (Kd.R_apart' (HO331.out) (Kd.N_typed HO_4.out) (by decide)) (fun k_ hk => ⟨hk.1.1, hk.2⟩))))); (case aB => exact (by repeat (first | (with_reducible first | exact HB.out | apply below_alloc | apply pw_below_drewN | apply below_drew1) | exact HB.out))); (case aF => exact (fun k_ hk => (Nat.le_trans (below_size (by repeat (first | (with_reducible first | exact HB.out | apply below_alloc | apply pw_below_drewN | apply below_drew1) | exact HB.out))) hk))); (case aO => exact (by (with_reducible repeat (first | apply Kd.N_alloc | apply Kd.N_drewN | apply Kd.N_drew)); exact Kd.N_mono HO_4.out (fun _ hk => hk.1))); (case aS => exact (below_size (by repeat (first | (with_reducible first | exact HB.out | apply below_alloc | apply pw_below_drewN | apply below_drew1) | exact HB.out)))); (case aL => have := LMc6.out; omega); intro v333 w8 ho hb hg hat; rw [← Ny332.out] at ho; have n0_ := Aside0.mk (hb); have n1_ := Aside0.mk (ho); clear HB; clear HO_4; clear HO331; have HB := n0_; have HO334 := n1_; clear n0_ n1_; clear ho hb hg hat))
       go_roundg k1
       case measure => have := HK1.out; omega
       case rel => exact ⟨(y332), (wrap64 (x5_1 + 1)), (by first | rfl | (simp; done) | (simp [*]; done)), H', ⟨by have := HK1.out; omega⟩, ⟨by (with_reducible repeat (first | apply Kd.N_alloc | apply Kd.N_drewN | apply Kd.N_drew)); exact HO334.out⟩, ⟨by repeat (first | (with_reducible first | exact HB.out | apply below_alloc | apply pw_below_drewN | apply below_drew1) | exact HB.out)⟩⟩
      ·
       rw [if_neg c6] at H
       exact absurd H (by simp)
     ·
      replace c5 := Bool.eq_false_iff.mpr c5
      subst c5
      have H1 : (some (([] : List (List Int)), false)) = some (r1, r2) := by rw [if_neg (show ¬ (false = true) by decide)] at H; exact H
      clear H
      have H := H1
      clear H1
      simp only [Option.some.injEq, Prod.mk.injEq] at H
      obtain ⟨rfl, rfl⟩ := H
      have p327 : 0 ≤ (x5_1 : Int) := of_decide_eq_true (by first | (with_reducible assumption) | assumption)
      have q327 : x5_1 < (l0.length : Int) := of_decide_eq_true (by first | (with_reducible assumption) | assumption)
      obtain ⟨ad327, A327_0, c327_0, e327, hx327_0, hl327_0, hi327_0⟩ := at_L1 HR0.out x5_1 p327 q327
      cases e327
      replace hx327_0 := (HB.out.cell (World.block_lt_of_cell? w _ hx327_0)).trans hx327_0
      have HR327_0 := Aside0.mk hi327_0
      have HC327_0 := Aside0.mk hl327_0
      clear hi327_0 hl327_0
      replace p327 := eq_true p327
      replace q327 := eq_true q327
      go_wp2_with (first | ((with_reducible refine gate_callee (f := 33) rfl ?_); refine goesL_ (some 28) rfl rfl Try.func33 (by kernel_rfl) rfl #[.slice A327_0 (rd_L1 l0 x5_1).length c327_0] rfl (by (try simp only [List.map_toArray, List.map_cons, List.map_nil]); first | done | rfl | (simp only [List.length_drop, List.length_take]; rfl)) ?_; (with_reducible refine (petrinetref08_primitive.calls k1 _ _ (rd_L1 l0 x5_1) t328 false _ ?side1 ?side2 A4.out).mono ?_); (case side1 => repeat (first | exact (Kd.C_below HR327_0.out HB.out) | (with_reducible refine Kd.C_alloc ?_ _) | (with_reducible refine Kd.C_drewN ?_ _) | (with_reducible refine Kd.C_drew ?_))); (case side2 => exact HC327_0.out); rintro e w10 ⟨v330, rfl, ho0, hb⟩; refine ⟨_, rfl, ?_⟩; have n0_ := Aside0.mk (Kd.N_elder' (by (with_reducible repeat (first | apply Kd.N_alloc | apply Kd.N_drewN | apply Kd.N_drew)); exact HO_4.out) (Kd.R_base ho0) hb); have n1_ := Aside0.mk (Kd.R_lower (Kd.R_newM (M := fun k_ => (w.heap.size ≤ k_)) ho0 (below_size (by repeat (first | (with_reducible first | exact HB.out | apply below_alloc | apply pw_below_drewN | apply below_drew1) | exact HB.out))) (fun k_ h_ => h_)) (below_size (by repeat (first | (with_reducible first | exact HB.out | apply below_alloc | apply pw_below_drewN | apply below_drew1) | exact HB.out)))); have n2_ := Aside0.mk (below_step (by repeat (first | (with_reducible first | exact HB.out | apply below_alloc | apply pw_below_drewN | apply below_drew1) | exact HB.out)) hb); clear HO_4; clear HB; have HO_4 := n0_; have HO331 := n1_; have HB := n2_; clear n0_ n1_ n2_; (try clear hb); (try clear hb2); (try clear hk); (try clear hi); (try clear ho0)))
      go_ret2
      exact ⟨_, by first | rfl | (simp [errW_none, errW_some] <;> rfl) | (simp [*, errW_none, errW_some] <;> rfl), by first | exact Kd.S_nil _ _ _ _ _ | exact Kd.N_nil _ _ _ _ _ | exact Kd.V_nil _ _ _ _ _ | exact Kd.Q_nil _ _ _ _ _ | exact Kd.R_nil _ _ _ _ _, by repeat (first | (with_reducible first | exact HB.out | apply below_alloc | apply pw_below_drewN | apply below_drew1) | exact HB.out)⟩
    ·
     rw [if_neg c3] at H
     exact absurd H (by simp)
   ·
    rw [if_neg c2] at H
    have c2b0 : decide (x5_1 < (l0.length : Int)) = false := decide_eq_false c2
    clear c2
    have H' := Aside0.mk H
    clear H
    go_wp2
    go_loopg [8, 9] k1 (fun kq v8 v9 w' => ∃ (x4_2 : List (List Int)) (x8_2 : Int) (x9_2 : Int), v8 = .int .i64 x8_2 ∧ v9 = .int .i64 x9_2 ∧ Aside0 (petrinetref08_Echelon.l1 kq l0 x4_2 x8_2 x9_2 = some (r1, r2)) ∧ Aside0 (kq ≤ k1) ∧ Aside0 (Kd.N (Kd.slice 2 (Kd.int .i64)) 33 w' w.heap.size (fun k_ => (w.heap.size ≤ k_)) u4 x4_2) ∧ Aside0 (Below w.heap.size w w'))
    case atStart => exact ⟨(x4_1), (0), (0), (by first | rfl | (simp; done) | (simp [*]; done)), (by first | rfl | (simp; done) | (simp [*]; done)), H', ⟨Nat.le_refl _⟩, ⟨by (with_reducible repeat (first | apply Kd.N_alloc | apply Kd.N_drewN | apply Kd.N_drew)); exact HO_4.out⟩, ⟨by repeat (first | (with_reducible first | exact HB.out | apply below_alloc | apply pw_below_drewN | apply below_drew1) | exact HB.out)⟩⟩
    case round =>
     clear H'
     try clear c1
     try clear c2
     try clear c2b0
     try clear p2
     try clear c3
     try clear c3b0
     try clear p3
     try clear q3
     try clear hx3
     try clear c5
     try clear c6
     try clear p6
     try clear hx327_0
     try clear p327
     try clear q327
     obtain ⟨x4_2, x8_2, x9_2, rfl, rfl, HA, HK2, HO_4, HB⟩ := hrel
     cases gk with
     | zero => exact absurd HA.out (by simp [petrinetref08_Echelon.l1])
     | succ k2 =>
      have H := HA.out
      clear HA
      simp only [petrinetref08_Echelon.l1] at H
      have HC11 := Aside0.mk H
      clear H
      go_upto_region 11 with (fail)
      go_cut [48] (fun v48 wc => ∃ (kq : Nat) (x48_10 : Bool), v48 = .bool x48_10 ∧ Aside0 (petrinetref08_Echelon.j2 kq l0 x4_2 x8_2 x9_2 x48_10 = some (r1, r2)) ∧ Aside0 (kq ≤ k2) ∧ Aside0 (Kd.N (Kd.slice 2 (Kd.int .i64)) 33 wc w.heap.size (fun k_ => (w.heap.size ≤ k_)) u4 x4_2) ∧ Aside0 (Below w.heap.size w wc))
      case first =>
       have H := HC11.out
       clear HC11
       by_cases c12 : 0 < (l0.length : Int)
       ·
        rw [if_pos c12] at H
        have c12b0 : decide (0 < (l0.length : Int)) = true := decide_eq_true c12
        have c12b1 : decide (0 < l0.length) = true := decide_eq_true (by omega)
        clear c12
        (first | rw [c12b0] | (simp only [i64_w, i32_w]; rw [c12b0]) | skip)
        by_cases c13 : x9_2 < ((rd_L1 l0 0).length : Int)
        ·
         rw [if_pos c13] at H
         have c13b0 : decide (x9_2 < ((rd_L1 l0 0).length : Int)) = true := decide_eq_true c13
         clear c13
         have H' := Aside0.mk H
         clear H
         have p335 : 0 ≤ (0 : Int) := (by omega)
         have q335 : 0 < (l0.length : Int) := of_decide_eq_true (by first | (with_reducible assumption) | assumption)
         obtain ⟨ad335, A335_0, c335_0, e335, hx335_0, hl335_0, hi335_0⟩ := at_L1 HR0.out 0 p335 q335
         cases e335
         have qi335 : (0 < l0.length) = True := eq_true (by omega)
         (try rw [show ((0 : Int)).toNat = 0 from rfl] at hx335_0)
         (try rw [Addr.add_zero'] at hx335_0)
         replace hx335_0 := (HB.out.cell (World.block_lt_of_cell? w _ hx335_0)).trans hx335_0
         have HR335_0 := Aside0.mk hi335_0
         have HC335_0 := Aside0.mk hl335_0
         clear hi335_0 hl335_0
         replace p335 := eq_true p335
         replace q335 := eq_true q335
         obtain ⟨Ao14, co14, eo14⟩ := Kd.N_slice HO_4.out
         subst eo14
         go_wp2
         go_meet
         case rel => exact ⟨_, (decide (x8_2 < (x4_2.length : Int))), (by first | rfl | (simp; done) | (simp [*]; done)), H', ⟨by have := HK1.out; have := HK2.out; first | omega | exact Nat.le_refl _⟩, ⟨by (with_reducible repeat (first | apply Kd.N_alloc | apply Kd.N_drewN | apply Kd.N_drew)); exact HO_4.out⟩, ⟨by repeat (first | (with_reducible first | exact HB.out | apply below_alloc | apply pw_below_drewN | apply below_drew1) | exact HB.out)⟩⟩
        ·
         rw [if_neg c13] at H
         have c13b0 : decide (x9_2 < ((rd_L1 l0 0).length : Int)) = false := decide_eq_false c13
         clear c13
         have H' := Aside0.mk H
         clear H
         have p335 : 0 ≤ (0 : Int) := (by omega)
         have q335 : 0 < (l0.length : Int) := of_decide_eq_true (by first | (with_reducible assumption) | assumption)
         obtain ⟨ad335, A335_0, c335_0, e335, hx335_0, hl335_0, hi335_0⟩ := at_L1 HR0.out 0 p335 q335
         cases e335
         have qi335 : (0 < l0.length) = True := eq_true (by omega)
         (try rw [show ((0 : Int)).toNat = 0 from rfl] at hx335_0)
         (try rw [Addr.add_zero'] at hx335_0)
         replace hx335_0 := (HB.out.cell (World.block_lt_of_cell? w _ hx335_0)).trans hx335_0
         have HR335_0 := Aside0.mk hi335_0
         have HC335_0 := Aside0.mk hl335_0
         clear hi335_0 hl335_0
         replace p335 := eq_true p335
         replace q335 := eq_true q335
         go_wp2
         go_meet
         case rel => exact ⟨_, (false), (by first | rfl | (simp; done) | (simp [*]; done)), H', ⟨by have := HK1.out; have := HK2.out; first | omega | exact Nat.le_refl _⟩, ⟨by (with_reducible repeat (first | apply Kd.N_alloc | apply Kd.N_drewN | apply Kd.N_drew)); exact HO_4.out⟩, ⟨by repeat (first | (with_reducible first | exact HB.out | apply below_alloc | apply pw_below_drewN | apply below_drew1) | exact HB.out)⟩⟩
       ·
        rw [if_neg c12] at H
        exact absurd H (by simp)
      case rest =>
       clear HC11
       try clear c1
       try clear c2
       try clear c2b0
       try clear p2
       try clear c3
       try clear c3b0
       try clear p3
       try clear q3
       try clear hx3
       try clear qi3
       try clear c5
       try clear c6
       try clear p6
       try clear c12
       try clear c12b0
       try clear c12b1
       try clear c13
       try clear c13b0
       try clear hx327_0
       try clear hx335_0
       try clear p2
       try clear p3
       try clear p327
       try clear p335
       try clear p6
       try clear q3
       try clear q327
       try clear q335
       obtain ⟨kq, x48_10, rfl, HA, HJ10, HO_4, HB⟩ := hcut
       cases kq with
       | zero => exact absurd HA.out (by simp [petrinetref08_Echelon.j2])
       | succ kj10 =>
        have H := HA.out
        clear HA
        simp only [petrinetref08_Echelon.j2] at H
        by_cases c15 : x48_10 = true
        ·
         subst c15
         have H1 : (petrinetref08_Echelon.l2 kj10 l0 x4_2 x8_2 x9_2 x8_2) = some (r1, r2) := by rw [if_pos rfl] at H; exact H
         clear H
         have H := H1
         clear H1
         have HC16 := Aside0.mk H
         clear H
         go_upto_block 4 with (fail)
         go_cut [10] (fun v10 wc => ∃ (kq : Nat) (x10_15 : Int), v10 = .int .i64 x10_15 ∧ Aside0 (petrinetref08_Echelon.j4 kq l0 x4_2 x8_2 x9_2 x10_15 = some (r1, r2)) ∧ Aside0 (kq ≤ kj10) ∧ Aside0 (Kd.N (Kd.slice 2 (Kd.int .i64)) 33 wc w.heap.size (fun k_ => (w.heap.size ≤ k_)) u4 x4_2) ∧ Aside0 (Below w.heap.size w wc))
         case first =>
          have H := HC16.out
          clear HC16
          have H' := Aside0.mk H
          clear H
          go_wp2
          go_loopg [10] kj10 (fun kq v10 w' => ∃ (x10_4 : Int), v10 = .int .i64 x10_4 ∧ Aside0 (petrinetref08_Echelon.l2 kq l0 x4_2 x8_2 x9_2 x10_4 = some (r1, r2)) ∧ Aside0 (kq ≤ kj10) ∧ Aside0 (Kd.N (Kd.slice 2 (Kd.int .i64)) 33 w' w.heap.size (fun k_ => (w.heap.size ≤ k_)) u4 x4_2) ∧ Aside0 (Below w.heap.size w w'))
          case atStart => exact ⟨(x8_2), (by first | rfl | (simp; done) | (simp [*]; done)), H', ⟨Nat.le_refl _⟩, ⟨by (with_reducible repeat (first | apply Kd.N_alloc | apply Kd.N_drewN | apply Kd.N_drew)); exact HO_4.out⟩, ⟨by repeat (first | (with_reducible first | exact HB.out | apply below_alloc | apply pw_below_drewN | apply below_drew1) | exact HB.out)⟩⟩
          case round =>
           clear H'
           try clear c1
           try clear c2
           try clear c2b0
           try clear p2
           try clear c3
           try clear c3b0
           try clear p3
           try clear q3
           try clear hx3
           try clear qi3
           try clear c5
           try clear c6
           try clear p6
           try clear c12
           try clear c12b0
           try clear c12b1
           try clear c13
           try clear c13b0
           try clear c15
           try clear hx327_0
           try clear hx335_0
           try clear p2
           try clear p3
           try clear p327
           try clear p335
           try clear p6
           try clear q3
           try clear q327
           try clear q335
           obtain ⟨x10_4, rfl, HA, HK4, HO_4, HB⟩ := hrel
           cases gk with
           | zero => exact absurd HA.out (by simp [petrinetref08_Echelon.l2])
           | succ k4 =>
            have H := HA.out
            clear HA
            simp only [petrinetref08_Echelon.l2] at H
            by_cases c17 : x10_4 < (x4_2.length : Int)
            ·
             rw [if_pos c17] at H
             have c17b0 : decide (x10_4 < (x4_2.length : Int)) = true := decide_eq_true c17
             clear c17
             (first | rw [c17b0] | (simp only [i64_w, i32_w]; rw [c17b0]) | skip)
             by_cases c18 : 0 ≤ x10_4
             ·
              rw [if_pos c18] at H
              have c18b0 : decide (0 ≤ x10_4) = true := decide_eq_true c18
              clear c18
              by_cases c19 : 0 ≤ x9_2
              ·
               rw [if_pos c19] at H
               have c19b0 : decide (0 ≤ x9_2) = true := decide_eq_true c19
               clear c19
               by_cases c20 : x9_2 < ((rd_L1 x4_2 x10_4).length : Int)
               ·
                rw [if_pos c20] at H
                have c20b0 : decide (x9_2 < ((rd_L1 x4_2 x10_4).length : Int)) = true := decide_eq_true c20
                clear c20
                by_cases c21 : (rd (rd_L1 x4_2 x10_4) x9_2) = 0
                ·
                 rw [if_pos c21] at H
                 have c21b0 : ((rd (rd_L1 x4_2 x10_4) x9_2) == 0) = true := beq_iff_eq.mpr c21
                 have c21b1 : ((rd (rd_L1 x4_2 x10_4) x9_2) != 0) = false := bne_eq_false_iff_eq.mpr c21
                 clear c21
                 have H' := Aside0.mk H
                 clear H
                 obtain ⟨Ao22, co22, eo22⟩ := Kd.N_slice HO_4.out
                 subst eo22
                 have p336 : 0 ≤ (x10_4 : Int) := of_decide_eq_true (by first | (with_reducible assumption) | assumption)
                 have q336 : x10_4 < (x4_2.length : Int) := of_decide_eq_true (by first | (with_reducible assumption) | assumption)
                 obtain ⟨ad336, A336_0, c336_0, e336, hx336_0, hl336_0, hi336_0⟩ := at_L1 (Kd.N_reads' HO_4.out).2.2 x10_4 p336 q336
                 cases e336
                 obtain ⟨ce336, hce336, hMe336, hcc336⟩ := Kd.N_get HO_4.out [] x10_4 p336 (by first | exact q336 | exact of_decide_eq_true (by first | (with_reducible assumption) | assumption) | (have e_ := (Kd.N_reads' HO_4.out).1; omega))
                 obtain ⟨ua336_0, uc336_0, rfl, ul336_0, ge336_0⟩ := Kd.FK_slice_open hMe336
                 have hv336_0 := hcc336 0 _ rfl
                 rw [Nat.add_zero, show ((Kd.slice 2 (Kd.int .i64))).sz = 1 from rfl, Nat.mul_one] at hv336_0
                 replace hv336_0 := Option.some.inj (hv336_0.symm.trans hx336_0)
                 injection hv336_0 with hva_ hvn_ hvc_
                 rw [hva_] at ge336_0
                 rw [hvc_] at ul336_0
                 have HL336_0 := Aside0.mk (show Kd.V (Kd.int .i64) 2 _ w.heap.size _ _ (rd_L1 x4_2 x10_4) from Kd.V_mk ul336_0 ge336_0)
                 clear hva_ hvn_ hvc_ ge336_0 ul336_0
                 clear hcc336 hce336
                 have HR336_0 := Aside0.mk hi336_0
                 have HC336_0 := Aside0.mk hl336_0
                 clear hi336_0 hl336_0
                 replace p336 := eq_true p336
                 replace q336 := eq_true q336
                 have p337 : 0 ≤ (x9_2 : Int) := of_decide_eq_true (by first | (with_reducible assumption) | assumption)
                 have q337 : x9_2 < ((rd_L1 x4_2 x10_4).length : Int) := of_decide_eq_true (by first | (with_reducible assumption) | assumption)
                 obtain ⟨ad337, e337, hx337_0⟩ := Kd.at_int (by repeat (first | (with_reducible exact HR336_0.out) | (with_reducible refine Kd.C_alloc ?_ _) | (with_reducible refine Kd.C_drewN ?_ _) | (with_reducible refine Kd.C_drew ?_) | exact HR336_0.out)) x9_2 p337 q337
                 cases e337
                 replace p337 := eq_true p337
                 replace q337 := eq_true q337
                 go_wp2
                 go_roundg k4
                 case measure => have := HK1.out; have := HK2.out; have := HJ10.out; have := HK4.out; omega
                 case rel => exact ⟨(wrap64 (x10_4 + 1)), (by first | rfl | (simp; done) | (simp [*]; done)), H', ⟨by have := HK1.out; have := HK2.out; have := HJ10.out; have := HK4.out; omega⟩, ⟨by (with_reducible repeat (first | apply Kd.N_alloc | apply Kd.N_drewN | apply Kd.N_drew)); exact HO_4.out⟩, ⟨by repeat (first | (with_reducible first | exact HB.out | apply below_alloc | apply pw_below_drewN | apply below_drew1) | exact HB.out)⟩⟩
                ·
                 rw [if_neg c21] at H
                 have c21b0 : ((rd (rd_L1 x4_2 x10_4) x9_2) == 0) = false := beq_eq_false_iff_ne.mpr c21
                 have c21b1 : ((rd (rd_L1 x4_2 x10_4) x9_2) != 0) = true := bne_iff_ne.mpr c21
                 have H' := Aside0.mk H
                 clear H
                 obtain ⟨Ao23, co23, eo23⟩ := Kd.N_slice HO_4.out
                 subst eo23
                 have p336 : 0 ≤ (x10_4 : Int) := of_decide_eq_true (by first | (with_reducible assumption) | assumption)
                 have q336 : x10_4 < (x4_2.length : Int) := of_decide_eq_true (by first | (with_reducible assumption) | assumption)
                 obtain ⟨ad336, A336_0, c336_0, e336, hx336_0, hl336_0, hi336_0⟩ := at_L1 (Kd.N_reads' HO_4.out).2.2 x10_4 p336 q336
                 cases e336
                 obtain ⟨ce336, hce336, hMe336, hcc336⟩ := Kd.N_get HO_4.out [] x10_4 p336 (by first | exact q336 | exact of_decide_eq_true (by first | (with_reducible assumption) | assumption) | (have e_ := (Kd.N_reads' HO_4.out).1; omega))
                 obtain ⟨ua336_0, uc336_0, rfl, ul336_0, ge336_0⟩ := Kd.FK_slice_open hMe336
                 have hv336_0 := hcc336 0 _ rfl
                 rw [Nat.add_zero, show ((Kd.slice 2 (Kd.int .i64))).sz = 1 from rfl, Nat.mul_one] at hv336_0
                 replace hv336_0 := Option.some.inj (hv336_0.symm.trans hx336_0)
                 injection hv336_0 with hva_ hvn_ hvc_
                 rw [hva_] at ge336_0
                 rw [hvc_] at ul336_0
                 have HL336_0 := Aside0.mk (show Kd.V (Kd.int .i64) 2 _ w.heap.size _ _ (rd_L1 x4_2 x10_4) from Kd.V_mk ul336_0 ge336_0)
                 clear hva_ hvn_ hvc_ ge336_0 ul336_0
                 clear hcc336 hce336
                 have HR336_0 := Aside0.mk hi336_0
                 have HC336_0 := Aside0.mk hl336_0
                 clear hi336_0 hl336_0
                 replace p336 := eq_true p336
                 replace q336 := eq_true q336
                 have p337 : 0 ≤ (x9_2 : Int) := of_decide_eq_true (by first | (with_reducible assumption) | assumption)
                 have q337 : x9_2 < ((rd_L1 x4_2 x10_4).length : Int) := of_decide_eq_true (by first | (with_reducible assumption) | assumption)
                 obtain ⟨ad337, e337, hx337_0⟩ := Kd.at_int (by repeat (first | (with_reducible exact HR336_0.out) | (with_reducible refine Kd.C_alloc ?_ _) | (with_reducible refine Kd.C_drewN ?_ _) | (with_reducible refine Kd.C_drew ?_) | exact HR336_0.out)) x9_2 p337 q337
                 cases e337
                 replace p337 := eq_true p337
                 replace q337 := eq_true q337
                 go_wp2
                 go_meet
                 case rel => exact ⟨_, (x10_4), (by first | rfl | (simp; done) | (simp [*]; done)), H', ⟨by have := HK1.out; have := HK2.out; have := HJ10.out; have := HK4.out; first | omega | exact Nat.le_refl _⟩, ⟨by (with_reducible repeat (first | apply Kd.N_alloc | apply Kd.N_drewN | apply Kd.N_drew)); exact HO_4.out⟩, ⟨by repeat (first | (with_reducible first | exact HB.out | apply below_alloc | apply pw_below_drewN | apply below_drew1) | exact HB.out)⟩⟩
               ·
                rw [if_neg c20] at H
                exact absurd H (by simp)
              ·
               rw [if_neg c19] at H
               exact absurd H (by simp)
             ·
              rw [if_neg c18] at H
              exact absurd H (by simp)
            ·
             rw [if_neg c17] at H
             have c17b0 : decide (x10_4 < (x4_2.length : Int)) = false := decide_eq_false c17
             clear c17
             (first | rw [c17b0] | (simp only [i64_w, i32_w]; rw [c17b0]) | skip)
             have H' := Aside0.mk H
             clear H
             obtain ⟨Ao24, co24, eo24⟩ := Kd.N_slice HO_4.out
             subst eo24
             go_wp2
             go_meet
             case rel => exact ⟨_, (x10_4), (by first | rfl | (simp; done) | (simp [*]; done)), H', ⟨by have := HK1.out; have := HK2.out; have := HJ10.out; have := HK4.out; first | omega | exact Nat.le_refl _⟩, ⟨by (with_reducible repeat (first | apply Kd.N_alloc | apply Kd.N_drewN | apply Kd.N_drew)); exact HO_4.out⟩, ⟨by repeat (first | (with_reducible first | exact HB.out | apply below_alloc | apply pw_below_drewN | apply below_drew1) | exact HB.out)⟩⟩
         case rest =>
          clear HC16
          try clear c1
          try clear c2
          try clear c2b0
          try clear p2
          try clear c3
          try clear c3b0
          try clear p3
          try clear q3
          try clear hx3
          try clear qi3
          try clear c5
          try clear c6
          try clear p6
          try clear c12
          try clear c12b0
          try clear c12b1
          try clear c13
          try clear c13b0
          try clear c15
          try clear c17
          try clear c17b0
          try clear c18
          try clear c18b0
          try clear c19
          try clear c19b0
          try clear c20
          try clear c20b0
          try clear c21
          try clear c21b0
          try clear c21b1
          try clear hx327_0
          try clear hx335_0
          try clear hx336_0
          try clear hx337_0
          try clear p2
          try clear p3
          try clear p327
          try clear p335
          try clear p336
          try clear p337
          try clear p6
          try clear q3
          try clear q327
          try clear q335
          try clear q336
          try clear q337
          obtain ⟨kq, x10_15, rfl, HA, HJ15, HO_4, HB⟩ := hcut
          cases kq with
          | zero => exact absurd HA.out (by simp [petrinetref08_Echelon.j4])
          | succ kj15 =>
           have H := HA.out
           clear HA
           simp only [petrinetref08_Echelon.j4] at H
           by_cases c25 : x10_15 = (x4_2.length : Int)
           ·
            rw [if_pos c25] at H
            have c25b0 : (x10_15 == (x4_2.length : Int)) = true := beq_iff_eq.mpr c25
            have c25b1 : (x10_15 != (x4_2.length : Int)) = false := bne_eq_false_iff_eq.mpr c25
            clear c25
            have H' := Aside0.mk H
            clear H
            obtain ⟨Ao26, co26, eo26⟩ := Kd.N_slice HO_4.out
            subst eo26
            go_wp2
            go_roundg kj15
            case measure => have := HK1.out; have := HK2.out; have := HJ10.out; have := HJ15.out; omega
            case rel => exact ⟨(x4_2), (x8_2), (wrap64 (x9_2 + 1)), (by first | rfl | (simp; done) | (simp [*]; done)), (by first | rfl | (simp; done) | (simp [*]; done)), H', ⟨by have := HK1.out; have := HK2.out; have := HJ10.out; have := HJ15.out; omega⟩, ⟨by (with_reducible repeat (first | apply Kd.N_alloc | apply Kd.N_drewN | apply Kd.N_drew)); exact HO_4.out⟩, ⟨by repeat (first | (with_reducible first | exact HB.out | apply below_alloc | apply pw_below_drewN | apply below_drew1) | exact HB.out)⟩⟩
           ·
            rw [if_neg c25] at H
            have c25b0 : (x10_15 == (x4_2.length : Int)) = false := beq_eq_false_iff_ne.mpr c25
            have c25b1 : (x10_15 != (x4_2.length : Int)) = true := bne_iff_ne.mpr c25
            by_cases c27 : 0 ≤ x10_15
            ·
             rw [if_pos c27] at H
             have c27b0 : decide (0 ≤ x10_15) = true := decide_eq_true c27
             clear c27
             by_cases c28 : x10_15 < (x4_2.length : Int)
             ·
              rw [if_pos c28] at H
              have c28b0 : decide (x10_15 < (x4_2.length : Int)) = true := decide_eq_true c28
              clear c28
              by_cases c29 : 0 ≤ x8_2
              ·
               rw [if_pos c29] at H
               have c29b0 : decide (0 ≤ x8_2) = true := decide_eq_true c29
               clear c29
               by_cases c30 : x8_2 < (x4_2.length : Int)
               ·
                rw [if_pos c30] at H
                have c30b0 : decide (x8_2 < (x4_2.length : Int)) = true := decide_eq_true c30
                clear c30
                obtain ⟨y340, hy340⟩ : ∃ y_ : List (List Int), y_ = (x4_2.set (x10_15 : Int).toNat (rd_L1 x4_2 x8_2)) := ⟨_, rfl⟩
                replace H : (petrinetref08_Echelon.l3 kj15 l0 (y340.set (x8_2 : Int).toNat (rd_L1 x4_2 x10_15)) x8_2 x9_2 0) = some (r1, r2) := by first | (rw [hy340]; with_reducible exact H) | (have H2_ := (Option.bind_some _ _).symm.trans H; rw [hy340]; with_reducible exact H2_) | (have H2_ := (Option.bind_some _ _).symm.trans H; with_reducible exact H2_) | with_reducible exact H | (rw [hy340]; exact H) | exact H
                have Ny340 := Aside0.mk hy340
                clear hy340
                obtain ⟨y341, hy341⟩ : ∃ y_ : List (List Int), y_ = (y340.set (x8_2 : Int).toNat (rd_L1 x4_2 x10_15)) := ⟨_, rfl⟩
                replace H : (petrinetref08_Echelon.l3 kj15 l0 y341 x8_2 x9_2 0) = some (r1, r2) := by first | (rw [hy341]; with_reducible exact H) | (have H2_ := (Option.bind_some _ _).symm.trans H; rw [hy341]; with_reducible exact H2_) | (have H2_ := (Option.bind_some _ _).symm.trans H; with_reducible exact H2_) | with_reducible exact H | (rw [hy341]; exact H) | exact H
                have Ny341 := Aside0.mk hy341
                clear hy341
                have H' := Aside0.mk H
                clear H
                obtain ⟨Ao33, co33, eo33⟩ := Kd.N_slice HO_4.out
                subst eo33
                have p338 : 0 ≤ (x10_15 : Int) := of_decide_eq_true (by first | (with_reducible assumption) | assumption)
                have q338 : x10_15 < (x4_2.length : Int) := of_decide_eq_true (by first | (with_reducible assumption) | assumption)
                obtain ⟨ad338, A338_0, c338_0, e338, hx338_0, hl338_0, hi338_0⟩ := at_L1 (Kd.N_reads' HO_4.out).2.2 x10_15 p338 q338
                cases e338
                obtain ⟨ce338, hce338, hMe338, hcc338⟩ := Kd.N_get HO_4.out [] x10_15 p338 (by first | exact q338 | exact of_decide_eq_true (by first | (with_reducible assumption) | assumption) | (have e_ := (Kd.N_reads' HO_4.out).1; omega))
                obtain ⟨ua338_0, uc338_0, rfl, ul338_0, ge338_0⟩ := Kd.FK_slice_open hMe338
                have hv338_0 := hcc338 0 _ rfl
                rw [Nat.add_zero, show ((Kd.slice 2 (Kd.int .i64))).sz = 1 from rfl, Nat.mul_one] at hv338_0
                replace hv338_0 := Option.some.inj (hv338_0.symm.trans hx338_0)
                injection hv338_0 with hva_ hvn_ hvc_
                rw [hva_] at ge338_0
                rw [hvc_] at ul338_0
                have HL338_0 := Aside0.mk (show Kd.V (Kd.int .i64) 2 _ w.heap.size _ _ (rd_L1 x4_2 x10_15) from Kd.V_mk ul338_0 ge338_0)
                clear hva_ hvn_ hvc_ ge338_0 ul338_0
                clear hcc338 hce338
                have HR338_0 := Aside0.mk hi338_0
                have HC338_0 := Aside0.mk hl338_0
                clear hi338_0 hl338_0
                replace p338 := eq_true p338
                replace q338 := eq_true q338
                have p339 : 0 ≤ (x8_2 : Int) := of_decide_eq_true (by first | (with_reducible assumption) | assumption)
                have q339 : x8_2 < (x4_2.length : Int) := of_decide_eq_true (by first | (with_reducible assumption) | assumption)
                obtain ⟨ad339, A339_0, c339_0, e339, hx339_0, hl339_0, hi339_0⟩ := at_L1 (Kd.N_reads' HO_4.out).2.2 x8_2 p339 q339
                obtain rfl : ad338 = ad339 := (by injection e339)
                obtain ⟨ce339, hce339, hMe339, hcc339⟩ := Kd.N_get HO_4.out [] x8_2 p339 (by first | exact q339 | exact of_decide_eq_true (by first | (with_reducible assumption) | assumption) | (have e_ := (Kd.N_reads' HO_4.out).1; omega))
                obtain ⟨ua339_0, uc339_0, rfl, ul339_0, ge339_0⟩ := Kd.FK_slice_open hMe339
                have hv339_0 := hcc339 0 _ rfl
                rw [Nat.add_zero, show ((Kd.slice 2 (Kd.int .i64))).sz = 1 from rfl, Nat.mul_one] at hv339_0
                replace hv339_0 := Option.some.inj (hv339_0.symm.trans hx339_0)
                injection hv339_0 with hva_ hvn_ hvc_
                rw [hva_] at ge339_0
                rw [hvc_] at ul339_0
                have HL339_0 := Aside0.mk (show Kd.V (Kd.int .i64) 2 _ w.heap.size _ _ (rd_L1 x4_2 x8_2) from Kd.V_mk ul339_0 ge339_0)
                clear hva_ hvn_ hvc_ ge339_0 ul339_0
                clear hcc339 hce339
                have HR339_0 := Aside0.mk hi339_0
                have HC339_0 := Aside0.mk hl339_0
                clear hi339_0 hl339_0
                replace p339 := eq_true p339
                replace q339 := eq_true q339
                have p31 : 0 ≤ (x10_15 : Int) := of_decide_eq_true (by first | (with_reducible assumption) | assumption)
                have q31 : (x10_15 : Int) < ((x4_2.length : Int) : Int) := of_decide_eq_true (by first | (with_reducible assumption) | assumption)
                obtain ⟨go31, co31, eo31, gb31, gl31, cl31, HG31⟩ := Kd.N_form HO_4.out (by omega)
                (first | cases eo31 | (injection eo31 with ea_ en_ ec_; (first | subst ea_ | (injection ea_ with ea_; subst ea_)); subst ec_; clear en_))
                have GB31 := Aside0.mk gb31
                have GG31 := Aside0.mk HG31
                clear gb31 gl31 HG31
                (first | simp only [add_plain] at hx338_0 | skip)
                (first | simp only [add_plain] at hx339_0 | skip)
                obtain ⟨ce31, hcl31, hM31, hcc31, hfr31⟩ := Kd.N_elem HO_4.out [] (x10_15 : Int) p31 q31
                obtain ⟨ua31_0, uc31_0, rfl, ul31_0, ge31_0⟩ := Kd.FK_slice_open hM31
                have hx31_0 := hcc31 0 _ rfl
                have hf31_0 := hfr31 0
                (try simp only [show ((Kd.slice 2 (Kd.int .i64))).sz = 1 from rfl, Nat.mul_one, Nat.add_zero] at hx31_0)
                (try simp only [show ((Kd.slice 2 (Kd.int .i64))).sz = 1 from rfl, Nat.mul_one, Nat.add_zero] at hf31_0)
                clear hcl31 hcc31 hfr31 hM31
                replace p31 := eq_true p31
                replace q31 := eq_true q31
                have HX34 := Aside0.mk (show Kd.N (Kd.slice 2 (Kd.int .i64)) 33 wc w.heap.size (fun k_ => (w.heap.size ≤ k_)) (.slice (some ⟨go31, 0, none⟩) x4_2.length co33) x4_2 from (by (with_reducible repeat (first | apply Kd.N_alloc | apply Kd.N_drewN | apply Kd.N_drew)); exact HO_4.out))
                obtain ⟨ce34, hcl34, hM34, hcc34, hfr34⟩ := Kd.N_elem HX34.out [] (x10_15 : Int) (of_decide_eq_true (by first | (with_reducible assumption) | assumption)) (by have h_ : (x10_15 : Int) < ((x4_2.length : Int) : Int) := of_decide_eq_true (by first | (with_reducible assumption) | assumption); first | exact h_ | (have e_ := (Kd.N_reads' HO_4.out).1; omega) | simpa using h_)
                obtain ⟨ua34_0, uc34_0, rfl, ul34_0, ge34_0⟩ := Kd.FK_slice_open hM34
                have HP34 := Kd.N_seg HX34.out (x10_15 : Int) (of_decide_eq_true (by first | (with_reducible assumption) | assumption)) (by have h_ : (x10_15 : Int) < ((x4_2.length : Int) : Int) := of_decide_eq_true (by first | (with_reducible assumption) | assumption); first | exact h_ | (have e_ := (Kd.N_reads' HO_4.out).1; omega) | simpa using h_) (seg := [.slice A339_0 (rd_L1 x4_2 x8_2).length c339_0]) (j := 0) hcl34 hcc34 (show 1 ≤ 1 from by decide) (x' := rd_L1 x4_2 x8_2) (Kd.FK_slice_mk (Kd.V_reads' (Kd.V_mono (ok' := (fun k_ => ((fun k_ => (w.heap.size ≤ k_))) k_ ∧ k_ ≠ go31)) (HL339_0.out) (fun k_ hk => ⟨hk.1, fun e_ => (hk.2) (by rw [e_]; rfl)⟩))).2.1 (Kd.V_F (Kd.V_mono (ok' := (fun k_ => ((fun k_ => (w.heap.size ≤ k_))) k_ ∧ k_ ≠ go31)) (HL339_0.out) (fun k_ hk => ⟨hk.1, fun e_ => (hk.2) (by rw [e_]; rfl)⟩)))) (fun _ hk => hk)
                have hx34_0 := hcc34 0 _ rfl
                (try simp only [show ((Kd.slice 2 (Kd.int .i64))).sz = 1 from rfl, Nat.mul_one, Nat.add_zero] at hx34_0)
                have hf34_0 := hfr34 0
                (try simp only [show ((Kd.slice 2 (Kd.int .i64))).sz = 1 from rfl, Nat.mul_one, Nat.add_zero] at hf34_0)
                clear hcl34 hcc34 hfr34 hM34
                (try simp only [show ((Kd.slice 2 (Kd.int .i64))).sz = 1 from rfl, Nat.mul_one, Nat.add_zero] at HP34)
                (try simp only [show ((Kd.slice 2 (Kd.int .i64))).sz = 1 from rfl, Nat.mul_one, Nat.add_zero] at HP34)
                go_wp2_with (first | ((with_reducible refine gate_store (t := 33) (p := 82) rfl ?_); refine store_event (t := 33) (p := 82) (v := ?vo_w35) (w1 := (wc.setCell ⟨go31, (x10_15 : Int).toNat, none⟩ (.slice A339_0 (rd_L1 x4_2 x8_2).length c339_0))) ?hg ?ho ?hn ?hr ?_; (case ho => rfl); (case hg => rfl); (case hn => rfl); (case hr => first | (go_simp; done) | (go_simp; rfl)); intro w35 hw; have hg : wc.grownBy w35 (some go31) := (by rw [hw]; exact HP34.2); have hp_ : Kd.N (Kd.slice 2 (Kd.int .i64)) 33 w35 w.heap.size (fun k_ => (w.heap.size ≤ k_)) (.slice (some ⟨go31, 0, none⟩) x4_2.length co33) y340 := (by rw [hw, Ny340.out]; exact HP34.1); clear HP34; have n0_ := Aside0.mk (hp_); have n1_ := Aside0.mk (Kd.V_afterv (v := (.slice (some ⟨go31, 0, none⟩) x4_2.length co33)) (v1 := (.slice (some ⟨go31, 0, none⟩) x4_2.length co33)) (ok := (fun k_ => (w.heap.size ≤ k_))) (by (with_reducible repeat (first | apply Kd.V_alloc | apply Kd.V_drewN | apply Kd.V_drew)); exact HL338_0.out) hg (.inl rfl)); have n2_ := Aside0.mk (Kd.V_afterv (v := (.slice (some ⟨go31, 0, none⟩) x4_2.length co33)) (v1 := (.slice (some ⟨go31, 0, none⟩) x4_2.length co33)) (ok := (fun k_ => (w.heap.size ≤ k_))) (by (with_reducible repeat (first | apply Kd.V_alloc | apply Kd.V_drewN | apply Kd.V_drew)); exact HL339_0.out) hg (.inl rfl)); have n3_ := Aside0.mk ((by rw [hw]; exact below_set (HB.out) GB31.out : Below w.heap.size w w35)); clear HO_4; clear HL338_0; clear HL339_0; clear HB; have HO_4 := n0_; have HL338_0 := n1_; have HL339_0 := n2_; have HB := n3_; clear n0_ n1_ n2_ n3_; clear hg hw hp_; have p32 : 0 ≤ (x8_2 : Int) := of_decide_eq_true (by first | (with_reducible assumption) | assumption); have q32 : (x8_2 : Int) < ((x4_2.length : Int) : Int) := of_decide_eq_true (by first | (with_reducible assumption) | assumption); obtain ⟨ce32, hcl32, hM32, hcc32, hfr32⟩ := Kd.N_elem HO_4.out [] (x8_2 : Int) p32 q32; obtain ⟨ua32_0, uc32_0, rfl, ul32_0, ge32_0⟩ := Kd.FK_slice_open hM32; have hx32_0 := hcc32 0 _ rfl; have hf32_0 := hfr32 0; (try simp only [show ((Kd.slice 2 (Kd.int .i64))).sz = 1 from rfl, Nat.mul_one, Nat.add_zero] at hx32_0); (try simp only [show ((Kd.slice 2 (Kd.int .i64))).sz = 1 from rfl, Nat.mul_one, Nat.add_zero] at hf32_0); clear hcl32 hcc32 hfr32 hM32; replace p32 := eq_true p32; replace q32 := eq_true q32; have HX36 := Aside0.mk (show Kd.N (Kd.slice 2 (Kd.int .i64)) 33 w35 w.heap.size (fun k_ => (w.heap.size ≤ k_)) (.slice (some ⟨go31, 0, none⟩) x4_2.length co33) y340 from (by (with_reducible repeat (first | apply Kd.N_alloc | apply Kd.N_drewN | apply Kd.N_drew)); exact HO_4.out)); obtain ⟨ce36, hcl36, hM36, hcc36, hfr36⟩ := Kd.N_elem HX36.out [] (x8_2 : Int) (of_decide_eq_true (by first | (with_reducible assumption) | assumption)) (by have h_ : (x8_2 : Int) < ((x4_2.length : Int) : Int) := of_decide_eq_true (by first | (with_reducible assumption) | assumption); first | exact h_ | (have e_ := (Kd.N_reads' HO_4.out).1; omega) | simpa using h_); obtain ⟨ua36_0, uc36_0, rfl, ul36_0, ge36_0⟩ := Kd.FK_slice_open hM36; have HP36 := Kd.N_seg HX36.out (x8_2 : Int) (of_decide_eq_true (by first | (with_reducible assumption) | assumption)) (by have h_ : (x8_2 : Int) < ((x4_2.length : Int) : Int) := of_decide_eq_true (by first | (with_reducible assumption) | assumption); first | exact h_ | (have e_ := (Kd.N_reads' HO_4.out).1; omega) | simpa using h_) (seg := [.slice A338_0 (rd_L1 x4_2 x10_15).length c338_0]) (j := 0) hcl36 hcc36 (show 1 ≤ 1 from by decide) (x' := rd_L1 x4_2 x10_15) (Kd.FK_slice_mk (Kd.V_reads' (Kd.V_mono (ok' := (fun k_ => ((fun k_ => (w.heap.size ≤ k_))) k_ ∧ k_ ≠ go31)) (HL338_0.out) (fun k_ hk => ⟨hk.1, fun e_ => (hk.2) (by rw [e_]; rfl)⟩))).2.1 (Kd.V_F (Kd.V_mono (ok' := (fun k_ => ((fun k_ => (w.heap.size ≤ k_))) k_ ∧ k_ ≠ go31)) (HL338_0.out) (fun k_ hk => ⟨hk.1, fun e_ => (hk.2) (by rw [e_]; rfl)⟩)))) (fun _ hk => hk); have hx36_0 := hcc36 0 _ rfl; (try simp only [show ((Kd.slice 2 (Kd.int .i64))).sz = 1 from rfl, Nat.mul_one, Nat.add_zero] at hx36_0); have hf36_0 := hfr36 0; (try simp only [show ((Kd.slice 2 (Kd.int .i64))).sz = 1 from rfl, Nat.mul_one, Nat.add_zero] at hf36_0); clear hcl36 hcc36 hfr36 hM36; (try simp only [show ((Kd.slice 2 (Kd.int .i64))).sz = 1 from rfl, Nat.mul_one, Nat.add_zero] at HP36); (try simp only [show ((Kd.slice 2 (Kd.int .i64))).sz = 1 from rfl, Nat.mul_one, Nat.add_zero] at HP36)) | ((with_reducible refine gate_store (t := 33) (p := 86) rfl ?_); refine store_event (t := 33) (p := 86) (v := ?vo_w37) (w1 := (w35.setCell ⟨go31, (x8_2 : Int).toNat, none⟩ (.slice A338_0 (rd_L1 x4_2 x10_15).length c338_0))) ?hg ?ho ?hn ?hr ?_; (case ho => rfl); (case hg => rfl); (case hn => rfl); (case hr => first | (go_simp; done) | (go_simp; rfl)); intro w37 hw; have hg : w35.grownBy w37 (some go31) := (by rw [hw]; exact HP36.2); have hp_ : Kd.N (Kd.slice 2 (Kd.int .i64)) 33 w37 w.heap.size (fun k_ => (w.heap.size ≤ k_)) (.slice (some ⟨go31, 0, none⟩) x4_2.length co33) y341 := (by rw [hw, Ny341.out]; exact HP36.1); clear HP36; have n0_ := Aside0.mk (hp_); have n1_ := Aside0.mk (Kd.V_afterv (v := (.slice (some ⟨go31, 0, none⟩) x4_2.length co33)) (v1 := (.slice (some ⟨go31, 0, none⟩) x4_2.length co33)) (ok := (fun k_ => (w.heap.size ≤ k_))) (by (with_reducible repeat (first | apply Kd.V_alloc | apply Kd.V_drewN | apply Kd.V_drew)); exact HL338_0.out) hg (.inl rfl)); have n2_ := Aside0.mk (Kd.V_afterv (v := (.slice (some ⟨go31, 0, none⟩) x4_2.length co33)) (v1 := (.slice (some ⟨go31, 0, none⟩) x4_2.length co33)) (ok := (fun k_ => (w.heap.size ≤ k_))) (by (with_reducible repeat (first | apply Kd.V_alloc | apply Kd.V_drewN | apply Kd.V_drew)); exact HL339_0.out) hg (.inl rfl)); have n3_ := Aside0.mk ((by rw [hw]; exact below_set (HB.out) GB31.out : Below w.heap.size w w37)); clear HO_4; clear HL338_0; clear HL339_0; clear HB; have HO_4 := n0_; have HL338_0 := n1_; have HL339_0 := n2_; have HB := n3_; clear n0_ n1_ n2_ n3_; clear hg hw hp_))
                go_loopg [12] kj15 (fun kq v12 w' => ∃ (x4_5 : List (List Int)) (x12_5 : Int), v12 = .int .i64 x12_5 ∧ Aside0 (petrinetref08_Echelon.l3 kq l0 x4_5 x8_2 x9_2 x12_5 = some (r1, r2)) ∧ Aside0 (kq ≤ kj15) ∧ Aside0 (Kd.N (Kd.slice 2 (Kd.int .i64)) 33 w' w.heap.size (fun k_ => (w.heap.size ≤ k_)) (.slice (some ⟨go31, 0, none⟩) x4_2.length co33) x4_5) ∧ Aside0 (Below w.heap.size w w'))
                case atStart => exact ⟨(y341), (0), (by first | rfl | (simp; done) | (simp [*]; done)), H', ⟨Nat.le_refl _⟩, ⟨by (with_reducible repeat (first | apply Kd.N_alloc | apply Kd.N_drewN | apply Kd.N_drew)); exact HO_4.out⟩, ⟨by repeat (first | (with_reducible first | exact HB.out | apply below_alloc | apply pw_below_drewN | apply below_drew1) | exact HB.out)⟩⟩
                case round =>
                 clear H'
                 try clear c1
                 try clear c2
                 try clear c2b0
                 try clear p2
                 try clear c3
                 try clear c3b0
                 try clear p3
                 try clear q3
                 try clear hx3
                 try clear qi3
                 try clear hf3
                 try clear c5
                 try clear c6
                 try clear p6
                 try clear c12
                 try clear c12b0
                 try clear c12b1
                 try clear c13
                 try clear c13b0
                 try clear c15
                 try clear c17
                 try clear c17b0
                 try clear c18
                 try clear c18b0
                 try clear c19
                 try clear c19b0
                 try clear c20
                 try clear c20b0
                 try clear c21
                 try clear c21b0
                 try clear c21b1
                 try clear c25
                 try clear c25b0
                 try clear c25b1
                 try clear c27
                 try clear c27b0
                 try clear c28
                 try clear c28b0
                 try clear c29
                 try clear c29b0
                 try clear c30
                 try clear c30b0
                 try clear c31
                 try clear p31
                 try clear q31
                 try clear hx31
                 try clear hf31
                 try clear c32
                 try clear p32
                 try clear q32
                 try clear hx32
                 try clear hf32
                 try clear c33
                 try clear p33
                 try clear q33
                 try clear hx33
                 try clear qi33
                 try clear c34
                 try clear hx34
                 try clear hf34
                 try clear c36
                 try clear hx36
                 try clear hf36
                 try clear hx31_0
                 try clear hx327_0
                 try clear hx32_0
                 try clear hx335_0
                 try clear hx336_0
                 try clear hx337_0
                 try clear hx338_0
                 try clear hx339_0
                 try clear hx34_0
                 try clear hx36_0
                 try clear p2
                 try clear p3
                 try clear p31
                 try clear p32
                 try clear p327
                 try clear p335
                 try clear p336
                 try clear p337
                 try clear p338
                 try clear p339
                 try clear p6
                 try clear q3
                 try clear q31
                 try clear q32
                 try clear q327
                 try clear q335
                 try clear q336
                 try clear q337
                 try clear q338
                 try clear q339
                 obtain ⟨x4_5, x12_5, rfl, HA, HK5, HO_4, HB⟩ := hrel
                 have hl4_5 := (Kd.N_reads' HO_4.out).1
                 rw [hl4_5] at HO_4
                 (try simp only [hl4_5])
                 cases gk with
                 | zero => exact absurd HA.out (by simp [petrinetref08_Echelon.l3])
                 | succ k5 =>
                  have H := HA.out
                  clear HA
                  simp only [petrinetref08_Echelon.l3] at H
                  by_cases c38 : x12_5 < (x4_5.length : Int)
                  ·
                   rw [if_pos c38] at H
                   have c38b0 : decide (x12_5 < (x4_5.length : Int)) = true := decide_eq_true c38
                   clear c38
                   have HC39 := Aside0.mk H
                   clear H
                   go_upto_region 23 with (fail)
                   go_cut [105] (fun v105 wc => ∃ (kq : Nat) (x105_38 : Bool), v105 = .bool x105_38 ∧ Aside0 (petrinetref08_Echelon.j6 kq l0 x4_5 x8_2 x9_2 x12_5 x105_38 = some (r1, r2)) ∧ Aside0 (kq ≤ k5) ∧ Aside0 (Kd.N (Kd.slice 2 (Kd.int .i64)) 33 wc w.heap.size (fun k_ => (w.heap.size ≤ k_)) (.slice (some ⟨go31, 0, none⟩) x4_5.length co33) x4_5) ∧ Aside0 (Below w.heap.size w wc))
                   case first =>
                    have H := HC39.out
                    clear HC39
                    by_cases c40 : x12_5 = x8_2
                    ·
                     rw [if_pos c40] at H
                     have c40b0 : (x12_5 == x8_2) = true := beq_iff_eq.mpr c40
                     have c40b1 : (x12_5 != x8_2) = false := bne_eq_false_iff_eq.mpr c40
                     clear c40
                     (first | rw [c40b0] | (simp only [i64_w, i32_w]; rw [c40b0]) | skip)
                     have H' := Aside0.mk H
                     clear H
                     go_wp2
                     go_meet
                     case rel => exact ⟨_, (false), (by first | rfl | (simp; done) | (simp [*]; done)), H', ⟨by have := HK1.out; have := HK2.out; have := HJ10.out; have := HJ15.out; have := HK5.out; first | omega | exact Nat.le_refl _⟩, ⟨by (try simp only [hl4_5]); (with_reducible repeat (first | apply Kd.N_alloc | apply Kd.N_drewN | apply Kd.N_drew)); exact HO_4.out⟩, ⟨by repeat (first | (with_reducible first | exact HB.out | apply below_alloc | apply pw_below_drewN | apply below_drew1) | exact HB.out)⟩⟩
                    ·
                     rw [if_neg c40] at H
                     have c40b0 : (x12_5 == x8_2) = false := beq_eq_false_iff_ne.mpr c40
                     have c40b1 : (x12_5 != x8_2) = true := bne_iff_ne.mpr c40
                     (first | rw [c40b0] | (simp only [i64_w, i32_w]; rw [c40b0]) | skip)
                     by_cases c41 : 0 ≤ x12_5
                     ·
                      rw [if_pos c41] at H
                      have c41b0 : decide (0 ≤ x12_5) = true := decide_eq_true c41
                      clear c41
                      by_cases c42 : 0 ≤ x9_2
                      ·
                       rw [if_pos c42] at H
                       have c42b0 : decide (0 ≤ x9_2) = true := decide_eq_true c42
                       clear c42
                       by_cases c43 : x9_2 < ((rd_L1 x4_5 x12_5).length : Int)
                       ·
                        rw [if_pos c43] at H
                        have c43b0 : decide (x9_2 < ((rd_L1 x4_5 x12_5).length : Int)) = true := decide_eq_true c43
                        clear c43
                        have H' := Aside0.mk H
                        clear H
                        have p342 : 0 ≤ (x12_5 : Int) := of_decide_eq_true (by first | (with_reducible assumption) | assumption)
                        have q342 : x12_5 < (x4_5.length : Int) := of_decide_eq_true (by first | (with_reducible assumption) | assumption)
                        obtain ⟨ad342, A342_0, c342_0, e342, hx342_0, hl342_0, hi342_0⟩ := at_L1 (Kd.N_reads' HO_4.out).2.2 x12_5 p342 q342
                        obtain rfl : (⟨go31, 0, none⟩ : Addr) = ad342 := (by injection e342)
                        obtain ⟨ce342, hce342, hMe342, hcc342⟩ := Kd.N_get HO_4.out [] x12_5 p342 (by first | exact q342 | exact of_decide_eq_true (by first | (with_reducible assumption) | assumption) | (have e_ := (Kd.N_reads' HO_4.out).1; omega))
                        obtain ⟨ua342_0, uc342_0, rfl, ul342_0, ge342_0⟩ := Kd.FK_slice_open hMe342
                        have hv342_0 := hcc342 0 _ rfl
                        rw [Nat.add_zero, show ((Kd.slice 2 (Kd.int .i64))).sz = 1 from rfl, Nat.mul_one] at hv342_0
                        replace hv342_0 := Option.some.inj (hv342_0.symm.trans hx342_0)
                        injection hv342_0 with hva_ hvn_ hvc_
                        rw [hva_] at ge342_0
                        rw [hvc_] at ul342_0
                        have HL342_0 := Aside0.mk (show Kd.V (Kd.int .i64) 2 _ w.heap.size _ _ (rd_L1 x4_5 x12_5) from Kd.V_mk ul342_0 ge342_0)
                        clear hva_ hvn_ hvc_ ge342_0 ul342_0
                        clear hcc342 hce342
                        (first | simp only [add_plain] at hx342_0 | simp only [add_at] at hx342_0 | simp only [Addr.add, Nat.zero_add] at hx342_0 | skip)
                        have HR342_0 := Aside0.mk hi342_0
                        have HC342_0 := Aside0.mk hl342_0
                        clear hi342_0 hl342_0
                        replace p342 := eq_true p342
                        replace q342 := eq_true q342
                        have p343 : 0 ≤ (x9_2 : Int) := of_decide_eq_true (by first | (with_reducible assumption) | assumption)
                        have q343 : x9_2 < ((rd_L1 x4_5 x12_5).length : Int) := of_decide_eq_true (by first | (with_reducible assumption) | assumption)
                        obtain ⟨ad343, e343, hx343_0⟩ := Kd.at_int (by repeat (first | (with_reducible exact HR342_0.out) | (with_reducible refine Kd.C_alloc ?_ _) | (with_reducible refine Kd.C_drewN ?_ _) | (with_reducible refine Kd.C_drew ?_) | exact HR342_0.out)) x9_2 p343 q343
                        cases e343
                        replace p343 := eq_true p343
                        replace q343 := eq_true q343
                        go_wp2
                        go_meet
                        case rel => exact ⟨_, (((rd (rd_L1 x4_5 x12_5) x9_2) != 0)), (by first | rfl | (simp; done) | (simp [*]; done)), H', ⟨by have := HK1.out; have := HK2.out; have := HJ10.out; have := HJ15.out; have := HK5.out; first | omega | exact Nat.le_refl _⟩, ⟨by (try simp only [hl4_5]); (with_reducible repeat (first | apply Kd.N_alloc | apply Kd.N_drewN | apply Kd.N_drew)); exact HO_4.out⟩, ⟨by repeat (first | (with_reducible first | exact HB.out | apply below_alloc | apply pw_below_drewN | apply below_drew1) | exact HB.out)⟩⟩
                       ·
                        rw [if_neg c43] at H
                        exact absurd H (by simp)
                      ·
                       rw [if_neg c42] at H
                       exact absurd H (by simp)
                     ·
                      rw [if_neg c41] at H
                      exact absurd H (by simp)
                   case rest =>
                    clear HC39
                    try clear c1
                    try clear c2
                    try clear c2b0
                    try clear p2
                    try clear c3
                    try clear c3b0
                    try clear p3
                    try clear q3
                    try clear hx3
                    try clear qi3
                    try clear hf3
                    try clear c4
                    try clear c5
                    try clear c6
                    try clear p6
                    try clear c12
                    try clear c12b0
                    try clear c12b1
                    try clear c13
                    try clear c13b0
                    try clear c15
                    try clear c17
                    try clear c17b0
                    try clear c18
                    try clear c18b0
                    try clear c19
                    try clear c19b0
                    try clear c20
                    try clear c20b0
                    try clear c21
                    try clear c21b0
                    try clear c21b1
                    try clear c25
                    try clear c25b0
                    try clear c25b1
                    try clear c27
                    try clear c27b0
                    try clear c28
                    try clear c28b0
                    try clear c29
                    try clear c29b0
                    try clear c30
                    try clear c30b0
                    try clear c31
                    try clear p31
                    try clear q31
                    try clear hx31
                    try clear hf31
                    try clear c32
                    try clear p32
                    try clear q32
                    try clear hx32
                    try clear hf32
                    try clear c33
                    try clear p33
                    try clear q33
                    try clear hx33
                    try clear qi33
                    try clear c34
                    try clear p34
                    try clear q34
                    try clear hx34
                    try clear hf34
                    try clear c36
                    try clear hx36
                    try clear hf36
                    try clear c38
                    try clear c38b0
                    try clear c40
                    try clear c40b0
                    try clear c40b1
                    try clear c41
                    try clear c41b0
                    try clear c42
                    try clear c42b0
                    try clear c43
                    try clear c43b0
                    try clear hx31_0
                    try clear hx327_0
                    try clear hx32_0
                    try clear hx335_0
                    try clear hx336_0
                    try clear hx337_0
                    try clear hx338_0
                    try clear hx339_0
                    try clear hx342_0
                    try clear hx343_0
                    try clear hx34_0
                    try clear hx36_0
                    try clear p2
                    try clear p3
                    try clear p31
                    try clear p32
                    try clear p327
                    try clear p33
                    try clear p335
                    try clear p336
                    try clear p337
                    try clear p338
                    try clear p339
                    try clear p342
                    try clear p343
                    try clear p6
                    try clear q3
                    try clear q31
                    try clear q32
                    try clear q327
                    try clear q33
                    try clear q335
                    try clear q336
                    try clear q337
                    try clear q338
                    try clear q339
                    try clear q342
                    try clear q343
                    obtain ⟨kq, x105_38, rfl, HA, HJ38, HO_4, HB⟩ := hcut
                    cases kq with
                    | zero => exact absurd HA.out (by simp [petrinetref08_Echelon.j6])
                    | succ kj38 =>
                     have H := HA.out
                     clear HA
                     simp only [petrinetref08_Echelon.j6] at H
                     by_cases c44 : x105_38 = true
                     ·
                      subst c44
                      have H1 : (if 0 ≤ x12_5 then (if x12_5 < (x4_5.length : Int) then (if 0 ≤ x8_2 then (if x8_2 < (x4_5.length : Int) then ((petrinetref08_clear.f kj38 (rd_L1 x4_5 x12_5) (rd_L1 x4_5 x8_2) x9_2).bind fun bt346 => (if bt346.2 = true then (petrinetref08_Echelon.l3 kj38 l0 (x4_5.set (x12_5 : Int).toNat bt346.1) x8_2 x9_2 (wrap64 (x12_5 + 1))) else (some (([] : List (List Int)), false)))) else (none)) else (none)) else (none)) else (none)) = some (r1, r2) := by rw [if_pos rfl] at H; exact H
                      clear H
                      have H := H1
                      clear H1
                      by_cases c45 : 0 ≤ x12_5
                      ·
                       rw [if_pos c45] at H
                       have c45b0 : decide (0 ≤ x12_5) = true := decide_eq_true c45
                       clear c45
                       by_cases c46 : x12_5 < (x4_5.length : Int)
                       ·
                        rw [if_pos c46] at H
                        have c46b0 : decide (x12_5 < (x4_5.length : Int)) = true := decide_eq_true c46
                        clear c46
                        by_cases c47 : 0 ≤ x8_2
                        ·
                         rw [if_pos c47] at H
                         have c47b0 : decide (0 ≤ x8_2) = true := decide_eq_true c47
                         clear c47
                         by_cases c48 : x8_2 < (x4_5.length : Int)
                         ·
                          rw [if_pos c48] at H
                          have c48b0 : decide (x8_2 < (x4_5.length : Int)) = true := decide_eq_true c48
                          clear c48
                          replace H := Option.bind_eq_some_iff.mp H
                          obtain ⟨⟨t346, t347⟩, A490, H⟩ := H
                          replace H : (if t347 = true then (petrinetref08_Echelon.l3 kj38 l0 (x4_5.set (x12_5 : Int).toNat t346) x8_2 x9_2 (wrap64 (x12_5 + 1))) else (some (([] : List (List Int)), false))) = some (r1, r2) := H
                          have A49 := Aside0.mk A490
                          clear A490
                          by_cases c50 : t347 = true
                          ·
                           subst c50
                           have H1 : (petrinetref08_Echelon.l3 kj38 l0 (x4_5.set (x12_5 : Int).toNat t346) x8_2 x9_2 (wrap64 (x12_5 + 1))) = some (r1, r2) := by rw [if_pos rfl] at H; exact H
                           clear H
                           have H := H1
                           clear H1
                           obtain ⟨y350, hy350⟩ : ∃ y_ : List (List Int), y_ = (x4_5.set (x12_5 : Int).toNat t346) := ⟨_, rfl⟩
                           replace H : (petrinetref08_Echelon.l3 kj38 l0 y350 x8_2 x9_2 (wrap64 (x12_5 + 1))) = some (r1, r2) := by first | (rw [hy350]; with_reducible exact H) | (have H2_ := (Option.bind_some _ _).symm.trans H; rw [hy350]; with_reducible exact H2_) | (have H2_ := (Option.bind_some _ _).symm.trans H; with_reducible exact H2_) | with_reducible exact H | (rw [hy350]; exact H) | exact H
                           have Ny350 := Aside0.mk hy350
                           clear hy350
                           have H' := Aside0.mk H
                           clear H
                           try go_wp2
                           have n0_ := Aside0.mk (Kd.N_drew HO_4.out)
                           have n1_ := Aside0.mk (below_drew1 HB.out)
                           clear HO_4
                           clear HB
                           have HO_4 := n0_
                           have HB := n1_
                           clear n0_ n1_
                           have p344 : 0 ≤ (x12_5 : Int) := of_decide_eq_true (by first | (with_reducible assumption) | assumption)
                           have q344 : x12_5 < (x4_5.length : Int) := of_decide_eq_true (by first | (with_reducible assumption) | assumption)
                           obtain ⟨ad344, A344_0, c344_0, e344, hx344_0, hl344_0, hi344_0⟩ := at_L1 (Kd.N_reads' HO_4.out).2.2 x12_5 p344 q344
                           obtain rfl : (⟨go31, 0, none⟩ : Addr) = ad344 := (by injection e344)
                           obtain ⟨ce344, hce344, hMe344, hcc344⟩ := Kd.N_get HO_4.out [] x12_5 p344 (by first | exact q344 | exact of_decide_eq_true (by first | (with_reducible assumption) | assumption) | (have e_ := (Kd.N_reads' HO_4.out).1; omega))
                           obtain ⟨ua344_0, uc344_0, rfl, ul344_0, ge344_0⟩ := Kd.FK_slice_open hMe344
                           have hv344_0 := hcc344 0 _ rfl
                           rw [Nat.add_zero, show ((Kd.slice 2 (Kd.int .i64))).sz = 1 from rfl, Nat.mul_one] at hv344_0
                           replace hv344_0 := Option.some.inj (hv344_0.symm.trans hx344_0)
                           injection hv344_0 with hva_ hvn_ hvc_
                           rw [hva_] at ge344_0
                           rw [hvc_] at ul344_0
                           have HL344_0 := Aside0.mk (show Kd.V (Kd.int .i64) 2 _ w.heap.size _ _ (rd_L1 x4_5 x12_5) from Kd.V_mk ul344_0 ge344_0)
                           clear hva_ hvn_ hvc_ ge344_0 ul344_0
                           clear hcc344 hce344
                           (first | simp only [add_plain] at hx344_0 | simp only [add_at] at hx344_0 | simp only [Addr.add, Nat.zero_add] at hx344_0 | skip)
                           have HR344_0 := Aside0.mk hi344_0
                           have HC344_0 := Aside0.mk hl344_0
                           clear hi344_0 hl344_0
                           replace p344 := eq_true p344
                           replace q344 := eq_true q344
                           have p345 : 0 ≤ (x8_2 : Int) := of_decide_eq_true (by first | (with_reducible assumption) | assumption)
                           have q345 : x8_2 < (x4_5.length : Int) := of_decide_eq_true (by first | (with_reducible assumption) | assumption)
                           obtain ⟨ad345, A345_0, c345_0, e345, hx345_0, hl345_0, hi345_0⟩ := at_L1 (Kd.N_reads' HO_4.out).2.2 x8_2 p345 q345
                           obtain rfl : (⟨go31, 0, none⟩ : Addr) = ad345 := (by injection e345)
                           obtain ⟨ce345, hce345, hMe345, hcc345⟩ := Kd.N_get HO_4.out [] x8_2 p345 (by first | exact q345 | exact of_decide_eq_true (by first | (with_reducible assumption) | assumption) | (have e_ := (Kd.N_reads' HO_4.out).1; omega))
                           obtain ⟨ua345_0, uc345_0, rfl, ul345_0, ge345_0⟩ := Kd.FK_slice_open hMe345
                           have hv345_0 := hcc345 0 _ rfl
                           rw [Nat.add_zero, show ((Kd.slice 2 (Kd.int .i64))).sz = 1 from rfl, Nat.mul_one] at hv345_0
                           replace hv345_0 := Option.some.inj (hv345_0.symm.trans hx345_0)
                           injection hv345_0 with hva_ hvn_ hvc_
                           rw [hva_] at ge345_0
                           rw [hvc_] at ul345_0
                           have HL345_0 := Aside0.mk (show Kd.V (Kd.int .i64) 2 _ w.heap.size _ _ (rd_L1 x4_5 x8_2) from Kd.V_mk ul345_0 ge345_0)
                           clear hva_ hvn_ hvc_ ge345_0 ul345_0
                           clear hcc345 hce345
                           (first | simp only [add_plain] at hx345_0 | simp only [add_at] at hx345_0 | simp only [Addr.add, Nat.zero_add] at hx345_0 | skip)
                           have HR345_0 := Aside0.mk hi345_0
                           have HC345_0 := Aside0.mk hl345_0
                           clear hi345_0 hl345_0
                           replace p345 := eq_true p345
                           replace q345 := eq_true q345
                           refine start_ (n := 15) (S := fun w' => w'.cell? ⟨go31, (x12_5).toNat, none⟩ = some (.slice A344_0 (rd_L1 x4_5 x12_5).length c344_0) ∧ w'.cell? ⟨go31, (x8_2).toNat, none⟩ = some (.slice A345_0 (rd_L1 x4_5 x8_2).length c345_0)) (ds := []) #[false, false, false, false, false, false, false, false, false, false, false, false, false, false, false] (by kernel_rfl) rfl rfl ⟨hx344_0, hx345_0⟩ (fun hHeld => ?_); refine with_tabW petrinetref08_Echelon.tab24 petrinetref08_Echelon.bits24 (fun HT_ HW_ => ?_)
                           generalize wc.drew = w52 at HO_4 HB HL344_0 HL345_0 HR344_0 HR345_0 hx344_0 hx345_0 hHeld ⊢
                           refine pure_ (i := 0) (N := some 107) (v := ?_) (a' := ?_) #[true, false, false, false, false, false, false, false, false, false, false, false, false, false, false] rfl rfl (any_of HT_.out (by kernel_rfl)) (fun _ _ _ h => h) (Or.inl ⟨by rfl, ?_⟩) ?_ ?_
                           rotate_left
                           ·
                            intro w'
                            go_simp
                            with_reducible rfl
                           rotate_left
                           ·
                            simp only [Act.put, List.setIfInBounds_toArray, List.set_cons_zero, List.set_cons_succ, i64_w, i32_w]
                            rfl
                           refine pure_ (i := 1) (N := some 108) (v := ?_) (a' := ?_) #[true, true, false, false, false, false, false, false, false, false, false, false, false, false, false] rfl rfl (any_of HT_.out (by kernel_rfl)) (fun _ _ _ h => h) (Or.inl ⟨by rfl, ?_⟩) ?_ ?_
                           rotate_left
                           ·
                            intro w'
                            go_simp
                            with_reducible rfl
                           rotate_left
                           ·
                            simp only [Act.put, List.setIfInBounds_toArray, List.set_cons_zero, List.set_cons_succ, i64_w, i32_w]
                            rfl
                           refine pure_ (i := 2) (N := some 109) (v := ?_) (a' := ?_) #[true, true, true, false, false, false, false, false, false, false, false, false, false, false, false] rfl rfl (any_of HT_.out (by kernel_rfl)) (fun _ _ _ h => h) (Or.inl ⟨by rfl, ?_⟩) ?_ ?_
                           rotate_left
                           ·
                            intro w'
                            go_simp
                            with_reducible rfl
                           rotate_left
                           ·
                            simp only [Act.put, List.setIfInBounds_toArray, List.set_cons_zero, List.set_cons_succ, i64_w, i32_w]
                            rfl
                           refine pure_ (i := 4) (N := some 111) (v := ?_) (a' := ?_) #[true, true, true, false, true, false, false, false, false, false, false, false, false, false, false] rfl rfl (any_of HT_.out (by kernel_rfl)) (fun _ _ _ h => h) (Or.inl ⟨by rfl, ?_⟩) ?_ ?_
                           rotate_left
                           ·
                            intro w'
                            go_simp
                            with_reducible rfl
                           rotate_left
                           ·
                            simp only [Act.put, List.setIfInBounds_toArray, List.set_cons_zero, List.set_cons_succ, i64_w, i32_w]
                            rfl
                           refine pure_ (i := 5) (N := some 112) (v := ?_) (a' := ?_) #[true, true, true, false, true, true, false, false, false, false, false, false, false, false, false] rfl rfl (any_of HT_.out (by kernel_rfl)) (fun _ _ _ h => h) (Or.inl ⟨by rfl, ?_⟩) ?_ ?_
                           rotate_left
                           ·
                            intro w'
                            go_simp
                            with_reducible rfl
                           rotate_left
                           ·
                            simp only [Act.put, List.setIfInBounds_toArray, List.set_cons_zero, List.set_cons_succ, i64_w, i32_w]
                            rfl
                           refine pure_ (i := 6) (N := some 113) (v := ?_) (a' := ?_) #[true, true, true, false, true, true, true, false, false, false, false, false, false, false, false] rfl rfl (any_of HT_.out (by kernel_rfl)) (fun _ _ _ h => h) (Or.inl ⟨by rfl, ?_⟩) ?_ ?_
                           rotate_left
                           ·
                            intro w'
                            go_simp
                            with_reducible rfl
                           rotate_left
                           ·
                            simp only [Act.put, List.setIfInBounds_toArray, List.set_cons_zero, List.set_cons_succ, i64_w, i32_w]
                            rfl
                           refine pure_ (i := 8) (N := some 115) (v := ?_) (a' := ?_) #[true, true, true, false, true, true, true, false, true, false, false, false, false, false, false] rfl rfl (any_of HT_.out (by kernel_rfl)) (fun _ _ _ h => h) (Or.inl ⟨by rfl, ?_⟩) ?_ ?_
                           rotate_left
                           ·
                            intro w'
                            go_simp
                            with_reducible rfl
                           rotate_left
                           ·
                            simp only [Act.put, List.setIfInBounds_toArray, List.set_cons_zero, List.set_cons_succ, i64_w, i32_w]
                            rfl
                           refine take_ (i := 3) (N := some 110) (v := ?_) (a' := ?_) #[true, true, true, true, true, true, true, false, true, false, false, false, false, false, false] rfl rfl (take_ofW HT_.out HW_.out (by kernel_rfl)) (fun _ _ _ h => h) (Or.inl ⟨by rfl, ?_⟩) hHeld ?_ ?_
                           rotate_left
                           ·
                            rintro w' ⟨s0, s1⟩
                            go_simp
                            with_reducible rfl
                           rotate_left
                           ·
                            simp only [Act.put, List.setIfInBounds_toArray, List.set_cons_zero, List.set_cons_succ, i64_w, i32_w]
                            rfl
                           refine take_ (i := 7) (N := some 114) (v := ?_) (a' := ?_) #[true, true, true, true, true, true, true, true, true, false, false, false, false, false, false] rfl rfl (take_ofW HT_.out HW_.out (by kernel_rfl)) (fun _ _ _ h => h) (Or.inl ⟨by rfl, ?_⟩) hHeld ?_ ?_
                           rotate_left
                           ·
                            rintro w' ⟨s0, s1⟩
                            go_simp
                            with_reducible rfl
                           rotate_left
                           ·
                            simp only [Act.put, List.setIfInBounds_toArray, List.set_cons_zero, List.set_cons_succ, i64_w, i32_w]
                            rfl
                           refine one_ (i := 9) (N := some 116) #[true, true, true, true, true, true, true, true, true, true, false, false, false, false, false] rfl rfl (one_of HT_.out (by kernel_rfl)) (by decide) (fun K hK => ?_)
                           refine goes_ Try.func34 (by kernel_rfl) rfl #[.slice A344_0 (rd_L1 x4_5 x12_5).length c344_0, .slice A345_0 (rd_L1 x4_5 x8_2).length c345_0, .int .i64 x9_2] (by rfl) rfl rfl (by (try simp only [List.map_toArray, List.map_cons, List.map_nil]); first | done | rfl | (simp only [List.length_drop, List.length_take]; rfl)) ?_
                           with_reducible refine (petrinetref08_clear.calls kj38 _ _ (rd_L1 x4_5 x12_5) _ _ (rd_L1 x4_5 x8_2) x9_2 t346 true _ ?side1 ?side2 ?side3 ?side4 A49.out).mono ?_
                           (case side1 => repeat (first | exact (by repeat (first | (with_reducible exact HR344_0.out) | (with_reducible refine Kd.C_alloc ?_ _) | (with_reducible refine Kd.C_drewN ?_ _) | (with_reducible refine Kd.C_drew ?_) | exact HR344_0.out)) | (with_reducible refine Kd.C_alloc ?_ _) | (with_reducible refine Kd.C_drewN ?_ _) | (with_reducible refine Kd.C_drew ?_)))
                           (case side2 => exact HC344_0.out)
                           (case side3 => repeat (first | exact (by repeat (first | (with_reducible exact HR345_0.out) | (with_reducible refine Kd.C_alloc ?_ _) | (with_reducible refine Kd.C_drewN ?_ _) | (with_reducible refine Kd.C_drew ?_) | exact HR345_0.out)) | (with_reducible refine Kd.C_alloc ?_ _) | (with_reducible refine Kd.C_drewN ?_ _) | (with_reducible refine Kd.C_drew ?_)))
                           (case side4 => exact HC345_0.out)
                           rintro e w53 ⟨v348, rfl, ho0, hb⟩
                           have HS0_ := (hb.cell (World.block_lt_of_cell? _ _ (hHeld.1))).trans (hHeld.1)
                           have HS1_ := (hb.cell (World.block_lt_of_cell? _ _ (hHeld.2))).trans (hHeld.2)
                           refine ⟨_, rfl, ?_⟩
                           have n0_ := Aside0.mk (Kd.N_elder' (by (with_reducible repeat (first | apply Kd.N_alloc | apply Kd.N_drewN | apply Kd.N_drew)); exact HO_4.out) (Kd.R_base ho0) hb)
                           have n1_ := Aside0.mk (Kd.V_elder' (by (with_reducible repeat (first | apply Kd.V_alloc | apply Kd.V_drewN | apply Kd.V_drew)); exact HL344_0.out) (Kd.R_base ho0) hb)
                           have n2_ := Aside0.mk (Kd.V_elder' (by (with_reducible repeat (first | apply Kd.V_alloc | apply Kd.V_drewN | apply Kd.V_drew)); exact HL345_0.out) (Kd.R_base ho0) hb)
                           have n3_ := Aside0.mk (Kd.R_lower (Kd.R_newM (M := fun k_ => (w.heap.size ≤ k_)) ho0 (below_size (by repeat (first | (with_reducible first | exact HB.out | apply below_alloc | apply pw_below_drewN | apply below_drew1) | exact HB.out))) (fun k_ h_ => h_)) (below_size (by repeat (first | (with_reducible first | exact HB.out | apply below_alloc | apply pw_below_drewN | apply below_drew1) | exact HB.out))))
                           have n4_ := Aside0.mk (Kd.C_below (by repeat (first | (with_reducible exact HR344_0.out) | (with_reducible refine Kd.C_alloc ?_ _) | (with_reducible refine Kd.C_drewN ?_ _) | (with_reducible refine Kd.C_drew ?_) | exact HR344_0.out)) hb)
                           have n5_ := Aside0.mk (Kd.C_below (by repeat (first | (with_reducible exact HR345_0.out) | (with_reducible refine Kd.C_alloc ?_ _) | (with_reducible refine Kd.C_drewN ?_ _) | (with_reducible refine Kd.C_drew ?_) | exact HR345_0.out)) hb)
                           have n6_ := Aside0.mk (below_step (by repeat (first | (with_reducible first | exact HB.out | apply below_alloc | apply pw_below_drewN | apply below_drew1) | exact HB.out)) hb)
                           clear HO_4
                           clear HL344_0
                           clear HL345_0
                           clear HR344_0
                           clear HR345_0
                           clear HB
                           have HO_4 := n0_
                           have HL344_0 := n1_
                           have HL345_0 := n2_
                           have HO349 := n3_
                           have HR344_0 := n4_
                           have HR345_0 := n5_
                           have HB := n6_
                           clear n0_ n1_ n2_ n3_ n4_ n5_ n6_
                           (try clear hb)
                           (try clear hb2)
                           (try clear hk)
                           (try clear hi)
                           (try clear ho0)
                           refine hK.out _ _ ⟨HS0_, HS1_⟩ (fun hHeld => ?_)
                           clear hK K
                           refine norm_ (a' := ?_) ?_ ?_
                           rotate_left
                           ·
                            show Act.put _ (some 116) _ = _
                            simp only [Act.put, List.setIfInBounds_toArray, List.set_cons_zero, List.set_cons_succ, i64_w, i32_w]
                            rfl
                           refine pure_ (i := 10) (N := some 106) (v := ?_) (a' := ?_) #[true, true, true, true, true, true, true, true, true, true, true, false, false, false, false] rfl rfl (any_of HT_.out (by kernel_rfl)) (fun _ _ _ h => h) (Or.inl ⟨by rfl, ?_⟩) ?_ ?_
                           rotate_left
                           ·
                            intro w'
                            go_simp
                            with_reducible rfl
                           rotate_left
                           ·
                            simp only [Act.put, List.setIfInBounds_toArray, List.set_cons_zero, List.set_cons_succ, i64_w, i32_w]
                            rfl
                           refine pure_ (i := 11) (N := some 117) (v := ?_) (a' := ?_) #[true, true, true, true, true, true, true, true, true, true, true, true, false, false, false] rfl rfl (any_of HT_.out (by kernel_rfl)) (fun _ _ _ h => h) (Or.inl ⟨by rfl, ?_⟩) ?_ ?_
                           rotate_left
                           ·
                            intro w'
                            go_simp
                            with_reducible rfl
                           rotate_left
                           ·
                            simp only [Act.put, List.setIfInBounds_toArray, List.set_cons_zero, List.set_cons_succ, i64_w, i32_w]
                            rfl
                           refine pure_ (i := 12) (N := some 118) (v := ?_) (a' := ?_) #[true, true, true, true, true, true, true, true, true, true, true, true, true, false, false] rfl rfl (any_of HT_.out (by kernel_rfl)) (fun _ _ _ h => h) (Or.inl ⟨by rfl, ?_⟩) ?_ ?_
                           rotate_left
                           ·
                            intro w'
                            go_simp
                            with_reducible rfl
                           rotate_left
                           ·
                            simp only [Act.put, List.setIfInBounds_toArray, List.set_cons_zero, List.set_cons_succ, i64_w, i32_w]
                            rfl
                           refine pure_ (i := 13) (N := some 13) (v := ?_) (a' := ?_) #[true, true, true, true, true, true, true, true, true, true, true, true, true, true, false] rfl rfl (any_of HT_.out (by kernel_rfl)) (fun _ _ _ h => h) (Or.inl ⟨by rfl, ?_⟩) ?_ ?_
                           rotate_left
                           ·
                            intro w'
                            go_simp
                            with_reducible rfl
                           rotate_left
                           ·
                            simp only [Act.put, List.setIfInBounds_toArray, List.set_cons_zero, List.set_cons_succ, i64_w, i32_w]
                            rfl
                           refine pure_ (i := 14) (N := some 14) (v := ?_) (a' := ?_) #[true, true, true, true, true, true, true, true, true, true, true, true, true, true, true] rfl rfl (any_of HT_.out (by kernel_rfl)) (fun _ _ _ h => h) (Or.inl ⟨by rfl, ?_⟩) ?_ ?_
                           rotate_left
                           ·
                            intro w'
                            go_simp
                            with_reducible rfl
                           rotate_left
                           ·
                            simp only [Act.put, List.setIfInBounds_toArray, List.set_cons_zero, List.set_cons_succ, i64_w, i32_w]
                            rfl
                           refine done_ (done_of HT_.out (by kernel_rfl)) ?_
                           have p51 : 0 ≤ (x12_5 : Int) := of_decide_eq_true (by first | (with_reducible assumption) | assumption)
                           have q51 : (x12_5 : Int) < ((x4_5.length : Int) : Int) := of_decide_eq_true (by first | (with_reducible assumption) | assumption)
                           obtain ⟨ce51, hcl51, hM51, hcc51, hfr51⟩ := Kd.N_elem HO_4.out [] (x12_5 : Int) p51 q51
                           obtain ⟨ua51_0, uc51_0, rfl, ul51_0, ge51_0⟩ := Kd.FK_slice_open hM51
                           have hx51_0 := hcc51 0 _ rfl
                           have hf51_0 := hfr51 0
                           (try simp only [show ((Kd.slice 2 (Kd.int .i64))).sz = 1 from rfl, Nat.mul_one, Nat.add_zero] at hx51_0)
                           (try simp only [show ((Kd.slice 2 (Kd.int .i64))).sz = 1 from rfl, Nat.mul_one, Nat.add_zero] at hf51_0)
                           clear hcl51 hcc51 hfr51 hM51
                           replace p51 := eq_true p51
                           replace q51 := eq_true q51
                           have HX54 := Aside0.mk (show Kd.N (Kd.slice 2 (Kd.int .i64)) 33 w53 w.heap.size (fun k_ => (w.heap.size ≤ k_)) (.slice (some ⟨go31, 0, none⟩) x4_5.length co33) x4_5 from (by (with_reducible repeat (first | apply Kd.N_alloc | apply Kd.N_drewN | apply Kd.N_drew)); exact Kd.N_mono HO_4.out (fun _ hk => hk.1)))
                           obtain ⟨ce54, hcl54, hM54, hcc54, hfr54⟩ := Kd.N_elem HX54.out [] (x12_5 : Int) (of_decide_eq_true (by first | (with_reducible assumption) | assumption)) (by have h_ : (x12_5 : Int) < ((x4_5.length : Int) : Int) := of_decide_eq_true (by first | (with_reducible assumption) | assumption); first | exact h_ | (have e_ := (Kd.N_reads' HO_4.out).1; omega) | simpa using h_)
                           obtain ⟨ua54_0, uc54_0, rfl, ul54_0, ge54_0⟩ := Kd.FK_slice_open hM54
                           have XA_ := Kd.R_apart' (d := Kd.int .i64) (HO349.out) (Kd.N_typed HX54.out) (by decide)
                           obtain ⟨Av_, cv_, hv_⟩ := Kd.R_slice HO349.out
                           have XB_ := XA_
                           rw [hv_] at XB_
                           have HP54 := Kd.N_seg HX54.out (x12_5 : Int) (of_decide_eq_true (by first | (with_reducible assumption) | assumption)) (by have h_ : (x12_5 : Int) < ((x4_5.length : Int) : Int) := of_decide_eq_true (by first | (with_reducible assumption) | assumption); first | exact h_ | (have e_ := (Kd.N_reads' HO_4.out).1; omega) | simpa using h_) (seg := [v348]) (j := 0) hcl54 hcc54 (show 1 ≤ 1 from by decide) (x' := t346) (by rw [hv_]; exact (Kd.FK_slice_mk (Kd.R_reads' (Kd.R_mono (ok' := (fun k_ => ((fun k_ => (w.heap.size ≤ k_))) k_ ∧ k_ ≠ go31)) XB_ (fun k_ hk => ⟨hk.1.1, fun e_ => (hk.2) (by rw [e_]; rfl)⟩))).2.1 (Kd.R_F (Kd.R_mono (ok' := (fun k_ => ((fun k_ => (w.heap.size ≤ k_))) k_ ∧ k_ ≠ go31)) XB_ (fun k_ hk => ⟨hk.1.1, fun e_ => (hk.2) (by rw [e_]; rfl)⟩))))) (fun _ hk => hk)
                           have hx54_0 := hcc54 0 _ rfl
                           (try simp only [show ((Kd.slice 2 (Kd.int .i64))).sz = 1 from rfl, Nat.mul_one, Nat.add_zero] at hx54_0)
                           have hf54_0 := hfr54 0
                           (try simp only [show ((Kd.slice 2 (Kd.int .i64))).sz = 1 from rfl, Nat.mul_one, Nat.add_zero] at hf54_0)
                           clear hcl54 hcc54 hfr54 hM54
                           (try simp only [show ((Kd.slice 2 (Kd.int .i64))).sz = 1 from rfl, Nat.mul_one, Nat.add_zero] at HP54)
                           (try simp only [show ((Kd.slice 2 (Kd.int .i64))).sz = 1 from rfl, Nat.mul_one, Nat.add_zero] at HP54)
                           try go_wp2_with (first | ((with_reducible refine gate_store (t := 33) (p := 124) rfl ?_); refine store_event (t := 33) (p := 124) (v := ?vo_w55) (w1 := (w53.setCell ⟨go31, (x12_5 : Int).toNat, none⟩ (v348))) ?hg ?ho ?hn ?hr ?_; (case ho => rfl); (case hg => rfl); (case hn => rfl); (case hr => first | (go_simp; done) | (go_simp; rfl)); intro w55 hw; have hg : w53.grownBy w55 (some go31) := (by rw [hw]; exact HP54.2); have hp_ : Kd.N (Kd.slice 2 (Kd.int .i64)) 33 w55 w.heap.size (fun k_ => (w.heap.size ≤ k_)) (.slice (some ⟨go31, 0, none⟩) x4_5.length co33) y350 := (by rw [hw, Ny350.out]; exact HP54.1); clear HP54; have n0_ := Aside0.mk (hp_); have n1_ := Aside0.mk (Kd.V_afterv (v := (.slice (some ⟨go31, 0, none⟩) x4_5.length co33)) (v1 := (.slice (some ⟨go31, 0, none⟩) x4_5.length co33)) (ok := (fun k_ => (w.heap.size ≤ k_) ∧ some k_ ≠ (v348 : Value).ownBlock)) (by (with_reducible repeat (first | apply Kd.V_alloc | apply Kd.V_drewN | apply Kd.V_drew)); exact Kd.V_mono HL344_0.out (fun _ hk => ⟨⟨hk.1.1, hk.2⟩, hk.1.2⟩)) hg (.inl rfl)); have n2_ := Aside0.mk (Kd.V_afterv (v := (.slice (some ⟨go31, 0, none⟩) x4_5.length co33)) (v1 := (.slice (some ⟨go31, 0, none⟩) x4_5.length co33)) (ok := (fun k_ => (w.heap.size ≤ k_) ∧ some k_ ≠ (v348 : Value).ownBlock)) (by (with_reducible repeat (first | apply Kd.V_alloc | apply Kd.V_drewN | apply Kd.V_drew)); exact Kd.V_mono HL345_0.out (fun _ hk => ⟨⟨hk.1.1, hk.2⟩, hk.1.2⟩)) hg (.inl rfl)); have n3_ := Aside0.mk ((by rw [hw]; exact below_set (HB.out) GB31.out : Below w.heap.size w w55)); clear HO_4; clear HL344_0; clear HL345_0; clear HB; clear HO349; have HO_4 := n0_; have HL344_0 := n1_; have HL345_0 := n2_; have HB := n3_; clear n0_ n1_ n2_ n3_; clear hg hw hp_))
                           (try simp only [← hl4_5])
                           go_roundg kj38
                           case measure => have := HK1.out; have := HK2.out; have := HJ10.out; have := HJ15.out; have := HK5.out; have := HJ38.out; omega
                           case rel => exact ⟨(y350), (wrap64 (x12_5 + 1)), (by first | rfl | (simp; done) | (simp [*]; done)), H', ⟨by have := HK1.out; have := HK2.out; have := HJ10.out; have := HJ15.out; have := HK5.out; have := HJ38.out; omega⟩, ⟨by (try simp only [hl4_5]); (with_reducible repeat (first | apply Kd.N_alloc | apply Kd.N_drewN | apply Kd.N_drew)); exact HO_4.out⟩, ⟨by repeat (first | (with_reducible first | exact HB.out | apply below_alloc | apply pw_below_drewN | apply below_drew1) | exact HB.out)⟩⟩
                          ·
                           replace c50 := Bool.eq_false_iff.mpr c50
                           subst c50
                           have H1 : (some (([] : List (List Int)), false)) = some (r1, r2) := by rw [if_neg (show ¬ (false = true) by decide)] at H; exact H
                           clear H
                           have H := H1
                           clear H1
                           simp only [Option.some.injEq, Prod.mk.injEq] at H
                           obtain ⟨rfl, rfl⟩ := H
                           try go_wp2
                           have n0_ := Aside0.mk (Kd.N_drew HO_4.out)
                           have n1_ := Aside0.mk (below_drew1 HB.out)
                           clear HO_4
                           clear HB
                           have HO_4 := n0_
                           have HB := n1_
                           clear n0_ n1_
                           have p344 : 0 ≤ (x12_5 : Int) := of_decide_eq_true (by first | (with_reducible assumption) | assumption)
                           have q344 : x12_5 < (x4_5.length : Int) := of_decide_eq_true (by first | (with_reducible assumption) | assumption)
                           obtain ⟨ad344, A344_0, c344_0, e344, hx344_0, hl344_0, hi344_0⟩ := at_L1 (Kd.N_reads' HO_4.out).2.2 x12_5 p344 q344
                           obtain rfl : (⟨go31, 0, none⟩ : Addr) = ad344 := (by injection e344)
                           obtain ⟨ce344, hce344, hMe344, hcc344⟩ := Kd.N_get HO_4.out [] x12_5 p344 (by first | exact q344 | exact of_decide_eq_true (by first | (with_reducible assumption) | assumption) | (have e_ := (Kd.N_reads' HO_4.out).1; omega))
                           obtain ⟨ua344_0, uc344_0, rfl, ul344_0, ge344_0⟩ := Kd.FK_slice_open hMe344
                           have hv344_0 := hcc344 0 _ rfl
                           rw [Nat.add_zero, show ((Kd.slice 2 (Kd.int .i64))).sz = 1 from rfl, Nat.mul_one] at hv344_0
                           replace hv344_0 := Option.some.inj (hv344_0.symm.trans hx344_0)
                           injection hv344_0 with hva_ hvn_ hvc_
                           rw [hva_] at ge344_0
                           rw [hvc_] at ul344_0
                           have HL344_0 := Aside0.mk (show Kd.V (Kd.int .i64) 2 _ w.heap.size _ _ (rd_L1 x4_5 x12_5) from Kd.V_mk ul344_0 ge344_0)
                           clear hva_ hvn_ hvc_ ge344_0 ul344_0
                           clear hcc344 hce344
                           (first | simp only [add_plain] at hx344_0 | simp only [add_at] at hx344_0 | simp only [Addr.add, Nat.zero_add] at hx344_0 | skip)
                           have HR344_0 := Aside0.mk hi344_0
                           have HC344_0 := Aside0.mk hl344_0
                           clear hi344_0 hl344_0
                           replace p344 := eq_true p344
                           replace q344 := eq_true q344
                           have p345 : 0 ≤ (x8_2 : Int) := of_decide_eq_true (by first | (with_reducible assumption) | assumption)
                           have q345 : x8_2 < (x4_5.length : Int) := of_decide_eq_true (by first | (with_reducible assumption) | assumption)
                           obtain ⟨ad345, A345_0, c345_0, e345, hx345_0, hl345_0, hi345_0⟩ := at_L1 (Kd.N_reads' HO_4.out).2.2 x8_2 p345 q345
                           obtain rfl : (⟨go31, 0, none⟩ : Addr) = ad345 := (by injection e345)
                           obtain ⟨ce345, hce345, hMe345, hcc345⟩ := Kd.N_get HO_4.out [] x8_2 p345 (by first | exact q345 | exact of_decide_eq_true (by first | (with_reducible assumption) | assumption) | (have e_ := (Kd.N_reads' HO_4.out).1; omega))
                           obtain ⟨ua345_0, uc345_0, rfl, ul345_0, ge345_0⟩ := Kd.FK_slice_open hMe345
                           have hv345_0 := hcc345 0 _ rfl
                           rw [Nat.add_zero, show ((Kd.slice 2 (Kd.int .i64))).sz = 1 from rfl, Nat.mul_one] at hv345_0
                           replace hv345_0 := Option.some.inj (hv345_0.symm.trans hx345_0)
                           injection hv345_0 with hva_ hvn_ hvc_
                           rw [hva_] at ge345_0
                           rw [hvc_] at ul345_0
                           have HL345_0 := Aside0.mk (show Kd.V (Kd.int .i64) 2 _ w.heap.size _ _ (rd_L1 x4_5 x8_2) from Kd.V_mk ul345_0 ge345_0)
                           clear hva_ hvn_ hvc_ ge345_0 ul345_0
                           clear hcc345 hce345
                           (first | simp only [add_plain] at hx345_0 | simp only [add_at] at hx345_0 | simp only [Addr.add, Nat.zero_add] at hx345_0 | skip)
                           have HR345_0 := Aside0.mk hi345_0
                           have HC345_0 := Aside0.mk hl345_0
                           clear hi345_0 hl345_0
                           replace p345 := eq_true p345
                           replace q345 := eq_true q345
                           refine start_ (n := 15) (S := fun w' => w'.cell? ⟨go31, (x12_5).toNat, none⟩ = some (.slice A344_0 (rd_L1 x4_5 x12_5).length c344_0) ∧ w'.cell? ⟨go31, (x8_2).toNat, none⟩ = some (.slice A345_0 (rd_L1 x4_5 x8_2).length c345_0)) (ds := []) #[false, false, false, false, false, false, false, false, false, false, false, false, false, false, false] (by kernel_rfl) rfl rfl ⟨hx344_0, hx345_0⟩ (fun hHeld => ?_); refine with_tabW petrinetref08_Echelon.tab24 petrinetref08_Echelon.bits24 (fun HT_ HW_ => ?_)
                           generalize wc.drew = w56 at HO_4 HB HL344_0 HL345_0 HR344_0 HR345_0 hx344_0 hx345_0 hHeld ⊢
                           refine pure_ (i := 0) (N := some 107) (v := ?_) (a' := ?_) #[true, false, false, false, false, false, false, false, false, false, false, false, false, false, false] rfl rfl (any_of HT_.out (by kernel_rfl)) (fun _ _ _ h => h) (Or.inl ⟨by rfl, ?_⟩) ?_ ?_
                           rotate_left
                           ·
                            intro w'
                            go_simp
                            with_reducible rfl
                           rotate_left
                           ·
                            simp only [Act.put, List.setIfInBounds_toArray, List.set_cons_zero, List.set_cons_succ, i64_w, i32_w]
                            rfl
                           refine pure_ (i := 1) (N := some 108) (v := ?_) (a' := ?_) #[true, true, false, false, false, false, false, false, false, false, false, false, false, false, false] rfl rfl (any_of HT_.out (by kernel_rfl)) (fun _ _ _ h => h) (Or.inl ⟨by rfl, ?_⟩) ?_ ?_
                           rotate_left
                           ·
                            intro w'
                            go_simp
                            with_reducible rfl
                           rotate_left
                           ·
                            simp only [Act.put, List.setIfInBounds_toArray, List.set_cons_zero, List.set_cons_succ, i64_w, i32_w]
                            rfl
                           refine pure_ (i := 2) (N := some 109) (v := ?_) (a' := ?_) #[true, true, true, false, false, false, false, false, false, false, false, false, false, false, false] rfl rfl (any_of HT_.out (by kernel_rfl)) (fun _ _ _ h => h) (Or.inl ⟨by rfl, ?_⟩) ?_ ?_
                           rotate_left
                           ·
                            intro w'
                            go_simp
                            with_reducible rfl
                           rotate_left
                           ·
                            simp only [Act.put, List.setIfInBounds_toArray, List.set_cons_zero, List.set_cons_succ, i64_w, i32_w]
                            rfl
                           refine pure_ (i := 4) (N := some 111) (v := ?_) (a' := ?_) #[true, true, true, false, true, false, false, false, false, false, false, false, false, false, false] rfl rfl (any_of HT_.out (by kernel_rfl)) (fun _ _ _ h => h) (Or.inl ⟨by rfl, ?_⟩) ?_ ?_
                           rotate_left
                           ·
                            intro w'
                            go_simp
                            with_reducible rfl
                           rotate_left
                           ·
                            simp only [Act.put, List.setIfInBounds_toArray, List.set_cons_zero, List.set_cons_succ, i64_w, i32_w]
                            rfl
                           refine pure_ (i := 5) (N := some 112) (v := ?_) (a' := ?_) #[true, true, true, false, true, true, false, false, false, false, false, false, false, false, false] rfl rfl (any_of HT_.out (by kernel_rfl)) (fun _ _ _ h => h) (Or.inl ⟨by rfl, ?_⟩) ?_ ?_
                           rotate_left
                           ·
                            intro w'
                            go_simp
                            with_reducible rfl
                           rotate_left
                           ·
                            simp only [Act.put, List.setIfInBounds_toArray, List.set_cons_zero, List.set_cons_succ, i64_w, i32_w]
                            rfl
                           refine pure_ (i := 6) (N := some 113) (v := ?_) (a' := ?_) #[true, true, true, false, true, true, true, false, false, false, false, false, false, false, false] rfl rfl (any_of HT_.out (by kernel_rfl)) (fun _ _ _ h => h) (Or.inl ⟨by rfl, ?_⟩) ?_ ?_
                           rotate_left
                           ·
                            intro w'
                            go_simp
                            with_reducible rfl
                           rotate_left
                           ·
                            simp only [Act.put, List.setIfInBounds_toArray, List.set_cons_zero, List.set_cons_succ, i64_w, i32_w]
                            rfl
                           refine pure_ (i := 8) (N := some 115) (v := ?_) (a' := ?_) #[true, true, true, false, true, true, true, false, true, false, false, false, false, false, false] rfl rfl (any_of HT_.out (by kernel_rfl)) (fun _ _ _ h => h) (Or.inl ⟨by rfl, ?_⟩) ?_ ?_
                           rotate_left
                           ·
                            intro w'
                            go_simp
                            with_reducible rfl
                           rotate_left
                           ·
                            simp only [Act.put, List.setIfInBounds_toArray, List.set_cons_zero, List.set_cons_succ, i64_w, i32_w]
                            rfl
                           refine take_ (i := 3) (N := some 110) (v := ?_) (a' := ?_) #[true, true, true, true, true, true, true, false, true, false, false, false, false, false, false] rfl rfl (take_ofW HT_.out HW_.out (by kernel_rfl)) (fun _ _ _ h => h) (Or.inl ⟨by rfl, ?_⟩) hHeld ?_ ?_
                           rotate_left
                           ·
                            rintro w' ⟨s0, s1⟩
                            go_simp
                            with_reducible rfl
                           rotate_left
                           ·
                            simp only [Act.put, List.setIfInBounds_toArray, List.set_cons_zero, List.set_cons_succ, i64_w, i32_w]
                            rfl
                           refine take_ (i := 7) (N := some 114) (v := ?_) (a' := ?_) #[true, true, true, true, true, true, true, true, true, false, false, false, false, false, false] rfl rfl (take_ofW HT_.out HW_.out (by kernel_rfl)) (fun _ _ _ h => h) (Or.inl ⟨by rfl, ?_⟩) hHeld ?_ ?_
                           rotate_left
                           ·
                            rintro w' ⟨s0, s1⟩
                            go_simp
                            with_reducible rfl
                           rotate_left
                           ·
                            simp only [Act.put, List.setIfInBounds_toArray, List.set_cons_zero, List.set_cons_succ, i64_w, i32_w]
                            rfl
                           refine one_ (i := 9) (N := some 116) #[true, true, true, true, true, true, true, true, true, true, false, false, false, false, false] rfl rfl (one_of HT_.out (by kernel_rfl)) (by decide) (fun K hK => ?_)
                           refine goes_ Try.func34 (by kernel_rfl) rfl #[.slice A344_0 (rd_L1 x4_5 x12_5).length c344_0, .slice A345_0 (rd_L1 x4_5 x8_2).length c345_0, .int .i64 x9_2] (by rfl) rfl rfl (by (try simp only [List.map_toArray, List.map_cons, List.map_nil]); first | done | rfl | (simp only [List.length_drop, List.length_take]; rfl)) ?_
                           with_reducible refine (petrinetref08_clear.calls kj38 _ _ (rd_L1 x4_5 x12_5) _ _ (rd_L1 x4_5 x8_2) x9_2 t346 false _ ?side1 ?side2 ?side3 ?side4 A49.out).mono ?_
                           (case side1 => repeat (first | exact (by repeat (first | (with_reducible exact HR344_0.out) | (with_reducible refine Kd.C_alloc ?_ _) | (with_reducible refine Kd.C_drewN ?_ _) | (with_reducible refine Kd.C_drew ?_) | exact HR344_0.out)) | (with_reducible refine Kd.C_alloc ?_ _) | (with_reducible refine Kd.C_drewN ?_ _) | (with_reducible refine Kd.C_drew ?_)))
                           (case side2 => exact HC344_0.out)
                           (case side3 => repeat (first | exact (by repeat (first | (with_reducible exact HR345_0.out) | (with_reducible refine Kd.C_alloc ?_ _) | (with_reducible refine Kd.C_drewN ?_ _) | (with_reducible refine Kd.C_drew ?_) | exact HR345_0.out)) | (with_reducible refine Kd.C_alloc ?_ _) | (with_reducible refine Kd.C_drewN ?_ _) | (with_reducible refine Kd.C_drew ?_)))
                           (case side4 => exact HC345_0.out)
                           rintro e w57 ⟨v348, rfl, ho0, hb⟩
                           have HS0_ := (hb.cell (World.block_lt_of_cell? _ _ (hHeld.1))).trans (hHeld.1)
                           have HS1_ := (hb.cell (World.block_lt_of_cell? _ _ (hHeld.2))).trans (hHeld.2)
                           refine ⟨_, rfl, ?_⟩
                           have n0_ := Aside0.mk (Kd.N_elder' (by (with_reducible repeat (first | apply Kd.N_alloc | apply Kd.N_drewN | apply Kd.N_drew)); exact HO_4.out) (Kd.R_base ho0) hb)
                           have n1_ := Aside0.mk (Kd.V_elder' (by (with_reducible repeat (first | apply Kd.V_alloc | apply Kd.V_drewN | apply Kd.V_drew)); exact HL344_0.out) (Kd.R_base ho0) hb)
                           have n2_ := Aside0.mk (Kd.V_elder' (by (with_reducible repeat (first | apply Kd.V_alloc | apply Kd.V_drewN | apply Kd.V_drew)); exact HL345_0.out) (Kd.R_base ho0) hb)
                           have n3_ := Aside0.mk (Kd.R_lower (Kd.R_newM (M := fun k_ => (w.heap.size ≤ k_)) ho0 (below_size (by repeat (first | (with_reducible first | exact HB.out | apply below_alloc | apply pw_below_drewN | apply below_drew1) | exact HB.out))) (fun k_ h_ => h_)) (below_size (by repeat (first | (with_reducible first | exact HB.out | apply below_alloc | apply pw_below_drewN | apply below_drew1) | exact HB.out))))
                           have n4_ := Aside0.mk (Kd.C_below (by repeat (first | (with_reducible exact HR344_0.out) | (with_reducible refine Kd.C_alloc ?_ _) | (with_reducible refine Kd.C_drewN ?_ _) | (with_reducible refine Kd.C_drew ?_) | exact HR344_0.out)) hb)
                           have n5_ := Aside0.mk (Kd.C_below (by repeat (first | (with_reducible exact HR345_0.out) | (with_reducible refine Kd.C_alloc ?_ _) | (with_reducible refine Kd.C_drewN ?_ _) | (with_reducible refine Kd.C_drew ?_) | exact HR345_0.out)) hb)
                           have n6_ := Aside0.mk (below_step (by repeat (first | (with_reducible first | exact HB.out | apply below_alloc | apply pw_below_drewN | apply below_drew1) | exact HB.out)) hb)
                           clear HO_4
                           clear HL344_0
                           clear HL345_0
                           clear HR344_0
                           clear HR345_0
                           clear HB
                           have HO_4 := n0_
                           have HL344_0 := n1_
                           have HL345_0 := n2_
                           have HO349 := n3_
                           have HR344_0 := n4_
                           have HR345_0 := n5_
                           have HB := n6_
                           clear n0_ n1_ n2_ n3_ n4_ n5_ n6_
                           (try clear hb)
                           (try clear hb2)
                           (try clear hk)
                           (try clear hi)
                           (try clear ho0)
                           refine hK.out _ _ ⟨HS0_, HS1_⟩ (fun hHeld => ?_)
                           clear hK K
                           refine norm_ (a' := ?_) ?_ ?_
                           rotate_left
                           ·
                            show Act.put _ (some 116) _ = _
                            simp only [Act.put, List.setIfInBounds_toArray, List.set_cons_zero, List.set_cons_succ, i64_w, i32_w]
                            rfl
                           refine pure_ (i := 10) (N := some 106) (v := ?_) (a' := ?_) #[true, true, true, true, true, true, true, true, true, true, true, false, false, false, false] rfl rfl (any_of HT_.out (by kernel_rfl)) (fun _ _ _ h => h) (Or.inl ⟨by rfl, ?_⟩) ?_ ?_
                           rotate_left
                           ·
                            intro w'
                            go_simp
                            with_reducible rfl
                           rotate_left
                           ·
                            simp only [Act.put, List.setIfInBounds_toArray, List.set_cons_zero, List.set_cons_succ, i64_w, i32_w]
                            rfl
                           refine pure_ (i := 11) (N := some 117) (v := ?_) (a' := ?_) #[true, true, true, true, true, true, true, true, true, true, true, true, false, false, false] rfl rfl (any_of HT_.out (by kernel_rfl)) (fun _ _ _ h => h) (Or.inl ⟨by rfl, ?_⟩) ?_ ?_
                           rotate_left
                           ·
                            intro w'
                            go_simp
                            with_reducible rfl
                           rotate_left
                           ·
                            simp only [Act.put, List.setIfInBounds_toArray, List.set_cons_zero, List.set_cons_succ, i64_w, i32_w]
                            rfl
                           refine pure_ (i := 12) (N := some 118) (v := ?_) (a' := ?_) #[true, true, true, true, true, true, true, true, true, true, true, true, true, false, false] rfl rfl (any_of HT_.out (by kernel_rfl)) (fun _ _ _ h => h) (Or.inl ⟨by rfl, ?_⟩) ?_ ?_
                           rotate_left
                           ·
                            intro w'
                            go_simp
                            with_reducible rfl
                           rotate_left
                           ·
                            simp only [Act.put, List.setIfInBounds_toArray, List.set_cons_zero, List.set_cons_succ, i64_w, i32_w]
                            rfl
                           refine pure_ (i := 13) (N := some 13) (v := ?_) (a' := ?_) #[true, true, true, true, true, true, true, true, true, true, true, true, true, true, false] rfl rfl (any_of HT_.out (by kernel_rfl)) (fun _ _ _ h => h) (Or.inl ⟨by rfl, ?_⟩) ?_ ?_
                           rotate_left
                           ·
                            intro w'
                            go_simp
                            with_reducible rfl
                           rotate_left
                           ·
                            simp only [Act.put, List.setIfInBounds_toArray, List.set_cons_zero, List.set_cons_succ, i64_w, i32_w]
                            rfl
                           refine pure_ (i := 14) (N := some 14) (v := ?_) (a' := ?_) #[true, true, true, true, true, true, true, true, true, true, true, true, true, true, true] rfl rfl (any_of HT_.out (by kernel_rfl)) (fun _ _ _ h => h) (Or.inl ⟨by rfl, ?_⟩) ?_ ?_
                           rotate_left
                           ·
                            intro w'
                            go_simp
                            with_reducible rfl
                           rotate_left
                           ·
                            simp only [Act.put, List.setIfInBounds_toArray, List.set_cons_zero, List.set_cons_succ, i64_w, i32_w]
                            rfl
                           refine done_ (done_of HT_.out (by kernel_rfl)) ?_
                           try go_wp2
                           go_ret2
                           exact ⟨_, by first | rfl | (simp [errW_none, errW_some] <;> rfl) | (simp [*, errW_none, errW_some] <;> rfl), by first | exact Kd.S_nil _ _ _ _ _ | exact Kd.N_nil _ _ _ _ _ | exact Kd.V_nil _ _ _ _ _ | exact Kd.Q_nil _ _ _ _ _ | exact Kd.R_nil _ _ _ _ _, by repeat (first | (with_reducible first | exact HB.out | apply below_alloc | apply pw_below_drewN | apply below_drew1) | exact HB.out)⟩
                         ·
                          rw [if_neg c48] at H
                          exact absurd H (by simp)
                        ·
                         rw [if_neg c47] at H
                         exact absurd H (by simp)
                       ·
                        rw [if_neg c46] at H
                        exact absurd H (by simp)
                      ·
                       rw [if_neg c45] at H
                       exact absurd H (by simp)
                     ·
                      replace c44 := Bool.eq_false_iff.mpr c44
                      subst c44
                      have H1 : (petrinetref08_Echelon.l3 kj38 l0 x4_5 x8_2 x9_2 (wrap64 (x12_5 + 1))) = some (r1, r2) := by rw [if_neg (show ¬ (false = true) by decide)] at H; exact H
                      clear H
                      have H := H1
                      clear H1
                      have H' := Aside0.mk H
                      clear H
                      go_wp2
                      (try simp only [← hl4_5])
                      go_roundg kj38
                      case measure => have := HK1.out; have := HK2.out; have := HJ10.out; have := HJ15.out; have := HK5.out; have := HJ38.out; omega
                      case rel => exact ⟨(x4_5), (wrap64 (x12_5 + 1)), (by first | rfl | (simp; done) | (simp [*]; done)), H', ⟨by have := HK1.out; have := HK2.out; have := HJ10.out; have := HJ15.out; have := HK5.out; have := HJ38.out; omega⟩, ⟨by (try simp only [hl4_5]); (with_reducible repeat (first | apply Kd.N_alloc | apply Kd.N_drewN | apply Kd.N_drew)); exact HO_4.out⟩, ⟨by repeat (first | (with_reducible first | exact HB.out | apply below_alloc | apply pw_below_drewN | apply below_drew1) | exact HB.out)⟩⟩
                  ·
                   rw [if_neg c38] at H
                   have c38b0 : decide (x12_5 < (x4_5.length : Int)) = false := decide_eq_false c38
                   clear c38
                   have H' := Aside0.mk H
                   clear H
                   go_wp2
                   (try simp only [← hl4_5])
                   go_roundg k5
                   case measure => have := HK1.out; have := HK2.out; have := HJ10.out; have := HJ15.out; have := HK5.out; omega
                   case rel => exact ⟨(x4_5), (wrap64 (x8_2 + 1)), (wrap64 (x9_2 + 1)), (by first | rfl | (simp; done) | (simp [*]; done)), (by first | rfl | (simp; done) | (simp [*]; done)), H', ⟨by have := HK1.out; have := HK2.out; have := HJ10.out; have := HJ15.out; have := HK5.out; omega⟩, ⟨by (try simp only [hl4_5]); (with_reducible repeat (first | apply Kd.N_alloc | apply Kd.N_drewN | apply Kd.N_drew)); exact HO_4.out⟩, ⟨by repeat (first | (with_reducible first | exact HB.out | apply below_alloc | apply pw_below_drewN | apply below_drew1) | exact HB.out)⟩⟩
               ·
                rw [if_neg c30] at H
                exact absurd H (by simp)
              ·
               rw [if_neg c29] at H
               exact absurd H (by simp)
             ·
              rw [if_neg c28] at H
              exact absurd H (by simp)
            ·
             rw [if_neg c27] at H
             exact absurd H (by simp)
        ·
         replace c15 := Bool.eq_false_iff.mpr c15
         subst c15
         have H1 : (petrinetref08_Echelon.l4 kj10 x4_2 x8_2 ([] : List (List Int)) 0) = some (r1, r2) := by rw [if_neg (show ¬ (false = true) by decide)] at H; exact H
         clear H
         have H := H1
         clear H1
         have H' := Aside0.mk H
         clear H
         go_wp2
         go_loopg [15, 16] kj10 (fun kq v15 v16 w' => ∃ (x15_4 : List (List Int)) (x16_4 : Int), v16 = .int .i64 x16_4 ∧ Aside0 (petrinetref08_Echelon.l4 kq x4_2 x8_2 x15_4 x16_4 = some (r1, r2)) ∧ Aside0 (kq ≤ kj10) ∧ Aside0 (Kd.N (Kd.slice 2 (Kd.int .i64)) 33 w' w.heap.size (fun k_ => (w.heap.size ≤ k_) ∧ some k_ ≠ (v15 : Value).ownBlock) u4 x4_2) ∧ Aside0 (Kd.N (Kd.slice 2 (Kd.int .i64)) 33 w' w.heap.size (fun k_ => (w.heap.size ≤ k_) ∧ some k_ ≠ (u4 : Value).ownBlock) v15 x15_4) ∧ Aside0 (Below w.heap.size w w'))
         case atStart => exact ⟨(([] : List (List Int))), (0), (by first | rfl | (simp; done) | (simp [*]; done)), H', ⟨Nat.le_refl _⟩, ⟨by (with_reducible repeat (first | apply Kd.N_alloc | apply Kd.N_drewN | apply Kd.N_drew)); exact Kd.N_mono HO_4.out (fun _ hk => ⟨hk, (by simp [Value.ownBlock])⟩)⟩, ⟨by first | exact Kd.S_nil _ _ _ _ _ | exact Kd.N_nil _ _ _ _ _ | exact Kd.V_nil _ _ _ _ _ | exact Kd.Q_nil _ _ _ _ _ | exact Kd.R_nil _ _ _ _ _⟩, ⟨by repeat (first | (with_reducible first | exact HB.out | apply below_alloc | apply pw_below_drewN | apply below_drew1) | exact HB.out)⟩⟩
         case round =>
          clear H'
          try clear c1
          try clear c2
          try clear p2
          try clear c3
          try clear p3
          try clear q3
          try clear hx3
          try clear c4
          try clear c5
          try clear p5
          try clear q5
          try clear hx5
          try clear hf5
          try clear p6
          try clear c15
          try clear c27
          try clear c28
          try clear c29
          try clear c30
          try clear p31
          try clear q31
          try clear hx31
          try clear p32
          try clear q32
          try clear hx32
          try clear p33
          try clear q33
          try clear hx33
          try clear c34
          try clear p34
          try clear q34
          try clear hx34
          try clear hx36
          try clear c38
          try clear c38b0
          try clear c40
          try clear c40b0
          try clear c40b1
          try clear c41
          try clear c41b0
          try clear c42
          try clear c42b0
          try clear c43
          try clear c43b0
          try clear c44
          try clear c45
          try clear c45b0
          try clear c46
          try clear c46b0
          try clear c47
          try clear c47b0
          try clear c48
          try clear c48b0
          try clear c50
          try clear c51
          try clear p51
          try clear q51
          try clear hx51
          try clear hf51
          try clear c54
          try clear hx54
          try clear hf54
          try clear hx31_0
          try clear hx327_0
          try clear hx32_0
          try clear hx335_0
          try clear hx336_0
          try clear hx337_0
          try clear hx338_0
          try clear hx339_0
          try clear hx342_0
          try clear hx343_0
          try clear hx344_0
          try clear hx345_0
          try clear hx34_0
          try clear hx36_0
          try clear hx51_0
          try clear hx54_0
          try clear p2
          try clear p3
          try clear p31
          try clear p32
          try clear p327
          try clear p33
          try clear p335
          try clear p336
          try clear p337
          try clear p338
          try clear p339
          try clear p342
          try clear p343
          try clear p344
          try clear p345
          try clear p51
          try clear p6
          try clear q3
          try clear q31
          try clear q32
          try clear q327
          try clear q33
          try clear q335
          try clear q336
          try clear q337
          try clear q338
          try clear q339
          try clear q342
          try clear q343
          try clear q344
          try clear q345
          try clear q51
          obtain ⟨x15_4, x16_4, rfl, HA, HK4, HO_4, HO_15, HB⟩ := hrel
          cases gk with
          | zero => exact absurd HA.out (by simp [petrinetref08_Echelon.l4])
          | succ k4 =>
           have H := HA.out
           clear HA
           simp only [petrinetref08_Echelon.l4] at H
           by_cases c58 : x16_4 < x8_2
           ·
            rw [if_pos c58] at H
            have c58b0 : decide (x16_4 < x8_2) = true := decide_eq_true c58
            clear c58
            by_cases c59 : 0 ≤ x16_4
            ·
             rw [if_pos c59] at H
             have c59b0 : decide (0 ≤ x16_4) = true := decide_eq_true c59
             clear c59
             by_cases c60 : x16_4 < (x4_2.length : Int)
             ·
              rw [if_pos c60] at H
              have c60b0 : decide (x16_4 < (x4_2.length : Int)) = true := decide_eq_true c60
              clear c60
              by_cases c61 : x15_4.length < 5864062014805
              ·
               rw [if_pos c61] at H
               have LMc61 := Aside0.mk c61
               clear c61
               obtain ⟨y352, hy352⟩ : ∃ y_ : List (List Int), y_ = (x15_4 ++ [rd_L1 x4_2 x16_4]) := ⟨_, rfl⟩
               replace H : (petrinetref08_Echelon.l4 k4 x4_2 x8_2 y352 (wrap64 (x16_4 + 1))) = some (r1, r2) := by first | (rw [hy352]; with_reducible exact H) | (have H2_ := (Option.bind_some _ _).symm.trans H; rw [hy352]; with_reducible exact H2_) | (have H2_ := (Option.bind_some _ _).symm.trans H; with_reducible exact H2_) | with_reducible exact H | (rw [hy352]; exact H) | exact H
               have Ny352 := Aside0.mk hy352
               clear hy352
               have H' := Aside0.mk H
               clear H
               obtain ⟨Ao62, co62, eo62⟩ := Kd.N_slice HO_4.out
               subst eo62
               have p351 : 0 ≤ (x16_4 : Int) := of_decide_eq_true (by first | (with_reducible assumption) | assumption)
               have q351 : x16_4 < (x4_2.length : Int) := of_decide_eq_true (by first | (with_reducible assumption) | assumption)
               obtain ⟨ad351, A351_0, c351_0, e351, hx351_0, hl351_0, hi351_0⟩ := at_L1 (Kd.N_reads' HO_4.out).2.2 x16_4 p351 q351
               cases e351
               obtain ⟨ce351, hce351, hMe351, hcc351⟩ := Kd.N_get HO_4.out [] x16_4 p351 (by first | exact q351 | exact of_decide_eq_true (by first | (with_reducible assumption) | assumption) | (have e_ := (Kd.N_reads' HO_4.out).1; omega))
               obtain ⟨ua351_0, uc351_0, rfl, ul351_0, ge351_0⟩ := Kd.FK_slice_open hMe351
               have hv351_0 := hcc351 0 _ rfl
               rw [Nat.add_zero, show ((Kd.slice 2 (Kd.int .i64))).sz = 1 from rfl, Nat.mul_one] at hv351_0
               replace hv351_0 := Option.some.inj (hv351_0.symm.trans hx351_0)
               injection hv351_0 with hva_ hvn_ hvc_
               rw [hva_] at ge351_0
               rw [hvc_] at ul351_0
               have HL351_0 := Aside0.mk (show Kd.V (Kd.int .i64) 2 _ w.heap.size _ _ (rd_L1 x4_2 x16_4) from Kd.V_mk ul351_0 ge351_0)
               clear hva_ hvn_ hvc_ ge351_0 ul351_0
               clear hcc351 hce351
               have HR351_0 := Aside0.mk hi351_0
               have HC351_0 := Aside0.mk hl351_0
               clear hi351_0 hl351_0
               replace p351 := eq_true p351
               replace q351 := eq_true q351
               go_wp2_with (first | ((with_reducible refine gate_builtin (b := .append) (xs := #[.tmp 132, .tmp 137]) rfl ?_); (try (refine gate_guard (by rfl) ?_; dsimp only)); at_builtin; refine Kd.N_append (Kd.slice 2 (Kd.int .i64)) (w0 := w) w.heap.size rfl (.tmp 132) (.tmp 137) 22 33 (.slice none 0 0) 24 rfl Try.underlying22 info33 rfl (by decide) (by omega) u15 x15_4 (rd_L1 x4_2 x16_4) [.slice A351_0 (rd_L1 x4_2 x16_4).length c351_0] (fun k_ => (w.heap.size ≤ k_) ∧ some k_ ≠ (.slice (some ad351) x4_2.length co62 : Value).ownBlock) (fun k_ => ((fun k_ => (w.heap.size ≤ k_) ∧ some k_ ≠ (.slice (some ad351) x4_2.length co62 : Value).ownBlock)) k_ ∧ some k_ ≠ (u15 : Value).ownBlock) rfl rfl ?aP (fun _ hk => hk) ?aF ?aO ?aB ?aS ?aL ?_; (case aP => exact (Kd.FK_slice_mk (Kd.V_reads' (Kd.V_mono (ok' := (fun k_ => ((fun k_ => (w.heap.size ≤ k_) ∧ some k_ ≠ (.slice (some ad351) x4_2.length co62 : Value).ownBlock)) k_ ∧ some k_ ≠ (u15 : Value).ownBlock)) (HL351_0.out) (fun k_ hk => ⟨⟨hk.1.1, hk.2⟩, hk.1.2⟩))).2.1 (Kd.V_F (Kd.V_mono (ok' := (fun k_ => ((fun k_ => (w.heap.size ≤ k_) ∧ some k_ ≠ (.slice (some ad351) x4_2.length co62 : Value).ownBlock)) k_ ∧ some k_ ≠ (u15 : Value).ownBlock)) (HL351_0.out) (fun k_ hk => ⟨⟨hk.1.1, hk.2⟩, hk.1.2⟩))))); (case aB => exact (by repeat (first | (with_reducible first | exact HB.out | apply below_alloc | apply pw_below_drewN | apply below_drew1) | exact HB.out))); (case aF => exact (fun k_ hk => ⟨(Nat.le_trans (below_size (by repeat (first | (with_reducible first | exact HB.out | apply below_alloc | apply pw_below_drewN | apply below_drew1) | exact HB.out))) hk), Kd.fresh' (Kd.N_lt (by (with_reducible repeat (first | apply Kd.N_alloc | apply Kd.N_drewN | apply Kd.N_drew)); exact HO_4.out)) k_ hk⟩)); (case aO => exact (by (with_reducible repeat (first | apply Kd.N_alloc | apply Kd.N_drewN | apply Kd.N_drew)); exact HO_15.out)); (case aS => exact (below_size (by repeat (first | (with_reducible first | exact HB.out | apply below_alloc | apply pw_below_drewN | apply below_drew1) | exact HB.out)))); (case aL => have := LMc61.out; omega); intro v353 w63 ho hb hg hat; rw [← Ny352.out] at ho; have n0_ := Aside0.mk (Kd.N_afterv (ok := (fun k_ => (w.heap.size ≤ k_))) (by (with_reducible repeat (first | apply Kd.N_alloc | apply Kd.N_drewN | apply Kd.N_drew)); exact HO_4.out) hg hat); have n1_ := Aside0.mk (Kd.V_afterv (ok := (fun k_ => (w.heap.size ≤ k_) ∧ some k_ ≠ (.slice (some ad351) x4_2.length co62 : Value).ownBlock)) (by (with_reducible repeat (first | apply Kd.V_alloc | apply Kd.V_drewN | apply Kd.V_drew)); exact Kd.V_mono HL351_0.out (fun _ hk => ⟨⟨hk.1.1, hk.2⟩, hk.1.2⟩)) hg hat); have n2_ := Aside0.mk (hb); have n3_ := Aside0.mk (ho); clear HO_4; clear HL351_0; clear HB; clear HO_15; have HO_4 := n0_; have HL351_0 := n1_; have HB := n2_; have HO354 := n3_; clear n0_ n1_ n2_ n3_; clear ho hb hg hat))
               go_roundg k4
               case measure => have := HK1.out; have := HK2.out; have := HJ10.out; have := HK4.out; omega
               case rel => exact ⟨(y352), (wrap64 (x16_4 + 1)), (by first | rfl | (simp; done) | (simp [*]; done)), H', ⟨by have := HK1.out; have := HK2.out; have := HJ10.out; have := HK4.out; omega⟩, ⟨by (with_reducible repeat (first | apply Kd.N_alloc | apply Kd.N_drewN | apply Kd.N_drew)); exact HO_4.out⟩, ⟨by (with_reducible repeat (first | apply Kd.N_alloc | apply Kd.N_drewN | apply Kd.N_drew)); exact HO354.out⟩, ⟨by repeat (first | (with_reducible first | exact HB.out | apply below_alloc | apply pw_below_drewN | apply below_drew1) | exact HB.out)⟩⟩
              ·
               rw [if_neg c61] at H
               exact absurd H (by simp)
             ·
              rw [if_neg c60] at H
              exact absurd H (by simp)
            ·
             rw [if_neg c59] at H
             exact absurd H (by simp)
           ·
            rw [if_neg c58] at H
            have c58b0 : decide (x16_4 < x8_2) = false := decide_eq_false c58
            clear c58
            simp only [Option.some.injEq, Prod.mk.injEq] at H
            obtain ⟨rfl, rfl⟩ := H
            go_wp2
            go_ret2
            exact ⟨_, by first | rfl | (simp [errW_none, errW_some] <;> rfl) | (simp [*, errW_none, errW_some] <;> rfl), by (with_reducible repeat (first | apply Kd.N_alloc | apply Kd.N_drewN | apply Kd.N_drew)); exact Kd.N_mono HO_15.out (fun _ hk => hk.1), by repeat (first | (with_reducible first | exact HB.out | apply below_alloc | apply pw_below_drewN | apply below_drew1) | exact HB.out)⟩

end Go.Proofs.Ytckefohfahphpaa.Z
end
section
namespace Go.Proofs.Ytckefohfahphpaa.Z
open Go.RowKit Go.Proofs.YtckefohfahphpaaW.PrintWords Go.Proofs.YtckefohfahphpaaW.PrintLast Go.Proofs.YtckefohfahphpaaW.PrintMore
set_option linter.unusedVariables false
set_option linter.unusedSimpArgs false
/-- Rounds enough for every common divisor (kept out of sight). -/
structure Lots (k : Nat) : Prop where
  out : 9223372036854775808 + 1000 ≤ k
theorem Lots.le {k k' : Nat} (h : Lots k) (hk : k ≤ k') : Lots k' := ⟨Nat.le_trans h.out hk⟩
theorem rd_vec (l : List Int) (x : Nat) : rd l (x : Int) = vec l x := rfl
theorem wsucc {i : Nat} (h : i ≤ 100000) : wrap64 ((i : Int) + 1) = ((i + 1 : Nat) : Int) := by rw [wrap64_small (by omega) (by omega)]; omega
def rowR (n : Nat) (l : List Int) : Prop := nlr n l ∧ nrm l ∧ (Prm (vec l) ∨ ∀ x, vec l x = 0)
def goodR (m n : Nat) (L : List (List Int)) : Prop := L.length = m ∧ ∀ i, i < m → rowR n (rd_L1 L (i : Int))
def PostR (a : List (List Int)) (n : Nat) (r : List (List Int) × Bool) : Prop := r.2 = true → ∃ p, Outc a n r.1 p
theorem rech_l4 {L : List (List Int)} {rank : Nat} (hl : L.length ≤ 64) (hr : rank ≤ L.length) : ∀ (d i k : Nat), i + d = rank → d + 1 ≤ k →
    petrinetref08_Echelon.l4 k L (rank : Int) (L.take i) (i : Int) = some (L.take rank, true) := by
  intro d
  induction d with
  | zero =>
    intro i k hi hk
    obtain ⟨k, rfl⟩ : ∃ m, k = m + 1 := ⟨k - 1, by omega⟩
    rw [petrinetref08_Echelon.l4, if_neg (by omega), show i = rank by omega]
  | succ d ih =>
    intro i k hi hk
    obtain ⟨k, rfl⟩ : ∃ m, k = m + 1 := ⟨k - 1, by omega⟩
    rw [petrinetref08_Echelon.l4, if_pos (by omega), if_pos (by omega), if_pos (by omega), if_pos (by simp; omega), ← take_L1 (by omega), wsucc (by omega)]
    exact ih (i + 1) k (by omega) (by omega)
theorem rech_l2 {x0 L : List (List Int)} {m n rank col : Nat} (hm : m ≤ 64) (hg : goodR m n L) (hc : col < n) : ∀ (d i k : Nat), i + d = m → d + 1 ≤ k → rank ≤ i →
    ∃ q k' : Nat, petrinetref08_Echelon.l2 k x0 L (rank : Int) (col : Int) (i : Int) = petrinetref08_Echelon.j4 k' x0 L (rank : Int) (col : Int) (q : Int) ∧ k ≤ k' + d + 1 ∧ i ≤ q ∧ q ≤ m ∧ (∀ j : Nat, i ≤ j → j < q → vec (rd_L1 L (j : Int)) col = 0) ∧ (q < m → vec (rd_L1 L (q : Int)) col ≠ 0) := by
  intro d
  induction d with
  | zero =>
    intro i k hi hk hr
    obtain ⟨k, rfl⟩ : ∃ m, k = m + 1 := ⟨k - 1, by omega⟩
    refine ⟨i, k, ?_, by omega, by omega, by omega, fun j h1 h2 => by omega, fun h => by omega⟩
    rw [petrinetref08_Echelon.l2, if_neg (by rw [hg.1]; omega)]
  | succ d ih =>
    intro i k hi hk hr
    obtain ⟨k, rfl⟩ : ∃ m, k = m + 1 := ⟨k - 1, by omega⟩
    have hrow := (hg.2 i (by omega)).1
    have hrl := hrow.1
    have hL := hg.1
    have t1 : (i : Int) < (L.length : Int) := by omega
    have t2 : (0 : Int) ≤ (i : Int) := by omega
    have t3 : (0 : Int) ≤ (col : Int) := by omega
    have t4 : (col : Int) < ((rd_L1 L (i : Int)).length : Int) := by omega
    rw [petrinetref08_Echelon.l2, if_pos t1, if_pos t2, if_pos t3, if_pos t4, rd_vec]
    by_cases h0 : vec (rd_L1 L (i : Int)) col = 0
    · rw [if_pos h0, wsucc (by omega)]
      obtain ⟨q, k', h1, h2, h3, h4, h5, h6⟩ := ih (i + 1) k (by omega) (by omega) (by omega)
      refine ⟨q, k', h1, by omega, by omega, h4, fun j h7 h8 => ?_, h6⟩
      by_cases e : j = i
      · rw [e]; exact h0
      · exact h5 j (by omega) h8
    · rw [if_neg h0]
      exact ⟨i, k, rfl, by omega, by omega, by omega, fun j h1 h2 => by omega, fun _ => h0⟩
/-- What one turn leaves of a row. -/
def Trn (n c : Nat) (u v w : List Int) : Prop := (w = u ∧ vec u c = 0) ∨ Clr2 n c u v w
theorem rech_l3 {x0 : List (List Int)} {m n rank col Bk : Nat} (hB : Lots Bk) (hm : m ≤ 64) (hn : n ≤ 64) (hc : col < n) (hrk : rank < m) : ∀ (d i k : Nat) (M : List (List Int)), i + d = m → Bk + 2 * d + 1 ≤ k → goodR m n M → vec (rd_L1 M (rank : Int)) col ≠ 0 →
    petrinetref08_Echelon.l3 k x0 M (rank : Int) (col : Int) (i : Int) = some ([], false) ∨
    ∃ N k', petrinetref08_Echelon.l3 k x0 M (rank : Int) (col : Int) (i : Int) = petrinetref08_Echelon.l1 k' x0 N ((rank + 1 : Nat) : Int) ((col + 1 : Nat) : Int) ∧ k ≤ k' + 2 * d + 1 ∧ goodR m n N ∧ rd_L1 N (rank : Int) = rd_L1 M (rank : Int) ∧
      (∀ j : Nat, j < i → rd_L1 N (j : Int) = rd_L1 M (j : Int)) ∧ ∀ j : Nat, i ≤ j → j < m → j ≠ rank → Trn n col (rd_L1 M (j : Int)) (rd_L1 M (rank : Int)) (rd_L1 N (j : Int)) := by
  intro d
  induction d with
  | zero =>
    intro i k M hi hk hg hv
    obtain ⟨k, rfl⟩ : ∃ z, k = z + 1 := ⟨k - 1, by omega⟩
    right
    refine ⟨M, k, ?_, by omega, hg, rfl, fun _ _ => rfl, fun j h1 h2 => by omega⟩
    rw [petrinetref08_Echelon.l3, if_neg (by rw [hg.1]; omega), wsucc (by omega), wsucc (by omega)]
  | succ d ih =>
    intro i k M hi hk hg hv
    obtain ⟨k, rfl⟩ : ∃ z, k = z + 2 := ⟨k - 2, by omega⟩
    have hk' : Bk + 2 * d + 1 ≤ k := by omega
    have hkb : Lots k := hB.le (by omega)
    have hM := hg.1
    have hrow := (hg.2 i (by omega)).1
    have hrl := hrow.1
    have hpiv := (hg.2 rank hrk).1
    have t1 : (i : Int) < (M.length : Int) := by omega
    have t2 : (0 : Int) ≤ (i : Int) := by omega
    have t3 : (0 : Int) ≤ (col : Int) := by omega
    have t4 : (col : Int) < ((rd_L1 M (i : Int)).length : Int) := by omega
    have t5 : (0 : Int) ≤ (rank : Int) := by omega
    have t6 : (rank : Int) < (M.length : Int) := by omega
    have hiM : i < M.length := by omega
    have hid : i + 1 + d = m := by omega
    have hi5 : i ≤ 100000 := by omega
    have skip : (i = rank ∨ vec (rd_L1 M (i : Int)) col = 0) → (petrinetref08_Echelon.l3 k x0 M (rank : Int) (col : Int) ((i + 1 : Nat) : Int) = some ([], false) ∨
        ∃ N k', petrinetref08_Echelon.l3 k x0 M (rank : Int) (col : Int) ((i + 1 : Nat) : Int) = petrinetref08_Echelon.l1 k' x0 N ((rank + 1 : Nat) : Int) ((col + 1 : Nat) : Int) ∧ k + 2 ≤ k' + 2 * (d + 1) + 1 ∧ goodR m n N ∧ rd_L1 N (rank : Int) = rd_L1 M (rank : Int) ∧
          (∀ j : Nat, j < i → rd_L1 N (j : Int) = rd_L1 M (j : Int)) ∧ ∀ j : Nat, i ≤ j → j < m → j ≠ rank → Trn n col (rd_L1 M (j : Int)) (rd_L1 M (rank : Int)) (rd_L1 N (j : Int))) := by
      intro hs
      rcases ih (i + 1) k M hid hk' hg hv with h | ⟨N, k', h1, h2, h3, h4, h5, h6⟩
      · exact .inl h
      · refine .inr ⟨N, k', h1, by omega, h3, h4, fun j hj => h5 j (by omega), fun j h7 h8 h9 => ?_⟩
        by_cases e : j = i
        · subst e
          exact .inl ⟨h5 j (by omega), hs.resolve_left h9⟩
        · exact h6 j (by omega) h8 h9
    rw [petrinetref08_Echelon.l3, if_pos t1]
    by_cases hir : i = rank
    · rw [if_pos (by omega), petrinetref08_Echelon.j6, if_neg (by decide), wsucc hi5]
      exact skip (.inl hir)
    rw [if_neg (by omega), if_pos t2, if_pos t3, if_pos t4, rd_vec]
    by_cases h0 : vec (rd_L1 M (i : Int)) col = 0
    · rw [petrinetref08_Echelon.j6, if_neg (by simp [h0]), wsucc hi5]
      exact skip (.inr h0)
    rw [petrinetref08_Echelon.j6, if_pos (by simp [h0]), if_pos t2, if_pos t1, if_pos t5, if_pos t6]
    obtain ⟨s, b, h1, h2⟩ := rclr_spec (k := k) hn hrow hpiv hc hv hkb.out
    rw [h1]
    simp only [Option.bind_some]
    cases b with
    | false => rw [if_neg (by decide)]; exact .inl rfl
    | true =>
      rw [if_pos rfl, wsucc hi5]
      have hs := h2 rfl
      have hset : ∀ j : Nat, rd_L1 (M.set i s) (j : Int) = if j = i then s else rd_L1 M (j : Int) := rdL_set hiM
      have hg' : goodR m n (M.set i s) := ⟨by simp; omega, fun j hj => by
        rw [hset]
        split
        · exact ⟨hs.ok, hs.nm, hs.pr⟩
        · exact hg.2 j hj⟩
      have hsp : rd_L1 (M.set i s) (rank : Int) = rd_L1 M (rank : Int) := by rw [hset, if_neg (fun e => hir e.symm)]
      rcases ih (i + 1) k (M.set i s) hid hk' hg' (by rw [hsp]; exact hv) with h | ⟨N, k', q1, q2, q3, q4, q5, q6⟩
      · exact .inl h
      · refine .inr ⟨N, k', q1, by omega, q3, by rw [q4, hsp], fun j hj => ?_, fun j h7 h8 h9 => ?_⟩
        · rw [q5 j (by omega), hset, if_neg (by omega)]
        · by_cases e : j = i
          · subst e
            rw [q5 j (by omega), hset, if_pos rfl]
            exact .inr hs
          · have := q6 j (by omega) h8 h9
            rw [hsp, hset, if_neg e] at this
            exact this
theorem Outc.ofR {a : List (List Int)} {m n k c : Nat} {L : List (List Int)} {p : Nat → Nat} (hg : goodR m n L) (hs : Stg (spanL a) m (rowsV L) k p c) (hcn : c ≤ n) (hd : k = m ∨ c = n) : Outc a n (L.take k) p := by
  have hL := hg.1
  have hkm := hs.km
  have hl : (L.take k).length = k := by simp; omega
  refine ⟨fun r hr => ?_, fun i hi => ?_, ?_⟩
  · obtain ⟨i, hi, e⟩ := List.mem_iff_getElem.mp (List.mem_of_mem_take hr)
    have := (hg.2 i (by omega)).1
    rw [show rd_L1 L (i : Int) = r by simp [rd_L1, List.getD_eq_getElem?_getD, hi, e]] at this
    exact this
  · have := hs.lt i (by omega)
    omega
  · rw [hl]
    refine (hs.fnl ?_ fun i hi => ?_).congr fun i hi => by unfold rowsV; rw [rdL_take hi]
    · rcases hd with hd | hd
      · exact .inl hd
      · refine .inr fun i h7 h8 x => ?_
        by_cases hx : x < n
        · exact hs.lo i h7 h8 x (by omega)
        · exact vec_out (by have := (hg.2 i h8).1.1; omega)
    · exact (hg.2 i (by omega)).2.1 (p i) (hs.ld i hi) (hs.nz i hi)
theorem rech_l1 {a x0 : List (List Int)} {m n Bk : Nat} (hB : Lots Bk) (hm : m ≤ 64) (hn : n ≤ 64) (hx0 : 0 < x0.length) (hx : (rd_L1 x0 0).length = n) : ∀ (d col k rank : Nat) (L : List (List Int)) (p : Nat → Nat), col + d = n → Bk + 300 * d + 300 ≤ k → goodR m n L → Stg (spanL a) m (rowsV L) rank p col →
    ∃ r, petrinetref08_Echelon.l1 k x0 L (rank : Int) (col : Int) = some r ∧ PostR a n r := by
  intro d
  induction d with
  | zero =>
    intro col k rank L p hd hk hg hs
    obtain ⟨k, rfl⟩ : ∃ z, k = z + 2 := ⟨k - 2, by omega⟩
    have hL := hg.1
    have hkm := hs.km
    have h4 := rech_l4 (L := L) (rank := rank) (by omega) (by omega) rank 0 k (by omega) (by omega)
    rw [List.take_zero] at h4
    rw [petrinetref08_Echelon.l1, if_pos (by omega), if_neg (by omega), petrinetref08_Echelon.j2, if_neg (by decide)]
    exact ⟨_, h4, fun _ => ⟨p, Outc.ofR hg hs (by omega) (.inr (by omega))⟩⟩
  | succ d ih =>
    intro col k rank L p hd hk hg hs
    obtain ⟨k, rfl⟩ : ∃ z, k = z + 2 := ⟨k - 2, by omega⟩
    have hL := hg.1
    have hkm := hs.km
    have hcn : col < n := by omega
    rw [petrinetref08_Echelon.l1, if_pos (by omega), if_pos (by omega), petrinetref08_Echelon.j2]
    by_cases hrm : rank = m
    · have h4 := rech_l4 (L := L) (rank := rank) (by omega) (by omega) rank 0 k (by omega) (by omega)
      rw [List.take_zero] at h4
      rw [if_neg (by simp; omega)]
      exact ⟨_, h4, fun _ => ⟨p, Outc.ofR hg hs (by omega) (.inl hrm)⟩⟩
    rw [if_pos (by simp; omega)]
    obtain ⟨q, k1, h1, h2, h3, h4, h5, h6⟩ := rech_l2 (x0 := x0) (rank := rank) hm hg hcn (m - rank) rank k (by omega) (by omega) (Nat.le_refl _)
    rw [h1]
    obtain ⟨k1, rfl⟩ : ∃ z, k1 = z + 1 := ⟨k1 - 1, by omega⟩
    have hkk : Bk + 300 * d + 450 ≤ k1 := by omega
    rw [petrinetref08_Echelon.j4]
    by_cases hqm : q = m
    · rw [if_pos (by omega), wsucc (by omega)]
      exact ih (col + 1) k1 rank L p (by omega) (by omega) hg (hs.skip fun i h7 h8 => h5 i h7 (by omega))
    have hqlt : q < m := by omega
    have hqL : q < L.length := by omega
    have hrL : rank < L.length := by omega
    rw [if_neg (by omega), if_pos (by omega), if_pos (by omega), if_pos (by omega), if_pos (by omega)]
    obtain ⟨M, hMe⟩ : ∃ M, M = (L.set (q : Int).toNat (rd_L1 L (rank : Int))).set (rank : Int).toNat (rd_L1 L (q : Int)) := ⟨_, rfl⟩
    rw [← hMe]
    have hM : ∀ i : Nat, i < m → rd_L1 M (i : Int) = rd_L1 L ((if i = rank then q else if i = q then rank else i : Nat) : Int) := by
      intro i hi
      rw [hMe, show ((rank : Int).toNat) = rank by omega, show ((q : Int).toNat) = q by omega, rdL_set (by simp; omega)]
      by_cases e : i = rank
      · rw [if_pos e, if_pos e]
      · rw [if_neg e, if_neg e, rdL_set (by omega)]
        by_cases e' : i = q
        · rw [if_pos e', if_pos e']
        · rw [if_neg e', if_neg e']
    have hgM : goodR m n M := ⟨by rw [hMe]; simp; omega, fun i hi => by
      rw [hM i hi]
      exact hg.2 _ (by split; omega; split <;> omega)⟩
    have hMk : rd_L1 M (rank : Int) = rd_L1 L (q : Int) := by rw [hM rank (by omega), if_pos rfl]
    have hnz := h6 hqlt
    rcases rech_l3 (x0 := x0) hB hm hn hcn (show rank < m by omega) m 0 k1 M (by omega) (by omega) hgM (by rw [hMk]; exact hnz) with h | ⟨N, k', r1, r2, r3, r4, r5, r6⟩
    · exact ⟨_, h, fun h => by cases h⟩
    · have h7 : petrinetref08_Echelon.l3 k1 x0 M (rank : Int) (col : Int) 0 = petrinetref08_Echelon.l1 k' x0 N ((rank + 1 : Nat) : Int) ((col + 1 : Nat) : Int) := r1
      rw [h7]
      have hUk : rowsV N rank = rowsV L q := by unfold rowsV; rw [r4, hMk]
      have hst : Stp m rank q col (rowsV L) (rowsV N) := by
        refine ⟨h3, hqlt, hnz, ⟨1, 1, by decide, by decide, fun x => by rw [hUk]⟩, ?_, fun i hi hik => ?_, fun i hi hik => ?_, fun i hi hik => ?_⟩
        · rw [hUk]
          exact (hg.2 q hqlt).2.2.resolve_right fun h => hnz (h col)
        all_goals
          have ht := r6 i (by omega) hi hik
          rw [hM i hi, if_neg hik] at ht
          rcases ht with ⟨t1, t2⟩ | ht
        · exact ⟨1, 0, 1, by decide, by decide, fun x => by unfold rowsV; rw [t1]; simp⟩
        · obtain ⟨a', b', g', ha, hg', e⟩ := ht.lin
          refine ⟨a', b', g', ha, hg', fun x => ?_⟩
          have := e x
          rw [hMk] at this
          rw [hUk]
          exact this
        · show vec (rd_L1 N (i : Int)) col = 0
          rw [t1]; exact t2
        · exact ht.zr
        · exact .inl fun x => by unfold rowsV; rw [t1]
        · exact .inr ht.pr
      exact ih (col + 1) k' (rank + 1) N _ (by omega) (by omega) r3 (hs.step hst)
end Go.Proofs.Ytckefohfahphpaa.Z
end
section
namespace Go.Proofs.Ytckefohfahphpaa.Z
open Go.RowKit Go.Proofs.YtckefohfahphpaaW.PrintWords Go.Proofs.YtckefohfahphpaaW.PrintLast Go.Proofs.YtckefohfahphpaaW.PrintMore
attribute [local go_sem] max2_int min2_int max_two min_two max_three min_three max_four min_four   -- for this text's walks alone
set_option linter.unusedVariables false
set_option linter.unusedSimpArgs false

/-! ### petrinetref08_Small: function 12 -/
mutual
def petrinetref08_Small.j0 : Nat → List (List Int) → Bool → Option (Bool)
 | 0, _, _ => none
 | k + 1, x0, x19 => if x19 = true then (some false) else (petrinetref08_Small.l0 k x0 0)
def petrinetref08_Small.l0 : Nat → List (List Int) → Int → Option (Bool)
 | 0, _, _ => none
 | k + 1, x0, x3 => if x3 < (x0.length : Int) then (petrinetref08_Small.l1 k x0 x3 0) else (some true)
def petrinetref08_Small.l1 : Nat → List (List Int) → Int → Int → Option (Bool)
 | 0, _, _, _ => none
 | k + 1, x0, x3, x4 => if 0 ≤ x3 then (if x3 < (x0.length : Int) then (if x4 < ((rd_L1 x0 x3).length : Int) then (if 0 ≤ x4 then (if (rd (rd_L1 x0 x3) x4) < (-3) then (some false) else (if (rd (rd_L1 x0 x3) x4) > 3 then (some false) else (petrinetref08_Small.l1 k x0 x3 (wrap64 (x4 + 1))))) else (none)) else (petrinetref08_Small.l0 k x0 (wrap64 (x3 + 1)))) else (none)) else (none)
end
def petrinetref08_Small.f (k : Nat) (l0 : List (List Int)) : Option (Bool) := (petrinetref08_Valid.f k l0).bind fun t288 => (if t288 = true then (if (l0.length : Int) > 8 then (petrinetref08_Small.j0 k l0 true) else (if 0 < (l0.length : Int) then (petrinetref08_Small.j0 k l0 (decide (((rd_L1 l0 0).length : Int) > 8))) else (none))) else (petrinetref08_Small.j0 k l0 true))
theorem petrinetref08_Small.mono_l : ∀ k, (∀ y0 y1, LeO (petrinetref08_Small.j0 k y0 y1) (petrinetref08_Small.j0 (k + 1) y0 y1)) ∧ (∀ y0 y1, LeO (petrinetref08_Small.l0 k y0 y1) (petrinetref08_Small.l0 (k + 1) y0 y1)) ∧ (∀ y0 y1 y2, LeO (petrinetref08_Small.l1 k y0 y1 y2) (petrinetref08_Small.l1 (k + 1) y0 y1 y2))
 | 0 => ⟨fun _ _ r h => by simp [petrinetref08_Small.j0] at h, fun _ _ r h => by simp [petrinetref08_Small.l0] at h, fun _ _ _ r h => by simp [petrinetref08_Small.l1] at h⟩
 | k + 1 => by
  obtain ⟨ih0, ih1, ih2⟩ := petrinetref08_Small.mono_l k
  refine ⟨?_, ?_, ?_⟩
  ·
   intro y0 y1
   unfold petrinetref08_Small.j0
   repeat' first
   | (with_reducible exact ih0 _ _)
   | (with_reducible exact ih1 _ _)
   | (with_reducible exact ih2 _ _ _)
   | (with_reducible exact petrinetref08_Valid.mono _ _)
   | (with_reducible exact LeO.refl _)
   | (with_reducible exact LeO.none _)
   | (with_reducible refine LeO.ite ?_ ?_)
   | (with_reducible refine LeO.bind ?_ (fun _ => ?_))
   | exact ih0 _ _
   | exact ih1 _ _
   | exact ih2 _ _ _
   | exact petrinetref08_Valid.mono _ _
   | exact LeO.none _
   | refine LeO.ite ?_ ?_
   | refine LeO.bind ?_ (fun _ => ?_)
  ·
   intro y0 y1
   unfold petrinetref08_Small.l0
   repeat' first
   | (with_reducible exact ih0 _ _)
   | (with_reducible exact ih1 _ _)
   | (with_reducible exact ih2 _ _ _)
   | (with_reducible exact petrinetref08_Valid.mono _ _)
   | (with_reducible exact LeO.refl _)
   | (with_reducible exact LeO.none _)
   | (with_reducible refine LeO.ite ?_ ?_)
   | (with_reducible refine LeO.bind ?_ (fun _ => ?_))
   | exact ih0 _ _
   | exact ih1 _ _
   | exact ih2 _ _ _
   | exact petrinetref08_Valid.mono _ _
   | exact LeO.none _
   | refine LeO.ite ?_ ?_
   | refine LeO.bind ?_ (fun _ => ?_)
  ·
   intro y0 y1 y2
   unfold petrinetref08_Small.l1
   repeat' first
   | (with_reducible exact ih0 _ _)
   | (with_reducible exact ih1 _ _)
   | (with_reducible exact ih2 _ _ _)
   | (with_reducible exact petrinetref08_Valid.mono _ _)
   | (with_reducible exact LeO.refl _)
   | (with_reducible exact LeO.none _)
   | (with_reducible refine LeO.ite ?_ ?_)
   | (with_reducible refine LeO.bind ?_ (fun _ => ?_))
   | exact ih0 _ _
   | exact ih1 _ _
   | exact ih2 _ _ _
   | exact petrinetref08_Valid.mono _ _
   | exact LeO.none _
   | refine LeO.ite ?_ ?_
   | refine LeO.bind ?_ (fun _ => ?_)
theorem petrinetref08_Small.mono : ∀ a0 k, LeO (petrinetref08_Small.f k a0) (petrinetref08_Small.f (k + 1) a0) := by
 intro a0 k
 obtain ⟨ih0, ih1, ih2⟩ := petrinetref08_Small.mono_l k
 unfold petrinetref08_Small.f
 repeat' first
   | (with_reducible exact ih0 _ _)
   | (with_reducible exact ih1 _ _)
   | (with_reducible exact ih2 _ _ _)
   | (with_reducible exact petrinetref08_Valid.mono _ _)
   | (with_reducible exact LeO.refl _)
   | (with_reducible exact LeO.none _)
   | (with_reducible refine LeO.ite ?_ ?_)
   | (with_reducible refine LeO.bind ?_ (fun _ => ?_))
   | exact ih0 _ _
   | exact ih1 _ _
   | exact ih2 _ _ _
   | exact petrinetref08_Valid.mono _ _
   | exact LeO.none _
   | refine LeO.ite ?_ ?_
   | refine LeO.bind ?_ (fun _ => ?_)
set_option maxHeartbeats 8000000 in
set_option maxRecDepth 100000 in
theorem petrinetref08_Small.calls (k : Nat) (A0 : Option Addr) (c0 : Nat) (l0 : List (List Int)) (r : Bool) (w : World) (hr0 : Kd.C (Kd.slice 2 (Kd.int .i64)) w A0 l0.length l0) (hc0 : l0.length ≤ c0) (h : petrinetref08_Small.f k l0 = some r) :
  Calls Try.prog 12 #[.slice A0 l0.length c0] w fun e w' => e = .returned (.bool r) ∧ Drawn0 w w' := by
 have HR0 := Aside0.mk hr0
 have HC0 := Aside0.mk hc0
 clear hr0 hc0
 have H : ((petrinetref08_Valid.f k l0).bind fun t288 => (if t288 = true then (if (l0.length : Int) > 8 then (petrinetref08_Small.j0 k l0 true) else (if 0 < (l0.length : Int) then (petrinetref08_Small.j0 k l0 (decide (((rd_L1 l0 0).length : Int) > 8))) else (none))) else (petrinetref08_Small.j0 k l0 true))) = some r := h
 clear h
 have HC2 := Aside0.mk H
 clear H
 go_enter Try.func12, Try.ntmps12
 go_upto_region 1 with (fail)
 go_cut [19] (fun v19 wc => ∃ (kq : Nat) (x19_1 : Bool), v19 = .bool x19_1 ∧ Aside0 (petrinetref08_Small.j0 kq l0 x19_1 = some r) ∧ Aside0 (kq ≤ k) ∧ Drawn0 w wc)
 case first =>
  have H := HC2.out
  clear HC2
  replace H := Option.bind_eq_some_iff.mp H
  obtain ⟨t288, A30, H⟩ := H
  replace H : (if t288 = true then (if (l0.length : Int) > 8 then (petrinetref08_Small.j0 k l0 true) else (if 0 < (l0.length : Int) then (petrinetref08_Small.j0 k l0 (decide (((rd_L1 l0 0).length : Int) > 8))) else (none))) else (petrinetref08_Small.j0 k l0 true)) = some r := H
  have A3 := Aside0.mk A30
  clear A30
  by_cases c4 : t288 = true
  ·
   subst c4
   have H1 : (if (l0.length : Int) > 8 then (petrinetref08_Small.j0 k l0 true) else (if 0 < (l0.length : Int) then (petrinetref08_Small.j0 k l0 (decide (((rd_L1 l0 0).length : Int) > 8))) else (none))) = some r := by rw [if_pos rfl] at H; exact H
   clear H
   have H := H1
   clear H1
   by_cases c5 : (l0.length : Int) > 8
   ·
    rw [if_pos c5] at H
    have c5b0 : decide (8 < (l0.length : Int)) = true := decide_eq_true c5
    have c5b1 : decide (8 < l0.length) = true := decide_eq_true (by omega)
    clear c5
    (first | rw [c5b0] | (simp only [i64_w, i32_w]; rw [c5b0]) | skip)
    have H' := Aside0.mk H
    clear H
    go_wp2_with (first | ((with_reducible refine gate_callee (f := 10) rfl ?_); refine goesL_ (some 6) rfl rfl Try.func10 (by kernel_rfl) rfl #[.slice A0 l0.length c0] rfl (by (try simp only [List.map_toArray, List.map_cons, List.map_nil]); first | done | rfl | (simp only [List.length_drop, List.length_take]; rfl)) ?_; (with_reducible refine (petrinetref08_Valid.calls k _ _ l0 true _ ?side1 ?side2 A3.out).mono ?_); (case side1 => repeat (first | exact HR0.out | (with_reducible refine Kd.C_alloc ?_ _) | (with_reducible refine Kd.C_drewN ?_ _) | (with_reducible refine Kd.C_drew ?_))); (case side2 => exact HC0.out); rintro e w' ⟨rfl, ⟨nd, rfl⟩⟩; refine ⟨_, rfl, ?_⟩))
    go_meet
    case rel => exact ⟨_, (true), (by first | rfl | (simp; done) | (simp [*]; done)), H', ⟨by first | omega | exact Nat.le_refl _⟩, by repeat (first | exact Drawn0.refl _ | apply Drawn0.step)⟩
   ·
    rw [if_neg c5] at H
    have c5b0 : decide (8 < (l0.length : Int)) = false := decide_eq_false c5
    have c5b1 : decide (8 < l0.length) = false := decide_eq_false (by omega)
    clear c5
    (first | rw [c5b0] | (simp only [i64_w, i32_w]; rw [c5b0]) | skip)
    by_cases c6 : 0 < (l0.length : Int)
    ·
     rw [if_pos c6] at H
     have c6b0 : decide (0 < (l0.length : Int)) = true := decide_eq_true c6
     have c6b1 : decide (0 < l0.length) = true := decide_eq_true (by omega)
     clear c6
     have H' := Aside0.mk H
     clear H
     go_wp2_with (first | ((with_reducible refine gate_callee (f := 10) rfl ?_); refine goesL_ (some 6) rfl rfl Try.func10 (by kernel_rfl) rfl #[.slice A0 l0.length c0] rfl (by (try simp only [List.map_toArray, List.map_cons, List.map_nil]); first | done | rfl | (simp only [List.length_drop, List.length_take]; rfl)) ?_; (with_reducible refine (petrinetref08_Valid.calls k _ _ l0 true _ ?side1 ?side2 A3.out).mono ?_); (case side1 => repeat (first | exact HR0.out | (with_reducible refine Kd.C_alloc ?_ _) | (with_reducible refine Kd.C_drewN ?_ _) | (with_reducible refine Kd.C_drew ?_))); (case side2 => exact HC0.out); rintro e w' ⟨rfl, ⟨nd, rfl⟩⟩; refine ⟨_, rfl, ?_⟩; have p289 : 0 ≤ (0 : Int) := (by omega); have q289 : 0 < (l0.length : Int) := of_decide_eq_true (by first | (with_reducible assumption) | assumption); obtain ⟨ad289, A289_0, c289_0, e289, hx289_0, hl289_0, hi289_0⟩ := at_L1 HR0.out 0 p289 q289; cases e289; have qi289 : (0 < l0.length) = True := eq_true (by omega); (try rw [show ((0 : Int)).toNat = 0 from rfl] at hx289_0); (try rw [Addr.add_zero'] at hx289_0); have HR289_0 := Aside0.mk hi289_0; have HC289_0 := Aside0.mk hl289_0; clear hi289_0 hl289_0; replace p289 := eq_true p289; replace q289 := eq_true q289))
     go_meet
     case rel => exact ⟨_, (decide (((rd_L1 l0 0).length : Int) > 8)), (by first | rfl | (simp; done) | (simp [*]; done)), H', ⟨by first | omega | exact Nat.le_refl _⟩, by repeat (first | exact Drawn0.refl _ | apply Drawn0.step)⟩
    ·
     rw [if_neg c6] at H
     exact absurd H (by simp)
  ·
   replace c4 := Bool.eq_false_iff.mpr c4
   subst c4
   have H1 : (petrinetref08_Small.j0 k l0 true) = some r := by rw [if_neg (show ¬ (false = true) by decide)] at H; exact H
   clear H
   have H := H1
   clear H1
   have H' := Aside0.mk H
   clear H
   go_wp2_with (first | ((with_reducible refine gate_callee (f := 10) rfl ?_); refine goesL_ (some 6) rfl rfl Try.func10 (by kernel_rfl) rfl #[.slice A0 l0.length c0] rfl (by (try simp only [List.map_toArray, List.map_cons, List.map_nil]); first | done | rfl | (simp only [List.length_drop, List.length_take]; rfl)) ?_; (with_reducible refine (petrinetref08_Valid.calls k _ _ l0 false _ ?side1 ?side2 A3.out).mono ?_); (case side1 => repeat (first | exact HR0.out | (with_reducible refine Kd.C_alloc ?_ _) | (with_reducible refine Kd.C_drewN ?_ _) | (with_reducible refine Kd.C_drew ?_))); (case side2 => exact HC0.out); rintro e w' ⟨rfl, ⟨nd, rfl⟩⟩; refine ⟨_, rfl, ?_⟩))
   go_meet
   case rel => exact ⟨_, (true), (by first | rfl | (simp; done) | (simp [*]; done)), H', ⟨by first | omega | exact Nat.le_refl _⟩, by repeat (first | exact Drawn0.refl _ | apply Drawn0.step)⟩
 case rest =>
  clear HC2
  try clear c1
  try clear c2
  try clear p2
  try clear q2
  try clear hx2
  try clear qi2
  try clear c4
  try clear c5
  try clear c5b0
  try clear c5b1
  try clear c6
  try clear c6b0
  try clear c6b1
  try clear hx289_0
  try clear p289
  try clear q289
  obtain ⟨kq, x19_1, rfl, HA, HJ1, ⟨mc1, rfl⟩⟩ := hcut
  cases kq with
  | zero => exact absurd HA.out (by simp [petrinetref08_Small.j0])
  | succ kj1 =>
   have H := HA.out
   clear HA
   simp only [petrinetref08_Small.j0] at H
   by_cases c7 : x19_1 = true
   ·
    subst c7
    have H1 : (some false) = some r := by rw [if_pos rfl] at H; exact H
    clear H
    have H := H1
    clear H1
    obtain rfl := Option.some.inj H
    go_wp2
    go_ret
    exact ⟨by first | rfl | (simp; done) | (simp [*]; done), by repeat (first | exact Drawn0.refl _ | apply Drawn0.step)⟩
   ·
    replace c7 := Bool.eq_false_iff.mpr c7
    subst c7
    have H1 : (petrinetref08_Small.l0 kj1 l0 0) = some r := by rw [if_neg (show ¬ (false = true) by decide)] at H; exact H
    clear H
    have H := H1
    clear H1
    have H' := Aside0.mk H
    clear H
    go_wp2
    go_loopg [3] kj1 (fun kq v3 w' => ∃ (x3_2 : Int), v3 = .int .i64 x3_2 ∧ Aside0 (petrinetref08_Small.l0 kq l0 x3_2 = some r) ∧ Aside0 (kq ≤ kj1) ∧ Drawn0 w w')
    case atStart => exact ⟨(0), (by first | rfl | (simp; done) | (simp [*]; done)), H', ⟨Nat.le_refl _⟩, by repeat (first | exact Drawn0.refl _ | apply Drawn0.step)⟩
    case round =>
     clear H'
     try clear c1
     try clear c2
     try clear p2
     try clear q2
     try clear hx2
     try clear qi2
     try clear c4
     try clear c5
     try clear c5b0
     try clear c5b1
     try clear c6
     try clear c6b0
     try clear c6b1
     try clear c7
     try clear hx289_0
     try clear p2
     try clear p289
     try clear q2
     try clear q289
     obtain ⟨x3_2, rfl, HA, HK2, ⟨m2, rfl⟩⟩ := hrel
     cases gk with
     | zero => exact absurd HA.out (by simp [petrinetref08_Small.l0])
     | succ k2 =>
      have H := HA.out
      clear HA
      simp only [petrinetref08_Small.l0] at H
      by_cases c8 : x3_2 < (l0.length : Int)
      ·
       rw [if_pos c8] at H
       have c8b0 : decide (x3_2 < (l0.length : Int)) = true := decide_eq_true c8
       clear c8
       have H' := Aside0.mk H
       clear H
       go_wp2
       go_loopg [4] k2 (fun kq v4 w' => ∃ (x4_3 : Int), v4 = .int .i64 x4_3 ∧ Aside0 (petrinetref08_Small.l1 kq l0 x3_2 x4_3 = some r) ∧ Aside0 (kq ≤ k2) ∧ Drawn0 w w')
       case atStart => exact ⟨(0), (by first | rfl | (simp; done) | (simp [*]; done)), H', ⟨Nat.le_refl _⟩, by repeat (first | exact Drawn0.refl _ | apply Drawn0.step)⟩
       case round =>
        clear H'
        try clear c1
        try clear c2
        try clear p2
        try clear q2
        try clear hx2
        try clear qi2
        try clear c4
        try clear c5
        try clear c5b0
        try clear c5b1
        try clear c6
        try clear c6b0
        try clear c6b1
        try clear c7
        try clear c8
        try clear c8b0
        try clear hx289_0
        try clear p2
        try clear p289
        try clear q2
        try clear q289
        obtain ⟨x4_3, rfl, HA, HK3, ⟨m3, rfl⟩⟩ := hrel
        cases gk with
        | zero => exact absurd HA.out (by simp [petrinetref08_Small.l1])
        | succ k3 =>
         have H := HA.out
         clear HA
         simp only [petrinetref08_Small.l1] at H
         by_cases c9 : 0 ≤ x3_2
         ·
          rw [if_pos c9] at H
          have c9b0 : decide (0 ≤ x3_2) = true := decide_eq_true c9
          clear c9
          by_cases c10 : x3_2 < (l0.length : Int)
          ·
           rw [if_pos c10] at H
           have c10b0 : decide (x3_2 < (l0.length : Int)) = true := decide_eq_true c10
           clear c10
           by_cases c11 : x4_3 < ((rd_L1 l0 x3_2).length : Int)
           ·
            rw [if_pos c11] at H
            have c11b0 : decide (x4_3 < ((rd_L1 l0 x3_2).length : Int)) = true := decide_eq_true c11
            clear c11
            by_cases c12 : 0 ≤ x4_3
            ·
             rw [if_pos c12] at H
             have c12b0 : decide (0 ≤ x4_3) = true := decide_eq_true c12
             clear c12
             by_cases c13 : (rd (rd_L1 l0 x3_2) x4_3) < (-3)
             ·
              rw [if_pos c13] at H
              have c13b0 : decide ((rd (rd_L1 l0 x3_2) x4_3) < (-3)) = true := decide_eq_true c13
              clear c13
              obtain rfl := Option.some.inj H
              have p290 : 0 ≤ (x3_2 : Int) := of_decide_eq_true (by first | (with_reducible assumption) | assumption)
              have q290 : x3_2 < (l0.length : Int) := of_decide_eq_true (by first | (with_reducible assumption) | assumption)
              obtain ⟨ad290, A290_0, c290_0, e290, hx290_0, hl290_0, hi290_0⟩ := at_L1 HR0.out x3_2 p290 q290
              cases e290
              have HR290_0 := Aside0.mk hi290_0
              have HC290_0 := Aside0.mk hl290_0
              clear hi290_0 hl290_0
              replace p290 := eq_true p290
              replace q290 := eq_true q290
              have p291 : 0 ≤ (x3_2 : Int) := of_decide_eq_true (by first | (with_reducible assumption) | assumption)
              have q291 : x3_2 < (l0.length : Int) := of_decide_eq_true (by first | (with_reducible assumption) | assumption)
              obtain ⟨ad291, A291_0, c291_0, e291, hx291_0, hl291_0, hi291_0⟩ := at_L1 HR0.out x3_2 p291 q291
              obtain rfl : ad290 = ad291 := (by injection e291)
              have HR291_0 := Aside0.mk hi291_0
              have HC291_0 := Aside0.mk hl291_0
              clear hi291_0 hl291_0
              replace p291 := eq_true p291
              replace q291 := eq_true q291
              have ea_ := Option.some.inj (hx290_0.symm.trans hx291_0)
              injection ea_ with ea_ en_ ec_
              subst ea_
              subst ec_
              clear en_
              have p292 : 0 ≤ (x4_3 : Int) := of_decide_eq_true (by first | (with_reducible assumption) | assumption)
              have q292 : x4_3 < ((rd_L1 l0 x3_2).length : Int) := of_decide_eq_true (by first | (with_reducible assumption) | assumption)
              obtain ⟨ad292, e292, hx292_0⟩ := Kd.at_int HR291_0.out x4_3 p292 q292
              cases e292
              replace p292 := eq_true p292
              replace q292 := eq_true q292
              go_wp2
              go_ret
              exact ⟨by first | rfl | (simp; done) | (simp [*]; done), by repeat (first | exact Drawn0.refl _ | apply Drawn0.step)⟩
             ·
              rw [if_neg c13] at H
              have c13b0 : decide ((rd (rd_L1 l0 x3_2) x4_3) < (-3)) = false := decide_eq_false c13
              clear c13
              by_cases c14 : (rd (rd_L1 l0 x3_2) x4_3) > 3
              ·
               rw [if_pos c14] at H
               have c14b0 : decide (3 < (rd (rd_L1 l0 x3_2) x4_3)) = true := decide_eq_true c14
               clear c14
               obtain rfl := Option.some.inj H
               have p290 : 0 ≤ (x3_2 : Int) := of_decide_eq_true (by first | (with_reducible assumption) | assumption)
               have q290 : x3_2 < (l0.length : Int) := of_decide_eq_true (by first | (with_reducible assumption) | assumption)
               obtain ⟨ad290, A290_0, c290_0, e290, hx290_0, hl290_0, hi290_0⟩ := at_L1 HR0.out x3_2 p290 q290
               cases e290
               have HR290_0 := Aside0.mk hi290_0
               have HC290_0 := Aside0.mk hl290_0
               clear hi290_0 hl290_0
               replace p290 := eq_true p290
               replace q290 := eq_true q290
               have p291 : 0 ≤ (x3_2 : Int) := of_decide_eq_true (by first | (with_reducible assumption) | assumption)
               have q291 : x3_2 < (l0.length : Int) := of_decide_eq_true (by first | (with_reducible assumption) | assumption)
               obtain ⟨ad291, A291_0, c291_0, e291, hx291_0, hl291_0, hi291_0⟩ := at_L1 HR0.out x3_2 p291 q291
               obtain rfl : ad290 = ad291 := (by injection e291)
               have HR291_0 := Aside0.mk hi291_0
               have HC291_0 := Aside0.mk hl291_0
               clear hi291_0 hl291_0
               replace p291 := eq_true p291
               replace q291 := eq_true q291
               have ea_ := Option.some.inj (hx290_0.symm.trans hx291_0)
               injection ea_ with ea_ en_ ec_
               subst ea_
               subst ec_
               clear en_
               have p292 : 0 ≤ (x4_3 : Int) := of_decide_eq_true (by first | (with_reducible assumption) | assumption)
               have q292 : x4_3 < ((rd_L1 l0 x3_2).length : Int) := of_decide_eq_true (by first | (with_reducible assumption) | assumption)
               obtain ⟨ad292, e292, hx292_0⟩ := Kd.at_int HR291_0.out x4_3 p292 q292
               cases e292
               replace p292 := eq_true p292
               replace q292 := eq_true q292
               have p293 : 0 ≤ (x3_2 : Int) := of_decide_eq_true (by first | (with_reducible assumption) | assumption)
               have q293 : x3_2 < (l0.length : Int) := of_decide_eq_true (by first | (with_reducible assumption) | assumption)
               obtain ⟨ad293, A293_0, c293_0, e293, hx293_0, hl293_0, hi293_0⟩ := at_L1 HR0.out x3_2 p293 q293
               obtain rfl : ad290 = ad293 := (by injection e293)
               have HR293_0 := Aside0.mk hi293_0
               have HC293_0 := Aside0.mk hl293_0
               clear hi293_0 hl293_0
               replace p293 := eq_true p293
               replace q293 := eq_true q293
               have ea_ := Option.some.inj (hx290_0.symm.trans hx293_0)
               injection ea_ with ea_ en_ ec_
               subst ea_
               subst ec_
               clear en_
               have p294 : 0 ≤ (x4_3 : Int) := of_decide_eq_true (by first | (with_reducible assumption) | assumption)
               have q294 : x4_3 < ((rd_L1 l0 x3_2).length : Int) := of_decide_eq_true (by first | (with_reducible assumption) | assumption)
               obtain ⟨ad294, e294, hx294_0⟩ := Kd.at_int HR293_0.out x4_3 p294 q294
               cases e294
               replace p294 := eq_true p294
               replace q294 := eq_true q294
               go_wp2
               go_ret
               exact ⟨by first | rfl | (simp; done) | (simp [*]; done), by repeat (first | exact Drawn0.refl _ | apply Drawn0.step)⟩
              ·
               rw [if_neg c14] at H
               have c14b0 : decide (3 < (rd (rd_L1 l0 x3_2) x4_3)) = false := decide_eq_false c14
               clear c14
               have H' := Aside0.mk H
               clear H
               have p290 : 0 ≤ (x3_2 : Int) := of_decide_eq_true (by first | (with_reducible assumption) | assumption)
               have q290 : x3_2 < (l0.length : Int) := of_decide_eq_true (by first | (with_reducible assumption) | assumption)
               obtain ⟨ad290, A290_0, c290_0, e290, hx290_0, hl290_0, hi290_0⟩ := at_L1 HR0.out x3_2 p290 q290
               cases e290
               have HR290_0 := Aside0.mk hi290_0
               have HC290_0 := Aside0.mk hl290_0
               clear hi290_0 hl290_0
               replace p290 := eq_true p290
               replace q290 := eq_true q290
               have p291 : 0 ≤ (x3_2 : Int) := of_decide_eq_true (by first | (with_reducible assumption) | assumption)
               have q291 : x3_2 < (l0.length : Int) := of_decide_eq_true (by first | (with_reducible assumption) | assumption)
               obtain ⟨ad291, A291_0, c291_0, e291, hx291_0, hl291_0, hi291_0⟩ := at_L1 HR0.out x3_2 p291 q291
               obtain rfl : ad290 = ad291 := (by injection e291)
               have HR291_0 := Aside0.mk hi291_0
               have HC291_0 := Aside0.mk hl291_0
               clear hi291_0 hl291_0
               replace p291 := eq_true p291
               replace q291 := eq_true q291
               have ea_ := Option.some.inj (hx290_0.symm.trans hx291_0)
               injection ea_ with ea_ en_ ec_
               subst ea_
               subst ec_
               clear en_
               have p292 : 0 ≤ (x4_3 : Int) := of_decide_eq_true (by first | (with_reducible assumption) | assumption)
               have q292 : x4_3 < ((rd_L1 l0 x3_2).length : Int) := of_decide_eq_true (by first | (with_reducible assumption) | assumption)
               obtain ⟨ad292, e292, hx292_0⟩ := Kd.at_int HR291_0.out x4_3 p292 q292
               cases e292
               replace p292 := eq_true p292
               replace q292 := eq_true q292
               have p293 : 0 ≤ (x3_2 : Int) := of_decide_eq_true (by first | (with_reducible assumption) | assumption)
               have q293 : x3_2 < (l0.length : Int) := of_decide_eq_true (by first | (with_reducible assumption) | assumption)
               obtain ⟨ad293, A293_0, c293_0, e293, hx293_0, hl293_0, hi293_0⟩ := at_L1 HR0.out x3_2 p293 q293
               obtain rfl : ad290 = ad293 := (by injection e293)
               have HR293_0 := Aside0.mk hi293_0
               have HC293_0 := Aside0.mk hl293_0
               clear hi293_0 hl293_0
               replace p293 := eq_true p293
               replace q293 := eq_true q293
               have ea_ := Option.some.inj (hx290_0.symm.trans hx293_0)
               injection ea_ with ea_ en_ ec_
               subst ea_
               subst ec_
               clear en_
               have p294 : 0 ≤ (x4_3 : Int) := of_decide_eq_true (by first | (with_reducible assumption) | assumption)
               have q294 : x4_3 < ((rd_L1 l0 x3_2).length : Int) := of_decide_eq_true (by first | (with_reducible assumption) | assumption)
               obtain ⟨ad294, e294, hx294_0⟩ := Kd.at_int HR293_0.out x4_3 p294 q294
               cases e294
               replace p294 := eq_true p294
               replace q294 := eq_true q294
               go_wp2
               go_roundg k3
               case measure => have := HJ1.out; have := HK2.out; have := HK3.out; omega
               case rel => exact ⟨(wrap64 (x4_3 + 1)), (by first | rfl | (simp; done) | (simp [*]; done)), H', ⟨by have := HJ1.out; have := HK2.out; have := HK3.out; omega⟩, by repeat (first | exact Drawn0.refl _ | apply Drawn0.step)⟩
            ·
             rw [if_neg c12] at H
             exact absurd H (by simp)
           ·
            rw [if_neg c11] at H
            have c11b0 : decide (x4_3 < ((rd_L1 l0 x3_2).length : Int)) = false := decide_eq_false c11
            clear c11
            have H' := Aside0.mk H
            clear H
            have p290 : 0 ≤ (x3_2 : Int) := of_decide_eq_true (by first | (with_reducible assumption) | assumption)
            have q290 : x3_2 < (l0.length : Int) := of_decide_eq_true (by first | (with_reducible assumption) | assumption)
            obtain ⟨ad290, A290_0, c290_0, e290, hx290_0, hl290_0, hi290_0⟩ := at_L1 HR0.out x3_2 p290 q290
            cases e290
            have HR290_0 := Aside0.mk hi290_0
            have HC290_0 := Aside0.mk hl290_0
            clear hi290_0 hl290_0
            replace p290 := eq_true p290
            replace q290 := eq_true q290
            go_wp2
            go_roundg k3
            case measure => have := HJ1.out; have := HK2.out; have := HK3.out; omega
            case rel => exact ⟨(wrap64 (x3_2 + 1)), (by first | rfl | (simp; done) | (simp [*]; done)), H', ⟨by have := HJ1.out; have := HK2.out; have := HK3.out; omega⟩, by repeat (first | exact Drawn0.refl _ | apply Drawn0.step)⟩
          ·
           rw [if_neg c10] at H
           exact absurd H (by simp)
         ·
          rw [if_neg c9] at H
          exact absurd H (by simp)
      ·
       rw [if_neg c8] at H
       have c8b0 : decide (x3_2 < (l0.length : Int)) = false := decide_eq_false c8
       clear c8
       obtain rfl := Option.some.inj H
       go_wp2
       go_ret
       exact ⟨by first | rfl | (simp; done) | (simp [*]; done), by repeat (first | exact Drawn0.refl _ | apply Drawn0.step)⟩

end Go.Proofs.Ytckefohfahphpaa.Z
end
section
namespace Go.Proofs.Ytckefohfahphpaa.Z
open Go.RowKit Go.Proofs.YtckefohfahphpaaW.PrintWords Go.Proofs.YtckefohfahphpaaW.PrintLast Go.Proofs.YtckefohfahphpaaW.PrintMore
attribute [local go_sem] max2_int min2_int max_two min_two max_three min_three max_four min_four   -- for this text's walks alone
set_option linter.unusedVariables false
set_option linter.unusedSimpArgs false

/-! ### matrix_Rank: function 16, by hand -/
def matrix_Rank.f (k : Nat) (a : List (List Int)) : Option (Int × Int) := (matrix_Valid.f k a).bind fun v => if v = true then (matrix_reduce.f k a).bind fun r => some ((r.1.2.length : Int), r.2) else some (0, 2)
theorem matrix_Rank.mono (a : List (List Int)) (k : Nat) : LeO (matrix_Rank.f k a) (matrix_Rank.f (k + 1) a) := by
 unfold matrix_Rank.f
 exact LeO.bind (matrix_Valid.mono _ _) (fun _ => LeO.ite (LeO.bind (matrix_reduce.mono _ _) (fun _ => LeO.refl _)) (LeO.refl _))
set_option maxHeartbeats 8000000 in
set_option maxRecDepth 100000 in
theorem matrix_Rank.calls (k : Nat) (A0 : Option Addr) (c0 : Nat) (l0 : List (List Int)) (r1 : Int) (r2 : Int) (w : World) (hr0 : Kd.C (Kd.slice 2 (Kd.int .i64)) w A0 l0.length l0) (hc0 : l0.length ≤ c0) (h : matrix_Rank.f k l0 = some (r1, r2)) :
  Calls Try.prog 16 #[.slice A0 l0.length c0] w fun e w' => e = .returned (.tuple #[.int .i64 r1, .int .i64 r2]) ∧ Below w.heap.size w w' := by
 unfold matrix_Rank.f at h
 obtain ⟨v, hv, h⟩ := Option.bind_eq_some_iff.mp h
 have HV := Aside0.mk hv
 have HR := Aside0.mk hr0
 have HC := Aside0.mk hc0
 cases v
 ·
  have hE : (0 : Int) = r1 ∧ (2 : Int) = r2 := by simpa using h
  obtain ⟨rfl, rfl⟩ := hE
  clear hr0 hc0 h hv
  go_enter Try.func16, Try.ntmps16
  go_wp2_with (fail)
  refine (matrix_Valid.calls k _ _ l0 false _ HR.out HC.out HV.out).mono ?_
  rintro e w1 ⟨rfl, hd⟩
  have HD := Aside0.mk hd
  clear hd
  go_wp2
  go_ret2
  exact ⟨rfl, HD.out.below⟩
 ·
  simp only [if_true] at h
  obtain ⟨⟨⟨rows, cols⟩, e2⟩, hred, h⟩ := Option.bind_eq_some_iff.mp h
  have HRED := Aside0.mk hred
  obtain ⟨rfl, rfl⟩ : (cols.length : Int) = r1 ∧ e2 = r2 := by simpa using h
  clear hr0 hc0 hv hred h
  by_cases he : e2 = 0
  ·
   subst he
   go_enter Try.func16, Try.ntmps16
   go_wp2_with (fail)
   refine (matrix_Valid.calls k _ _ l0 true _ HR.out HC.out HV.out).mono ?_
   rintro e w1 ⟨rfl, hd⟩
   have HD := Aside0.mk hd.below
   clear hd
   go_wp2_with (fail)
   refine (matrix_reduce.calls k _ _ l0 rows cols 0 _ (Kd.C_below HR.out HD.out) HC.out HRED.out).mono ?_
   rintro e3 w3 ⟨p, rfl, hB, hz⟩
   obtain ⟨cv, rv, rfl, hT⟩ := hz rfl
   have HB := Aside0.mk (below_step HD.out hB)
   obtain ⟨Ac, cc, rfl⟩ := Kd.R_slice hT.col
   have hc1 := hT.c0
   clear hB hz hT
   go_wp2_with (fail)
   refine (pivots_rank.calls _ Ac cols.length cc _ hc1).mono ?_
   rintro e5 w5 ⟨rfl, hw⟩
   have hw := hw.symm
   subst hw
   go_wp2
   go_ret2
   exact ⟨rfl, HB.out⟩
  ·
   obtain ⟨rfl, rfl⟩ := reduce_bad HRED.out he
   have he3 : (e2 == 0) = false := beq_eq_false_iff_ne.mpr he
   have he4 : (e2 != 0) = true := bne_iff_ne.mpr he
   go_enter Try.func16, Try.ntmps16
   go_wp2_with (fail)
   refine (matrix_Valid.calls k _ _ l0 true _ HR.out HC.out HV.out).mono ?_
   rintro e w1 ⟨rfl, hd⟩
   have HD := Aside0.mk hd.below
   clear hd
   go_wp2_with (fail)
   refine (matrix_reduce.calls k _ _ l0 _ _ e2 _ (Kd.C_below HR.out HD.out) HC.out HRED.out).mono ?_
   rintro e3 w3 ⟨p, rfl, hB, hz⟩
   have HB := Aside0.mk (below_step HD.out hB)
   clear hB hz
   go_wp2
   go_ret2
   exact ⟨rfl, HB.out⟩

end Go.Proofs.Ytckefohfahphpaa.Z
end
section
namespace Go.Proofs.Ytckefohfahphpaa.Z
open Go.RowKit Go.Proofs.YtckefohfahphpaaW.PrintWords Go.Proofs.YtckefohfahphpaaW.PrintLast Go.Proofs.YtckefohfahphpaaW.PrintMore
set_option linter.unusedVariables false
set_option linter.unusedSimpArgs false
theorem rdL_snoc (l : List (List Int)) (s : List Int) (j : Nat) : rd_L1 (l ++ [s]) (j : Int) = if j = l.length then s else rd_L1 l (j : Int) := by
  simp only [rd_L1, List.getD_eq_getElem?_getD, Int.toNat_natCast]
  by_cases h : j < l.length
  · rw [if_neg (by omega), List.getElem?_append_left h]
  · rw [List.getElem?_append_right (by omega)]
    by_cases e : j = l.length
    · subst e; simp
    · rw [if_neg e, List.getElem?_eq_none (by simp; omega), List.getElem?_eq_none (by omega)]
theorem rech_l0 {a : List (List Int)} {n Bk : Nat} (hB : Lots Bk) (hp : 0 < a.length) (hm : a.length ≤ 64) (hn : n ≤ 64) (hx : (rd_L1 a 0).length = n) (ha : ∀ i : Nat, i < a.length → okr n (rd_L1 a (i : Int))) : ∀ (d i k : Nat) (acc : List (List Int)), i + d = a.length → Bk + 300 * n + 301 + d ≤ k → acc.length = i →
    (∀ j : Nat, j < i → rowR n (rd_L1 acc (j : Int)) ∧ ∃ σ g : Int, σ ≠ 0 ∧ 0 < g ∧ ∀ x, σ * vec (rd_L1 a (j : Int)) x = g * vec (rd_L1 acc (j : Int)) x) →
    ∃ r, petrinetref08_Echelon.l0 k a acc (i : Int) = some r ∧ PostR a n r := by
  intro d
  induction d with
  | zero =>
    intro i k acc hi hk hl hacc
    obtain ⟨k, rfl⟩ : ∃ z, k = z + 1 := ⟨k - 1, by omega⟩
    rw [petrinetref08_Echelon.l0, if_neg (by omega)]
    have hst : Stg (spanL a) a.length (rowsV acc) 0 (fun _ => 0) 0 := by
      refine ⟨Nat.zero_le _, fun j hj => ?_, fun v hv => ?_, fun i j _ h => by omega, fun i h => by omega, fun i h => by omega, fun i _ j h => by omega, fun i h => by omega, fun i _ _ x h => by omega, fun i h => by omega⟩
      · obtain ⟨_, σ, g, h1, h2, h3⟩ := hacc j (by omega)
        exact Sp.from (a := σ) (b := 0) (v := rowsV a j) (w := rowsV a j) (g := g) (by omega) (fun x => by simp only [rowsV]; rw [← h3]; simp) (.mem (vs_of hj)) (.mem (vs_of hj))
      · obtain ⟨j, hj, rfl⟩ := mem_vs.mp hv
        obtain ⟨_, σ, g, h1, h2, h3⟩ := hacc j (by omega)
        exact Sp.from (a := g) (b := 0) (v := rowsV acc j) (w := rowsV acc j) (g := σ) h1 (fun x => by simp only [rowsV]; rw [h3]; simp) (.mem (vs_of hj)) (.mem (vs_of hj))
    exact rech_l1 hB hm hn hp hx n 0 k 0 acc _ (by omega) (by omega) ⟨by omega, fun j hj => (hacc j (by omega)).1⟩ hst
  | succ d ih =>
    intro i k acc hi hk hl hacc
    obtain ⟨k, rfl⟩ : ∃ z, k = z + 1 := ⟨k - 1, by omega⟩
    have hkb : Lots k := hB.le (by omega)
    have hk' : Bk + 300 * n + 301 + d ≤ k := by omega
    rw [petrinetref08_Echelon.l0, if_pos (by omega), if_pos (by omega)]
    rcases rprm_spec (k := k) (ha i (by omega)) hn (Nat.le_trans (by decide) hkb.out) with ⟨s, h⟩ | ⟨s, h, h1, h2, σ, g, h3, h4, h5, h6⟩
    · rw [h]
      exact ⟨([], false), rfl, fun h => by cases h⟩
    · rw [h]
      simp only [Option.bind_some, if_true]
      rw [if_pos (by omega), wsucc (by omega)]
      refine ih (i + 1) k _ (by omega) hk' (by simp; omega) fun j hj => ?_
      rw [rdL_snoc]
      by_cases e : j = acc.length
      · rw [if_pos e]
        have e' : j = i := by omega
        rw [e']
        refine ⟨⟨h1, h2, ?_⟩, σ, g, h3, h4, h5⟩
        rcases h6 with h6 | h6
        · refine .inr fun x => ?_
          have := h5 x
          rw [h6 x, Int.mul_zero] at this
          exact (Int.mul_eq_zero.mp this.symm).resolve_left (by omega)
        · exact .inl h6
      · rw [if_neg e]
        exact hacc j (by omega)
theorem rows_ok {a : List (List Int)} {n : Nat} (h5 : ∀ r ∈ a, r.length = n) (ha : ∀ r ∈ a, ok64 r) (i : Nat) (hi : i < a.length) : okr n (rd_L1 a (i : Int)) := by
  have := rdL_mem (a := a) (j := (i : Int)) (by omega) (by omega)
  exact ⟨h5 _ this, ha _ this⟩
theorem rech_spec {k : Nat} {a : List (List Int)} (hv : validB a = true) (ha : ∀ r ∈ a, ok64 r) (hB : 9223372036854775808 + 30000 ≤ k) : ∃ r, petrinetref08_Echelon.f k a = some r ∧ PostR a (rd_L1 a 0).length r := by
  obtain ⟨n, h1, h2, h3, h4, h5, h6⟩ := validB_iff.mp hv
  obtain ⟨Bk, hBe⟩ : ∃ z, k = z + 20000 := ⟨k - 20000, by omega⟩
  have hL : Lots Bk := ⟨by omega⟩
  clear hB
  subst hBe
  rw [h6]
  exact rech_l0 hL (by omega) h2 h4 h6 (rows_ok h5 ha) a.length 0 _ [] (by omega) (by omega) rfl fun j hj => by omega
theorem Outc.same {a : List (List Int)} {n : Nat} {E F : List (List Int)} {p q : Nat → Nat} (hE : Outc a n E p) (hF : Outc a n F q) : E = F := by
  obtain ⟨h1, h2⟩ := hE.fn.uniq hF.fn (fun v hv => .mem hv) (fun v hv => .mem hv)
  apply List.ext_getElem h1
  intro i hi hi'
  have h3 := (h2 i hi).2
  have e1 : rd_L1 E (i : Int) = E[i] := by simp [rd_L1, List.getD_eq_getElem?_getD, hi]
  have e2 : rd_L1 F (i : Int) = F[i] := by simp [rd_L1, List.getD_eq_getElem?_getD, hi']
  unfold rowsV at h3
  rw [e1, e2] at h3
  exact vec_ext (by rw [(hE.ok _ (List.getElem_mem hi)).1, (hF.ok _ (List.getElem_mem hi')).1]) h3
theorem small_l {a : List (List Int)} {n : Nat} (hm : a.length ≤ 8) (hn : n ≤ 8) (h5 : ∀ r ∈ a, r.length = n) : ∀ (d i k : Nat), i + d = a.length → 20 * d + 10 ≤ k → (∀ j : Nat, j < i → ∀ x, (vec (rd_L1 a (j : Int)) x).natAbs ≤ 3) →
    ∃ b, petrinetref08_Small.l0 k a (i : Int) = some b ∧ (b = true → ∀ j : Nat, j < a.length → ∀ x, (vec (rd_L1 a (j : Int)) x).natAbs ≤ 3) := by
  intro d
  induction d with
  | zero =>
    intro i k hi hk h
    obtain ⟨k, rfl⟩ : ∃ z, k = z + 1 := ⟨k - 1, by omega⟩
    rw [petrinetref08_Small.l0, if_neg (by omega)]
    exact ⟨true, rfl, fun _ j hj => h j (by omega)⟩
  | succ d ih =>
    intro i k hi hk h
    obtain ⟨k, rfl⟩ : ∃ z, k = z + 1 := ⟨k - 1, by omega⟩
    have hl := h5 _ (rdL_mem (a := a) (j := (i : Int)) (by omega) (by omega))
    rw [petrinetref08_Small.l0, if_pos (by omega)]
    have inner : ∀ (e c k : Nat), c + e = n → 20 * d + 10 + e + 1 ≤ k → (∀ x, x < c → (vec (rd_L1 a (i : Int)) x).natAbs ≤ 3) → ∃ b, petrinetref08_Small.l1 k a (i : Int) (c : Int) = some b ∧ (b = true → ∀ j : Nat, j < a.length → ∀ x, (vec (rd_L1 a (j : Int)) x).natAbs ≤ 3) := by
      intro e
      induction e with
      | zero =>
        intro c k hc hk hx
        obtain ⟨k, rfl⟩ : ∃ z, k = z + 1 := ⟨k - 1, by omega⟩
        rw [petrinetref08_Small.l1, if_pos (by omega), if_pos (by omega), if_neg (by omega), wsucc (by omega)]
        refine ih (i + 1) k (by omega) (by omega) fun j hj x => ?_
        by_cases ej : j = i
        · rw [ej]
          by_cases hxc : x < c
          · exact hx x hxc
          · rw [vec_out (by omega)]; simp
        · exact h j (by omega) x
      | succ e ihe =>
        intro c k hc hk hx
        obtain ⟨k, rfl⟩ : ∃ z, k = z + 1 := ⟨k - 1, by omega⟩
        have hcn : c ≤ 100000 := by omega
        have hc1 : c + 1 + e = n := by omega
        have hk1 : 20 * d + 10 + e + 1 ≤ k := by omega
        rw [petrinetref08_Small.l1, if_pos (by omega), if_pos (by omega), if_pos (by omega), if_pos (by omega), rd_vec]
        by_cases c1 : vec (rd_L1 a (i : Int)) c < -3
        · rw [if_pos c1]; exact ⟨false, rfl, fun h => by cases h⟩
        rw [if_neg c1]
        by_cases c2 : vec (rd_L1 a (i : Int)) c > 3
        · rw [if_pos c2]; exact ⟨false, rfl, fun h => by cases h⟩
        rw [if_neg c2, wsucc hcn]
        refine ihe (c + 1) k hc1 hk1 fun x hxc => ?_
        by_cases ex : x = c
        · rw [ex]; omega
        · exact hx x (by omega)
    exact inner n 0 k (by omega) (by omega) fun x hx => by omega
theorem small_spec {k : Nat} {a : List (List Int)} (hv : validB a = true) (hk : 1000 ≤ k) : ∃ b, petrinetref08_Small.f k a = some b ∧ (b = true → tiny a a.length) := by
  obtain ⟨n, h1, h2, h3, h4, h5, h6⟩ := validB_iff.mp hv
  unfold petrinetref08_Small.f
  obtain ⟨k, rfl⟩ : ∃ z, k = z + 1 := ⟨k - 1, by omega⟩
  rw [rvalid_eq a _ (by omega), hv]
  simp only [Option.bind_some, if_true]
  by_cases c1 : (a.length : Int) > 8
  · rw [if_pos c1, petrinetref08_Small.j0, if_pos rfl]
    exact ⟨false, rfl, fun h => by cases h⟩
  rw [if_neg c1, if_pos (by omega), h6]
  by_cases c2 : (n : Int) > 8
  · rw [decide_eq_true c2, petrinetref08_Small.j0, if_pos rfl]
    exact ⟨false, rfl, fun h => by cases h⟩
  rw [decide_eq_false c2, petrinetref08_Small.j0, if_neg (by decide)]
  obtain ⟨b, q1, q2⟩ := small_l (a := a) (n := n) (by omega) (by omega) h5 a.length 0 k (by omega) (by omega) fun j hj => by omega
  refine ⟨b, q1, fun hb => ⟨by omega, fun r hr x => ?_⟩⟩
  obtain ⟨j, hj, rfl⟩ := mem_vs.mp hr
  exact q2 hb j hj x
theorem mech_eq {K : Nat} {a : List (List Int)} (hK : 300 ≤ K) : matrix_Echelon.f K a = if validB a = true then (matrix_reduce.f K a).bind fun r => some (r.1.1, r.2) else some ([], 2) := by
  unfold matrix_Echelon.f
  rw [mvalid_eq a K (by omega)]
  rfl
theorem mrank_eq {K : Nat} {a : List (List Int)} (hK : 300 ≤ K) : matrix_Rank.f K a = if validB a = true then (matrix_reduce.f K a).bind fun r => some ((r.1.2.length : Int), r.2) else some (0, 2) := by
  unfold matrix_Rank.f
  rw [mvalid_eq a K (by omega)]
  rfl
theorem Fnl.inc {A : List Vc} {T : Nat → Vc} {k : Nat} {p : Nat → Nat} (h : Fnl A T k p) {i j : Nat} (hij : i < j) (hj : j < k) : p i < p j := by
  have := List.pairwise_iff_getElem.mp h.red.inc i j (by simp [pairs]; omega) (by simp [pairs]; omega) hij
  simpa [pairs] using this
theorem Outc.len {a : List (List Int)} {n : Nat} {E : List (List Int)} {p : Nat → Nat} (h : Outc a n E p) : E.length ≤ n := by
  have hp : ∀ i, i < E.length → i ≤ p i := by
    intro i
    induction i with
    | zero => intro _; omega
    | succ i ih =>
      intro hi
      have h1 := ih (by omega)
      have h2 := h.fn.inc (show i < i + 1 by omega) hi
      omega
  by_cases h0 : E.length = 0
  · omega
  · have h1 := hp (E.length - 1) (by omega)
    have h2 := h.pn (E.length - 1) (by omega)
    omega
end Go.Proofs.Ytckefohfahphpaa.Z
end
section
namespace Go.Proofs.Ytckefohfahphpaa.Z
open Go.RowKit Go.Proofs.YtckefohfahphpaaW.PrintWords Go.Proofs.YtckefohfahphpaaW.PrintLast Go.Proofs.YtckefohfahphpaaW.PrintMore
attribute [local go_sem] max2_int min2_int max_two min_two max_three min_three max_four min_four   -- for this text's walks alone
set_option linter.unusedVariables false
set_option linter.unusedSimpArgs false

/-! ### petrinetlaw08_MatrixEchelons: function 4 -/
def petrinetlaw08_MatrixEchelons.j0 : Nat → List (List Int) → List (List Int) → Int → Int → Int → Bool → Option (Bool)
 | 0, _, _, _, _, _, _ => none
 | k + 1, x0, x3, x4, x5, x6, x70 => if x70 = true then (none) else ((petrinetref08_Echelon.f k x0).bind fun bt366 => (if bt366.2 = true then (if x4 = 0 then ((petrinetref08_Same.f k x3 bt366.1).bind fun t370 => (if t370 = true then (if x6 = 0 then (if x5 = (bt366.1.length : Int) then ((petrinetlaw08_exampleHolds.f k).bind fun t371 => (some t371)) else (none)) else ((petrinetlaw08_exampleHolds.f k).bind fun t372 => (some t372))) else (none))) else (if x6 = 0 then (if x5 = (bt366.1.length : Int) then ((petrinetlaw08_exampleHolds.f k).bind fun t373 => (some t373)) else (none)) else ((petrinetlaw08_exampleHolds.f k).bind fun t374 => (some t374)))) else ((petrinetlaw08_exampleHolds.f k).bind fun t375 => (some t375))))
def petrinetlaw08_MatrixEchelons.f (k : Nat) (l0 : List (List Int)) : Option (Bool) := (matrix_Echelon.f k l0).bind fun bt355 => ((matrix_Rank.f k l0).bind fun bt359 => ((petrinetref08_Valid.f k l0).bind fun t361 => (if t361 = true then (if bt355.2 = 0 then (if bt359.2 = 0 then (petrinetlaw08_MatrixEchelons.j0 k l0 bt355.1 bt355.2 bt359.1 bt359.2 false) else (if bt359.2 = 3 then ((petrinetref08_Small.f k l0).bind fun t363 => (if t363 = true then (petrinetlaw08_MatrixEchelons.j0 k l0 bt355.1 bt355.2 bt359.1 bt359.2 true) else (petrinetlaw08_MatrixEchelons.j0 k l0 bt355.1 bt355.2 bt359.1 bt359.2 (bt359.1 != 0)))) else (petrinetlaw08_MatrixEchelons.j0 k l0 bt355.1 bt355.2 bt359.1 bt359.2 true))) else (if bt355.2 = 3 then ((petrinetref08_Small.f k l0).bind fun t364 => (if t364 = true then (petrinetlaw08_MatrixEchelons.j0 k l0 bt355.1 bt355.2 bt359.1 bt359.2 true) else (if (bt355.1.length : Int) > 0 then (petrinetlaw08_MatrixEchelons.j0 k l0 bt355.1 bt355.2 bt359.1 bt359.2 true) else (if bt359.2 = 0 then (petrinetlaw08_MatrixEchelons.j0 k l0 bt355.1 bt355.2 bt359.1 bt359.2 false) else (if bt359.2 = 3 then ((petrinetref08_Small.f k l0).bind fun t365 => (if t365 = true then (petrinetlaw08_MatrixEchelons.j0 k l0 bt355.1 bt355.2 bt359.1 bt359.2 true) else (petrinetlaw08_MatrixEchelons.j0 k l0 bt355.1 bt355.2 bt359.1 bt359.2 (bt359.1 != 0)))) else (petrinetlaw08_MatrixEchelons.j0 k l0 bt355.1 bt355.2 bt359.1 bt359.2 true)))))) else (petrinetlaw08_MatrixEchelons.j0 k l0 bt355.1 bt355.2 bt359.1 bt359.2 true))) else (if bt355.2 = 2 then (if bt359.2 = 2 then (if (bt355.1.length : Int) = 0 then (if bt359.1 = 0 then ((petrinetlaw08_exampleHolds.f k).bind fun t362 => (some t362)) else (none)) else (none)) else (none)) else (none)))))
theorem petrinetlaw08_MatrixEchelons.mono_l : ∀ k, (∀ y0 y1 y2 y3 y4 y5, LeO (petrinetlaw08_MatrixEchelons.j0 k y0 y1 y2 y3 y4 y5) (petrinetlaw08_MatrixEchelons.j0 (k + 1) y0 y1 y2 y3 y4 y5))
 | 0 => fun _ _ _ _ _ _ r h => by simp [petrinetlaw08_MatrixEchelons.j0] at h
 | k + 1 => by
  have ih0 := petrinetlaw08_MatrixEchelons.mono_l k
  ·
   intro y0 y1 y2 y3 y4 y5
   unfold petrinetlaw08_MatrixEchelons.j0
   repeat' first
   | (with_reducible exact ih0 _ _ _ _ _ _)
   | (with_reducible exact matrix_Echelon.mono _ _)
   | (with_reducible exact matrix_Rank.mono _ _)
   | (with_reducible exact petrinetlaw08_exampleHolds.mono _)
   | (with_reducible exact petrinetref08_Echelon.mono _ _)
   | (with_reducible exact petrinetref08_Same.mono _ _ _)
   | (with_reducible exact petrinetref08_Small.mono _ _)
   | (with_reducible exact petrinetref08_Valid.mono _ _)
   | (with_reducible exact LeO.refl _)
   | (with_reducible exact LeO.none _)
   | (with_reducible refine LeO.ite ?_ ?_)
   | (with_reducible refine LeO.bind ?_ (fun _ => ?_))
   | exact ih0 _ _ _ _ _ _
   | exact matrix_Echelon.mono _ _
   | exact matrix_Rank.mono _ _
   | exact petrinetlaw08_exampleHolds.mono _
   | exact petrinetref08_Echelon.mono _ _
   | exact petrinetref08_Same.mono _ _ _
   | exact petrinetref08_Small.mono _ _
   | exact petrinetref08_Valid.mono _ _
   | exact LeO.none _
   | refine LeO.ite ?_ ?_
   | refine LeO.bind ?_ (fun _ => ?_)
theorem petrinetlaw08_MatrixEchelons.mono : ∀ a0 k, LeO (petrinetlaw08_MatrixEchelons.f k a0) (petrinetlaw08_MatrixEchelons.f (k + 1) a0) := by
 intro a0 k
 have ih0 := petrinetlaw08_MatrixEchelons.mono_l k
 unfold petrinetlaw08_MatrixEchelons.f
 repeat' first
   | (with_reducible exact ih0 _ _ _ _ _ _)
   | (with_reducible exact matrix_Echelon.mono _ _)
   | (with_reducible exact matrix_Rank.mono _ _)
   | (with_reducible exact petrinetlaw08_exampleHolds.mono _)
   | (with_reducible exact petrinetref08_Echelon.mono _ _)
   | (with_reducible exact petrinetref08_Same.mono _ _ _)
   | (with_reducible exact petrinetref08_Small.mono _ _)
   | (with_reducible exact petrinetref08_Valid.mono _ _)
   | (with_reducible exact LeO.refl _)
   | (with_reducible exact LeO.none _)
   | (with_reducible refine LeO.ite ?_ ?_)
   | (with_reducible refine LeO.bind ?_ (fun _ => ?_))
   | exact ih0 _ _ _ _ _ _
   | exact matrix_Echelon.mono _ _
   | exact matrix_Rank.mono _ _
   | exact petrinetlaw08_exampleHolds.mono _
   | exact petrinetref08_Echelon.mono _ _
   | exact petrinetref08_Same.mono _ _ _
   | exact petrinetref08_Small.mono _ _
   | exact petrinetref08_Valid.mono _ _
   | exact LeO.none _
   | refine LeO.ite ?_ ?_
   | refine LeO.bind ?_ (fun _ => ?_)
set_option maxHeartbeats 8000000 in
set_option maxRecDepth 100000 in
theorem petrinetlaw08_MatrixEchelons.calls (k : Nat) (A0 : Option Addr) (c0 : Nat) (l0 : List (List Int)) (r : Bool) (w : World) (hr0 : Kd.C (Kd.slice 2 (Kd.int .i64)) w A0 l0.length l0) (hc0 : l0.length ≤ c0) (h : petrinetlaw08_MatrixEchelons.f k l0 = some r) :
  Calls Try.prog 4 #[.slice A0 l0.length c0] w fun e w' => e = .returned (.bool r) ∧ Below w.heap.size w w' := by
 have HR0 := Aside0.mk hr0
 have HC0 := Aside0.mk hc0
 clear hr0 hc0
 have HB := Aside0.mk (Below.refl w.heap.size w)
 have H : ((matrix_Echelon.f k l0).bind fun bt355 => ((matrix_Rank.f k l0).bind fun bt359 => ((petrinetref08_Valid.f k l0).bind fun t361 => (if t361 = true then (if bt355.2 = 0 then (if bt359.2 = 0 then (petrinetlaw08_MatrixEchelons.j0 k l0 bt355.1 bt355.2 bt359.1 bt359.2 false) else (if bt359.2 = 3 then ((petrinetref08_Small.f k l0).bind fun t363 => (if t363 = true then (petrinetlaw08_MatrixEchelons.j0 k l0 bt355.1 bt355.2 bt359.1 bt359.2 true) else (petrinetlaw08_MatrixEchelons.j0 k l0 bt355.1 bt355.2 bt359.1 bt359.2 (bt359.1 != 0)))) else (petrinetlaw08_MatrixEchelons.j0 k l0 bt355.1 bt355.2 bt359.1 bt359.2 true))) else (if bt355.2 = 3 then ((petrinetref08_Small.f k l0).bind fun t364 => (if t364 = true then (petrinetlaw08_MatrixEchelons.j0 k l0 bt355.1 bt355.2 bt359.1 bt359.2 true) else (if (bt355.1.length : Int) > 0 then (petrinetlaw08_MatrixEchelons.j0 k l0 bt355.1 bt355.2 bt359.1 bt359.2 true) else (if bt359.2 = 0 then (petrinetlaw08_MatrixEchelons.j0 k l0 bt355.1 bt355.2 bt359.1 bt359.2 false) else (if bt359.2 = 3 then ((petrinetref08_Small.f k l0).bind fun t365 => (if t365 = true then (petrinetlaw08_MatrixEchelons.j0 k l0 bt355.1 bt355.2 bt359.1 bt359.2 true) else (petrinetlaw08_MatrixEchelons.j0 k l0 bt355.1 bt355.2 bt359.1 bt359.2 (bt359.1 != 0)))) else (petrinetlaw08_MatrixEchelons.j0 k l0 bt355.1 bt355.2 bt359.1 bt359.2 true)))))) else (petrinetlaw08_MatrixEchelons.j0 k l0 bt355.1 bt355.2 bt359.1 bt359.2 true))) else (if bt355.2 = 2 then (if bt359.2 = 2 then (if (bt355.1.length : Int) = 0 then (if bt359.1 = 0 then ((petrinetlaw08_exampleHolds.f k).bind fun t362 => (some t362)) else (none)) else (none)) else (none)) else (none)))))) = some r := h
 clear h
 replace H := Option.bind_eq_some_iff.mp H
 obtain ⟨⟨t355, t358⟩, A20, H⟩ := H
 replace H : ((matrix_Rank.f k l0).bind fun bt359 => ((petrinetref08_Valid.f k l0).bind fun t361 => (if t361 = true then (if t358 = 0 then (if bt359.2 = 0 then (petrinetlaw08_MatrixEchelons.j0 k l0 t355 t358 bt359.1 bt359.2 false) else (if bt359.2 = 3 then ((petrinetref08_Small.f k l0).bind fun t363 => (if t363 = true then (petrinetlaw08_MatrixEchelons.j0 k l0 t355 t358 bt359.1 bt359.2 true) else (petrinetlaw08_MatrixEchelons.j0 k l0 t355 t358 bt359.1 bt359.2 (bt359.1 != 0)))) else (petrinetlaw08_MatrixEchelons.j0 k l0 t355 t358 bt359.1 bt359.2 true))) else (if t358 = 3 then ((petrinetref08_Small.f k l0).bind fun t364 => (if t364 = true then (petrinetlaw08_MatrixEchelons.j0 k l0 t355 t358 bt359.1 bt359.2 true) else (if (t355.length : Int) > 0 then (petrinetlaw08_MatrixEchelons.j0 k l0 t355 t358 bt359.1 bt359.2 true) else (if bt359.2 = 0 then (petrinetlaw08_MatrixEchelons.j0 k l0 t355 t358 bt359.1 bt359.2 false) else (if bt359.2 = 3 then ((petrinetref08_Small.f k l0).bind fun t365 => (if t365 = true then (petrinetlaw08_MatrixEchelons.j0 k l0 t355 t358 bt359.1 bt359.2 true) else (petrinetlaw08_MatrixEchelons.j0 k l0 t355 t358 bt359.1 bt359.2 (bt359.1 != 0)))) else (petrinetlaw08_MatrixEchelons.j0 k l0 t355 t358 bt359.1 bt359.2 true)))))) else (petrinetlaw08_MatrixEchelons.j0 k l0 t355 t358 bt359.1 bt359.2 true))) else (if t358 = 2 then (if bt359.2 = 2 then (if (t355.length : Int) = 0 then (if bt359.1 = 0 then ((petrinetlaw08_exampleHolds.f k).bind fun t362 => (some t362)) else (none)) else (none)) else (none)) else (none))))) = some r := H
 have A2 := Aside0.mk A20
 clear A20
 replace H := Option.bind_eq_some_iff.mp H
 obtain ⟨⟨t359, t360⟩, A30, H⟩ := H
 replace H : ((petrinetref08_Valid.f k l0).bind fun t361 => (if t361 = true then (if t358 = 0 then (if t360 = 0 then (petrinetlaw08_MatrixEchelons.j0 k l0 t355 t358 t359 t360 false) else (if t360 = 3 then ((petrinetref08_Small.f k l0).bind fun t363 => (if t363 = true then (petrinetlaw08_MatrixEchelons.j0 k l0 t355 t358 t359 t360 true) else (petrinetlaw08_MatrixEchelons.j0 k l0 t355 t358 t359 t360 (t359 != 0)))) else (petrinetlaw08_MatrixEchelons.j0 k l0 t355 t358 t359 t360 true))) else (if t358 = 3 then ((petrinetref08_Small.f k l0).bind fun t364 => (if t364 = true then (petrinetlaw08_MatrixEchelons.j0 k l0 t355 t358 t359 t360 true) else (if (t355.length : Int) > 0 then (petrinetlaw08_MatrixEchelons.j0 k l0 t355 t358 t359 t360 true) else (if t360 = 0 then (petrinetlaw08_MatrixEchelons.j0 k l0 t355 t358 t359 t360 false) else (if t360 = 3 then ((petrinetref08_Small.f k l0).bind fun t365 => (if t365 = true then (petrinetlaw08_MatrixEchelons.j0 k l0 t355 t358 t359 t360 true) else (petrinetlaw08_MatrixEchelons.j0 k l0 t355 t358 t359 t360 (t359 != 0)))) else (petrinetlaw08_MatrixEchelons.j0 k l0 t355 t358 t359 t360 true)))))) else (petrinetlaw08_MatrixEchelons.j0 k l0 t355 t358 t359 t360 true))) else (if t358 = 2 then (if t360 = 2 then (if (t355.length : Int) = 0 then (if t359 = 0 then ((petrinetlaw08_exampleHolds.f k).bind fun t362 => (some t362)) else (none)) else (none)) else (none)) else (none)))) = some r := H
 have A3 := Aside0.mk A30
 clear A30
 replace H := Option.bind_eq_some_iff.mp H
 obtain ⟨t361, A40, H⟩ := H
 replace H : (if t361 = true then (if t358 = 0 then (if t360 = 0 then (petrinetlaw08_MatrixEchelons.j0 k l0 t355 t358 t359 t360 false) else (if t360 = 3 then ((petrinetref08_Small.f k l0).bind fun t363 => (if t363 = true then (petrinetlaw08_MatrixEchelons.j0 k l0 t355 t358 t359 t360 true) else (petrinetlaw08_MatrixEchelons.j0 k l0 t355 t358 t359 t360 (t359 != 0)))) else (petrinetlaw08_MatrixEchelons.j0 k l0 t355 t358 t359 t360 true))) else (if t358 = 3 then ((petrinetref08_Small.f k l0).bind fun t364 => (if t364 = true then (petrinetlaw08_MatrixEchelons.j0 k l0 t355 t358 t359 t360 true) else (if (t355.length : Int) > 0 then (petrinetlaw08_MatrixEchelons.j0 k l0 t355 t358 t359 t360 true) else (if t360 = 0 then (petrinetlaw08_MatrixEchelons.j0 k l0 t355 t358 t359 t360 false) else (if t360 = 3 then ((petrinetref08_Small.f k l0).bind fun t365 => (if t365 = true then (petrinetlaw08_MatrixEchelons.j0 k l0 t355 t358 t359 t360 true) else (petrinetlaw08_MatrixEchelons.j0 k l0 t355 t358 t359 t360 (t359 != 0)))) else (petrinetlaw08_MatrixEchelons.j0 k l0 t355 t358 t359 t360 true)))))) else (petrinetlaw08_MatrixEchelons.j0 k l0 t355 t358 t359 t360 true))) else (if t358 = 2 then (if t360 = 2 then (if (t355.length : Int) = 0 then (if t359 = 0 then ((petrinetlaw08_exampleHolds.f k).bind fun t362 => (some t362)) else (none)) else (none)) else (none)) else (none))) = some r := H
 have A4 := Aside0.mk A40
 clear A40
 by_cases c5 : t361 = true
 ·
  subst c5
  have H1 : (if t358 = 0 then (if t360 = 0 then (petrinetlaw08_MatrixEchelons.j0 k l0 t355 t358 t359 t360 false) else (if t360 = 3 then ((petrinetref08_Small.f k l0).bind fun t363 => (if t363 = true then (petrinetlaw08_MatrixEchelons.j0 k l0 t355 t358 t359 t360 true) else (petrinetlaw08_MatrixEchelons.j0 k l0 t355 t358 t359 t360 (t359 != 0)))) else (petrinetlaw08_MatrixEchelons.j0 k l0 t355 t358 t359 t360 true))) else (if t358 = 3 then ((petrinetref08_Small.f k l0).bind fun t364 => (if t364 = true then (petrinetlaw08_MatrixEchelons.j0 k l0 t355 t358 t359 t360 true) else (if (t355.length : Int) > 0 then (petrinetlaw08_MatrixEchelons.j0 k l0 t355 t358 t359 t360 true) else (if t360 = 0 then (petrinetlaw08_MatrixEchelons.j0 k l0 t355 t358 t359 t360 false) else (if t360 = 3 then ((petrinetref08_Small.f k l0).bind fun t365 => (if t365 = true then (petrinetlaw08_MatrixEchelons.j0 k l0 t355 t358 t359 t360 true) else (petrinetlaw08_MatrixEchelons.j0 k l0 t355 t358 t359 t360 (t359 != 0)))) else (petrinetlaw08_MatrixEchelons.j0 k l0 t355 t358 t359 t360 true)))))) else (petrinetlaw08_MatrixEchelons.j0 k l0 t355 t358 t359 t360 true))) = some r := by rw [if_pos rfl] at H; exact H
  clear H
  have H := H1
  clear H1
  have HC6 := Aside0.mk H
  clear H
  go_enter Try.func4, Try.ntmps4
  go_upto_region 5 with (first | ((with_reducible refine gate_callee (f := 15) rfl ?_); refine goesL_ (some 11) rfl rfl Try.func15 (by kernel_rfl) rfl #[.slice A0 l0.length c0] rfl (by (try simp only [List.map_toArray, List.map_cons, List.map_nil]); first | done | rfl | (simp only [List.length_drop, List.length_take]; rfl)) ?_; (with_reducible refine (matrix_Echelon.calls k _ _ l0 t355 t358 _ ?side1 ?side2 A2.out).mono ?_); (case side1 => repeat (first | exact HR0.out | (with_reducible refine Kd.C_alloc ?_ _) | (with_reducible refine Kd.C_drewN ?_ _) | (with_reducible refine Kd.C_drew ?_))); (case side2 => exact HC0.out); rintro e w7 ⟨v356, rfl, ho0, hb⟩; refine ⟨_, rfl, ?_⟩; have n0_ := Aside0.mk (Kd.N_lower (Kd.N_mono (ok' := fun k_ => True) ho0 (fun k_ hk_ => trivial)) (below_size (by repeat (first | (with_reducible first | exact HB.out | apply below_alloc | apply pw_below_drewN | apply below_drew1) | exact HB.out)))); have n1_ := Aside0.mk (below_step (by repeat (first | (with_reducible first | exact HB.out | apply below_alloc | apply pw_below_drewN | apply below_drew1) | exact HB.out)) hb); clear HB; have HO357 := n0_; have HB := n1_; clear n0_ n1_; (try clear hb); (try clear hb2); (try clear hk); (try clear hi); (try clear ho0)) | ((with_reducible refine gate_callee (f := 16) rfl ?_); refine goesL_ (some 16) rfl rfl Try.func16 (by kernel_rfl) rfl #[.slice A0 l0.length c0] rfl (by (try simp only [List.map_toArray, List.map_cons, List.map_nil]); first | done | rfl | (simp only [List.length_drop, List.length_take]; rfl)) ?_; (with_reducible refine (matrix_Rank.calls k _ _ l0 t359 t360 _ ?side1 ?side2 A3.out).mono ?_); (case side1 => repeat (first | exact (Kd.C_below HR0.out HB.out) | (with_reducible refine Kd.C_alloc ?_ _) | (with_reducible refine Kd.C_drewN ?_ _) | (with_reducible refine Kd.C_drew ?_))); (case side2 => exact HC0.out); rintro e w8 ⟨rfl, hb⟩; refine ⟨_, rfl, ?_⟩; have n0_ := Aside0.mk (Kd.N_below (by (with_reducible repeat (first | apply Kd.N_alloc | apply Kd.N_drewN | apply Kd.N_drew)); exact HO357.out) hb); have n1_ := Aside0.mk (below_step (by repeat (first | (with_reducible first | exact HB.out | apply below_alloc | apply pw_below_drewN | apply below_drew1) | exact HB.out)) hb); clear HO357; clear HB; have HO357 := n0_; have HB := n1_; clear n0_ n1_; (try clear hb); (try clear hb2); (try clear hk); (try clear hi)) | ((with_reducible refine gate_callee (f := 10) rfl ?_); refine goesL_ (some 20) rfl rfl Try.func10 (by kernel_rfl) rfl #[.slice A0 l0.length c0] rfl (by (try simp only [List.map_toArray, List.map_cons, List.map_nil]); first | done | rfl | (simp only [List.length_drop, List.length_take]; rfl)) ?_; (with_reducible refine (petrinetref08_Valid.calls k _ _ l0 true _ ?side1 ?side2 A4.out).mono ?_); (case side1 => repeat (first | exact (Kd.C_below HR0.out HB.out) | (with_reducible refine Kd.C_alloc ?_ _) | (with_reducible refine Kd.C_drewN ?_ _) | (with_reducible refine Kd.C_drew ?_))); (case side2 => exact HC0.out); rintro e w' ⟨rfl, ⟨nd, rfl⟩⟩; refine ⟨_, rfl, ?_⟩))
  (try simp only [Act.put, List.setIfInBounds_toArray, List.set_cons_zero, List.set_cons_succ])
  go_cut [70] (fun v70 wc => ∃ (kq : Nat) (x70_5 : Bool), v70 = .bool x70_5 ∧ Aside0 (petrinetlaw08_MatrixEchelons.j0 kq l0 t355 t358 t359 t360 x70_5 = some r) ∧ Aside0 (kq ≤ k) ∧ Aside0 (Kd.N (Kd.slice 2 (Kd.int .i64)) 33 wc w.heap.size (fun _ => True) v356 t355) ∧ Aside0 (Below w.heap.size w wc))
  case first =>
   have H := HC6.out
   clear HC6
   by_cases c9 : t358 = 0
   ·
    rw [if_pos c9] at H
    have c9b0 : (t358 == 0) = true := beq_iff_eq.mpr c9
    have c9b1 : (t358 != 0) = false := bne_eq_false_iff_eq.mpr c9
    clear c9
    (first | rw [c9b0] | (simp only [i64_w, i32_w]; rw [c9b0]) | skip)
    by_cases c10 : t360 = 0
    ·
     rw [if_pos c10] at H
     have c10b0 : (t360 == 0) = true := beq_iff_eq.mpr c10
     have c10b1 : (t360 != 0) = false := bne_eq_false_iff_eq.mpr c10
     clear c10
     have H' := Aside0.mk H
     clear H
     go_wp2
     go_meet
     case rel => exact ⟨_, (false), (by first | rfl | (simp; done) | (simp [*]; done)), H', ⟨by first | omega | exact Nat.le_refl _⟩, ⟨by (with_reducible repeat (first | apply Kd.N_alloc | apply Kd.N_drewN | apply Kd.N_drew)); exact HO357.out⟩, ⟨by repeat (first | (with_reducible first | exact HB.out | apply below_alloc | apply pw_below_drewN | apply below_drew1) | exact HB.out)⟩⟩
    ·
     rw [if_neg c10] at H
     have c10b0 : (t360 == 0) = false := beq_eq_false_iff_ne.mpr c10
     have c10b1 : (t360 != 0) = true := bne_iff_ne.mpr c10
     by_cases c11 : t360 = 3
     ·
      rw [if_pos c11] at H
      have c11b0 : (t360 == 3) = true := beq_iff_eq.mpr c11
      have c11b1 : (t360 != 3) = false := bne_eq_false_iff_eq.mpr c11
      clear c11
      replace H := Option.bind_eq_some_iff.mp H
      obtain ⟨t363, A120, H⟩ := H
      replace H : (if t363 = true then (petrinetlaw08_MatrixEchelons.j0 k l0 t355 t358 t359 t360 true) else (petrinetlaw08_MatrixEchelons.j0 k l0 t355 t358 t359 t360 (t359 != 0))) = some r := H
      have A12 := Aside0.mk A120
      clear A120
      by_cases c13 : t363 = true
      ·
       subst c13
       have H1 : (petrinetlaw08_MatrixEchelons.j0 k l0 t355 t358 t359 t360 true) = some r := by rw [if_pos rfl] at H; exact H
       clear H
       have H := H1
       clear H1
       have H' := Aside0.mk H
       clear H
       go_wp2_with (first | (go_at_call 12; (with_reducible refine (petrinetref08_Small.calls k _ _ l0 true _ ?side1 ?side2 A12.out).mono ?_); (case side1 => repeat (first | exact (Kd.C_below HR0.out HB.out) | (with_reducible refine Kd.C_alloc ?_ _) | (with_reducible refine Kd.C_drewN ?_ _) | (with_reducible refine Kd.C_drew ?_))); (case side2 => exact HC0.out); rintro e w' ⟨rfl, ⟨nd, rfl⟩⟩))
       go_meet
       case rel => exact ⟨_, (true), (by first | rfl | (simp; done) | (simp [*]; done)), H', ⟨by first | omega | exact Nat.le_refl _⟩, ⟨by (with_reducible repeat (first | apply Kd.N_alloc | apply Kd.N_drewN | apply Kd.N_drew)); exact HO357.out⟩, ⟨by repeat (first | (with_reducible first | exact HB.out | apply below_alloc | apply pw_below_drewN | apply below_drew1) | exact HB.out)⟩⟩
      ·
       replace c13 := Bool.eq_false_iff.mpr c13
       subst c13
       have H1 : (petrinetlaw08_MatrixEchelons.j0 k l0 t355 t358 t359 t360 (t359 != 0)) = some r := by rw [if_neg (show ¬ (false = true) by decide)] at H; exact H
       clear H
       have H := H1
       clear H1
       have H' := Aside0.mk H
       clear H
       go_wp2_with (first | (go_at_call 12; (with_reducible refine (petrinetref08_Small.calls k _ _ l0 false _ ?side1 ?side2 A12.out).mono ?_); (case side1 => repeat (first | exact (Kd.C_below HR0.out HB.out) | (with_reducible refine Kd.C_alloc ?_ _) | (with_reducible refine Kd.C_drewN ?_ _) | (with_reducible refine Kd.C_drew ?_))); (case side2 => exact HC0.out); rintro e w' ⟨rfl, ⟨nd, rfl⟩⟩))
       go_meet
       case rel => exact ⟨_, ((t359 != 0)), (by first | rfl | (simp; done) | (simp [*]; done)), H', ⟨by first | omega | exact Nat.le_refl _⟩, ⟨by (with_reducible repeat (first | apply Kd.N_alloc | apply Kd.N_drewN | apply Kd.N_drew)); exact HO357.out⟩, ⟨by repeat (first | (with_reducible first | exact HB.out | apply below_alloc | apply pw_below_drewN | apply below_drew1) | exact HB.out)⟩⟩
     ·
      rw [if_neg c11] at H
      have c11b0 : (t360 == 3) = false := beq_eq_false_iff_ne.mpr c11
      have c11b1 : (t360 != 3) = true := bne_iff_ne.mpr c11
      have H' := Aside0.mk H
      clear H
      go_wp2
      go_meet
      case rel => exact ⟨_, (true), (by first | rfl | (simp; done) | (simp [*]; done)), H', ⟨by first | omega | exact Nat.le_refl _⟩, ⟨by (with_reducible repeat (first | apply Kd.N_alloc | apply Kd.N_drewN | apply Kd.N_drew)); exact HO357.out⟩, ⟨by repeat (first | (with_reducible first | exact HB.out | apply below_alloc | apply pw_below_drewN | apply below_drew1) | exact HB.out)⟩⟩
   ·
    rw [if_neg c9] at H
    have c9b0 : (t358 == 0) = false := beq_eq_false_iff_ne.mpr c9
    have c9b1 : (t358 != 0) = true := bne_iff_ne.mpr c9
    (first | rw [c9b0] | (simp only [i64_w, i32_w]; rw [c9b0]) | skip)
    by_cases c14 : t358 = 3
    ·
     rw [if_pos c14] at H
     have c14b0 : (t358 == 3) = true := beq_iff_eq.mpr c14
     have c14b1 : (t358 != 3) = false := bne_eq_false_iff_eq.mpr c14
     clear c14
     replace H := Option.bind_eq_some_iff.mp H
     obtain ⟨t364, A150, H⟩ := H
     replace H : (if t364 = true then (petrinetlaw08_MatrixEchelons.j0 k l0 t355 t358 t359 t360 true) else (if (t355.length : Int) > 0 then (petrinetlaw08_MatrixEchelons.j0 k l0 t355 t358 t359 t360 true) else (if t360 = 0 then (petrinetlaw08_MatrixEchelons.j0 k l0 t355 t358 t359 t360 false) else (if t360 = 3 then ((petrinetref08_Small.f k l0).bind fun t365 => (if t365 = true then (petrinetlaw08_MatrixEchelons.j0 k l0 t355 t358 t359 t360 true) else (petrinetlaw08_MatrixEchelons.j0 k l0 t355 t358 t359 t360 (t359 != 0)))) else (petrinetlaw08_MatrixEchelons.j0 k l0 t355 t358 t359 t360 true))))) = some r := H
     have A15 := Aside0.mk A150
     clear A150
     by_cases c16 : t364 = true
     ·
      subst c16
      have H1 : (petrinetlaw08_MatrixEchelons.j0 k l0 t355 t358 t359 t360 true) = some r := by rw [if_pos rfl] at H; exact H
      clear H
      have H := H1
      clear H1
      have H' := Aside0.mk H
      clear H
      go_wp2_with (first | (go_at_call 12; (with_reducible refine (petrinetref08_Small.calls k _ _ l0 true _ ?side1 ?side2 A15.out).mono ?_); (case side1 => repeat (first | exact (Kd.C_below HR0.out HB.out) | (with_reducible refine Kd.C_alloc ?_ _) | (with_reducible refine Kd.C_drewN ?_ _) | (with_reducible refine Kd.C_drew ?_))); (case side2 => exact HC0.out); rintro e w' ⟨rfl, ⟨nd, rfl⟩⟩))
      go_meet
      case rel => exact ⟨_, (true), (by first | rfl | (simp; done) | (simp [*]; done)), H', ⟨by first | omega | exact Nat.le_refl _⟩, ⟨by (with_reducible repeat (first | apply Kd.N_alloc | apply Kd.N_drewN | apply Kd.N_drew)); exact HO357.out⟩, ⟨by repeat (first | (with_reducible first | exact HB.out | apply below_alloc | apply pw_below_drewN | apply below_drew1) | exact HB.out)⟩⟩
     ·
      replace c16 := Bool.eq_false_iff.mpr c16
      subst c16
      have H1 : (if (t355.length : Int) > 0 then (petrinetlaw08_MatrixEchelons.j0 k l0 t355 t358 t359 t360 true) else (if t360 = 0 then (petrinetlaw08_MatrixEchelons.j0 k l0 t355 t358 t359 t360 false) else (if t360 = 3 then ((petrinetref08_Small.f k l0).bind fun t365 => (if t365 = true then (petrinetlaw08_MatrixEchelons.j0 k l0 t355 t358 t359 t360 true) else (petrinetlaw08_MatrixEchelons.j0 k l0 t355 t358 t359 t360 (t359 != 0)))) else (petrinetlaw08_MatrixEchelons.j0 k l0 t355 t358 t359 t360 true)))) = some r := by rw [if_neg (show ¬ (false = true) by decide)] at H; exact H
      clear H
      have H := H1
      clear H1
      by_cases c17 : (t355.length : Int) > 0
      ·
       rw [if_pos c17] at H
       have c17b0 : decide (0 < (t355.length : Int)) = true := decide_eq_true c17
       have c17b1 : decide (0 < t355.length) = true := decide_eq_true (by omega)
       clear c17
       have H' := Aside0.mk H
       clear H
       go_wp2_with (first | (go_at_call 12; (with_reducible refine (petrinetref08_Small.calls k _ _ l0 false _ ?side1 ?side2 A15.out).mono ?_); (case side1 => repeat (first | exact (Kd.C_below HR0.out HB.out) | (with_reducible refine Kd.C_alloc ?_ _) | (with_reducible refine Kd.C_drewN ?_ _) | (with_reducible refine Kd.C_drew ?_))); (case side2 => exact HC0.out); rintro e w' ⟨rfl, ⟨nd, rfl⟩⟩; obtain ⟨Ao18, co18, eo18⟩ := Kd.N_slice HO357.out; subst eo18))
       go_meet
       case rel => exact ⟨_, (true), (by first | rfl | (simp; done) | (simp [*]; done)), H', ⟨by first | omega | exact Nat.le_refl _⟩, ⟨by (with_reducible repeat (first | apply Kd.N_alloc | apply Kd.N_drewN | apply Kd.N_drew)); exact HO357.out⟩, ⟨by repeat (first | (with_reducible first | exact HB.out | apply below_alloc | apply pw_below_drewN | apply below_drew1) | exact HB.out)⟩⟩
      ·
       rw [if_neg c17] at H
       have c17b0 : decide (0 < (t355.length : Int)) = false := decide_eq_false c17
       have c17b1 : decide (0 < t355.length) = false := decide_eq_false (by omega)
       clear c17
       by_cases c19 : t360 = 0
       ·
        rw [if_pos c19] at H
        have c19b0 : (t360 == 0) = true := beq_iff_eq.mpr c19
        have c19b1 : (t360 != 0) = false := bne_eq_false_iff_eq.mpr c19
        clear c19
        have H' := Aside0.mk H
        clear H
        go_wp2_with (first | (go_at_call 12; (with_reducible refine (petrinetref08_Small.calls k _ _ l0 false _ ?side1 ?side2 A15.out).mono ?_); (case side1 => repeat (first | exact (Kd.C_below HR0.out HB.out) | (with_reducible refine Kd.C_alloc ?_ _) | (with_reducible refine Kd.C_drewN ?_ _) | (with_reducible refine Kd.C_drew ?_))); (case side2 => exact HC0.out); rintro e w' ⟨rfl, ⟨nd, rfl⟩⟩; obtain ⟨Ao20, co20, eo20⟩ := Kd.N_slice HO357.out; subst eo20))
        go_meet
        case rel => exact ⟨_, (false), (by first | rfl | (simp; done) | (simp [*]; done)), H', ⟨by first | omega | exact Nat.le_refl _⟩, ⟨by (with_reducible repeat (first | apply Kd.N_alloc | apply Kd.N_drewN | apply Kd.N_drew)); exact HO357.out⟩, ⟨by repeat (first | (with_reducible first | exact HB.out | apply below_alloc | apply pw_below_drewN | apply below_drew1) | exact HB.out)⟩⟩
       ·
        rw [if_neg c19] at H
        have c19b0 : (t360 == 0) = false := beq_eq_false_iff_ne.mpr c19
        have c19b1 : (t360 != 0) = true := bne_iff_ne.mpr c19
        by_cases c21 : t360 = 3
        ·
         rw [if_pos c21] at H
         have c21b0 : (t360 == 3) = true := beq_iff_eq.mpr c21
         have c21b1 : (t360 != 3) = false := bne_eq_false_iff_eq.mpr c21
         clear c21
         replace H := Option.bind_eq_some_iff.mp H
         obtain ⟨t365, A220, H⟩ := H
         replace H : (if t365 = true then (petrinetlaw08_MatrixEchelons.j0 k l0 t355 t358 t359 t360 true) else (petrinetlaw08_MatrixEchelons.j0 k l0 t355 t358 t359 t360 (t359 != 0))) = some r := H
         have A22 := Aside0.mk A220
         clear A220
         by_cases c23 : t365 = true
         ·
          subst c23
          have H1 : (petrinetlaw08_MatrixEchelons.j0 k l0 t355 t358 t359 t360 true) = some r := by rw [if_pos rfl] at H; exact H
          clear H
          have H := H1
          clear H1
          have H' := Aside0.mk H
          clear H
          go_wp2_with (first | (go_at_call 12; (with_reducible refine (petrinetref08_Small.calls k _ _ l0 false _ ?side1 ?side2 A15.out).mono ?_); (case side1 => repeat (first | exact (Kd.C_below HR0.out HB.out) | (with_reducible refine Kd.C_alloc ?_ _) | (with_reducible refine Kd.C_drewN ?_ _) | (with_reducible refine Kd.C_drew ?_))); (case side2 => exact HC0.out); rintro e w' ⟨rfl, ⟨nd, rfl⟩⟩; obtain ⟨Ao24, co24, eo24⟩ := Kd.N_slice HO357.out; subst eo24) | (go_at_call 12; (with_reducible refine (petrinetref08_Small.calls k _ _ l0 true _ ?side1 ?side2 A22.out).mono ?_); (case side1 => repeat (first | exact (Kd.C_below HR0.out (by repeat (first | (with_reducible first | exact HB.out | apply below_alloc | apply pw_below_drewN | apply below_drew1) | exact HB.out))) | (with_reducible refine Kd.C_alloc ?_ _) | (with_reducible refine Kd.C_drewN ?_ _) | (with_reducible refine Kd.C_drew ?_))); (case side2 => exact HC0.out); rintro e w' ⟨rfl, ⟨nd, rfl⟩⟩))
          go_meet
          case rel => exact ⟨_, (true), (by first | rfl | (simp; done) | (simp [*]; done)), H', ⟨by first | omega | exact Nat.le_refl _⟩, ⟨by (with_reducible repeat (first | apply Kd.N_alloc | apply Kd.N_drewN | apply Kd.N_drew)); exact HO357.out⟩, ⟨by repeat (first | (with_reducible first | exact HB.out | apply below_alloc | apply pw_below_drewN | apply below_drew1) | exact HB.out)⟩⟩
         ·
          replace c23 := Bool.eq_false_iff.mpr c23
          subst c23
          have H1 : (petrinetlaw08_MatrixEchelons.j0 k l0 t355 t358 t359 t360 (t359 != 0)) = some r := by rw [if_neg (show ¬ (false = true) by decide)] at H; exact H
          clear H
          have H := H1
          clear H1
          have H' := Aside0.mk H
          clear H
          go_wp2_with (first | (go_at_call 12; (with_reducible refine (petrinetref08_Small.calls k _ _ l0 false _ ?side1 ?side2 A15.out).mono ?_); (case side1 => repeat (first | exact (Kd.C_below HR0.out HB.out) | (with_reducible refine Kd.C_alloc ?_ _) | (with_reducible refine Kd.C_drewN ?_ _) | (with_reducible refine Kd.C_drew ?_))); (case side2 => exact HC0.out); rintro e w' ⟨rfl, ⟨nd, rfl⟩⟩; obtain ⟨Ao25, co25, eo25⟩ := Kd.N_slice HO357.out; subst eo25) | (go_at_call 12; (with_reducible refine (petrinetref08_Small.calls k _ _ l0 false _ ?side1 ?side2 A22.out).mono ?_); (case side1 => repeat (first | exact (Kd.C_below HR0.out (by repeat (first | (with_reducible first | exact HB.out | apply below_alloc | apply pw_below_drewN | apply below_drew1) | exact HB.out))) | (with_reducible refine Kd.C_alloc ?_ _) | (with_reducible refine Kd.C_drewN ?_ _) | (with_reducible refine Kd.C_drew ?_))); (case side2 => exact HC0.out); rintro e w' ⟨rfl, ⟨nd, rfl⟩⟩))
          go_meet
          case rel => exact ⟨_, ((t359 != 0)), (by first | rfl | (simp; done) | (simp [*]; done)), H', ⟨by first | omega | exact Nat.le_refl _⟩, ⟨by (with_reducible repeat (first | apply Kd.N_alloc | apply Kd.N_drewN | apply Kd.N_drew)); exact HO357.out⟩, ⟨by repeat (first | (with_reducible first | exact HB.out | apply below_alloc | apply pw_below_drewN | apply below_drew1) | exact HB.out)⟩⟩
        ·
         rw [if_neg c21] at H
         have c21b0 : (t360 == 3) = false := beq_eq_false_iff_ne.mpr c21
         have c21b1 : (t360 != 3) = true := bne_iff_ne.mpr c21
         have H' := Aside0.mk H
         clear H
         go_wp2_with (first | (go_at_call 12; (with_reducible refine (petrinetref08_Small.calls k _ _ l0 false _ ?side1 ?side2 A15.out).mono ?_); (case side1 => repeat (first | exact (Kd.C_below HR0.out HB.out) | (with_reducible refine Kd.C_alloc ?_ _) | (with_reducible refine Kd.C_drewN ?_ _) | (with_reducible refine Kd.C_drew ?_))); (case side2 => exact HC0.out); rintro e w' ⟨rfl, ⟨nd, rfl⟩⟩; obtain ⟨Ao26, co26, eo26⟩ := Kd.N_slice HO357.out; subst eo26))
         go_meet
         case rel => exact ⟨_, (true), (by first | rfl | (simp; done) | (simp [*]; done)), H', ⟨by first | omega | exact Nat.le_refl _⟩, ⟨by (with_reducible repeat (first | apply Kd.N_alloc | apply Kd.N_drewN | apply Kd.N_drew)); exact HO357.out⟩, ⟨by repeat (first | (with_reducible first | exact HB.out | apply below_alloc | apply pw_below_drewN | apply below_drew1) | exact HB.out)⟩⟩
    ·
     rw [if_neg c14] at H
     have c14b0 : (t358 == 3) = false := beq_eq_false_iff_ne.mpr c14
     have c14b1 : (t358 != 3) = true := bne_iff_ne.mpr c14
     have H' := Aside0.mk H
     clear H
     go_wp2
     go_meet
     case rel => exact ⟨_, (true), (by first | rfl | (simp; done) | (simp [*]; done)), H', ⟨by first | omega | exact Nat.le_refl _⟩, ⟨by (with_reducible repeat (first | apply Kd.N_alloc | apply Kd.N_drewN | apply Kd.N_drew)); exact HO357.out⟩, ⟨by repeat (first | (with_reducible first | exact HB.out | apply below_alloc | apply pw_below_drewN | apply below_drew1) | exact HB.out)⟩⟩
  case rest =>
   clear HC6
   try clear c1
   try clear c2
   try clear p2
   try clear c4
   try clear c5
   try clear c9
   try clear c9b0
   try clear c9b1
   try clear c10
   try clear c10b0
   try clear c10b1
   try clear c11
   try clear c11b0
   try clear c11b1
   try clear c13
   try clear c14
   try clear c14b0
   try clear c14b1
   try clear c15
   try clear c16
   try clear c17
   try clear c17b0
   try clear c17b1
   try clear c19
   try clear c19b0
   try clear c19b1
   try clear c21
   try clear c21b0
   try clear c21b1
   try clear c23
   obtain ⟨kq, x70_5, rfl, HA, HJ5, HO_3, HB⟩ := hcut
   cases kq with
   | zero => exact absurd HA.out (by simp [petrinetlaw08_MatrixEchelons.j0])
   | succ kj5 =>
    have H := HA.out
    clear HA
    simp only [petrinetlaw08_MatrixEchelons.j0] at H
    by_cases c27 : x70_5 = true
    ·
     subst c27
     have H1 : (none) = some r := by rw [if_pos rfl] at H; exact H
     clear H
     have H := H1
     clear H1
     exact absurd H (by simp)
    ·
     replace c27 := Bool.eq_false_iff.mpr c27
     subst c27
     have H1 : ((petrinetref08_Echelon.f kj5 l0).bind fun bt366 => (if bt366.2 = true then (if t358 = 0 then ((petrinetref08_Same.f kj5 t355 bt366.1).bind fun t370 => (if t370 = true then (if t360 = 0 then (if t359 = (bt366.1.length : Int) then ((petrinetlaw08_exampleHolds.f kj5).bind fun t371 => (some t371)) else (none)) else ((petrinetlaw08_exampleHolds.f kj5).bind fun t372 => (some t372))) else (none))) else (if t360 = 0 then (if t359 = (bt366.1.length : Int) then ((petrinetlaw08_exampleHolds.f kj5).bind fun t373 => (some t373)) else (none)) else ((petrinetlaw08_exampleHolds.f kj5).bind fun t374 => (some t374)))) else ((petrinetlaw08_exampleHolds.f kj5).bind fun t375 => (some t375)))) = some r := by rw [if_neg (show ¬ (false = true) by decide)] at H; exact H
     clear H
     have H := H1
     clear H1
     replace H := Option.bind_eq_some_iff.mp H
     obtain ⟨⟨t366, t369⟩, A280, H⟩ := H
     replace H : (if t369 = true then (if t358 = 0 then ((petrinetref08_Same.f kj5 t355 t366).bind fun t370 => (if t370 = true then (if t360 = 0 then (if t359 = (t366.length : Int) then ((petrinetlaw08_exampleHolds.f kj5).bind fun t371 => (some t371)) else (none)) else ((petrinetlaw08_exampleHolds.f kj5).bind fun t372 => (some t372))) else (none))) else (if t360 = 0 then (if t359 = (t366.length : Int) then ((petrinetlaw08_exampleHolds.f kj5).bind fun t373 => (some t373)) else (none)) else ((petrinetlaw08_exampleHolds.f kj5).bind fun t374 => (some t374)))) else ((petrinetlaw08_exampleHolds.f kj5).bind fun t375 => (some t375))) = some r := H
     have A28 := Aside0.mk A280
     clear A280
     by_cases c29 : t369 = true
     ·
      subst c29
      have H1 : (if t358 = 0 then ((petrinetref08_Same.f kj5 t355 t366).bind fun t370 => (if t370 = true then (if t360 = 0 then (if t359 = (t366.length : Int) then ((petrinetlaw08_exampleHolds.f kj5).bind fun t371 => (some t371)) else (none)) else ((petrinetlaw08_exampleHolds.f kj5).bind fun t372 => (some t372))) else (none))) else (if t360 = 0 then (if t359 = (t366.length : Int) then ((petrinetlaw08_exampleHolds.f kj5).bind fun t373 => (some t373)) else (none)) else ((petrinetlaw08_exampleHolds.f kj5).bind fun t374 => (some t374)))) = some r := by rw [if_pos rfl] at H; exact H
      clear H
      have H := H1
      clear H1
      by_cases c30 : t358 = 0
      ·
       rw [if_pos c30] at H
       have c30b0 : (t358 == 0) = true := beq_iff_eq.mpr c30
       have c30b1 : (t358 != 0) = false := bne_eq_false_iff_eq.mpr c30
       clear c30
       replace H := Option.bind_eq_some_iff.mp H
       obtain ⟨t370, A310, H⟩ := H
       replace H : (if t370 = true then (if t360 = 0 then (if t359 = (t366.length : Int) then ((petrinetlaw08_exampleHolds.f kj5).bind fun t371 => (some t371)) else (none)) else ((petrinetlaw08_exampleHolds.f kj5).bind fun t372 => (some t372))) else (none)) = some r := H
       have A31 := Aside0.mk A310
       clear A310
       by_cases c32 : t370 = true
       ·
        subst c32
        have H1 : (if t360 = 0 then (if t359 = (t366.length : Int) then ((petrinetlaw08_exampleHolds.f kj5).bind fun t371 => (some t371)) else (none)) else ((petrinetlaw08_exampleHolds.f kj5).bind fun t372 => (some t372))) = some r := by rw [if_pos rfl] at H; exact H
        clear H
        have H := H1
        clear H1
        by_cases c33 : t360 = 0
        ·
         rw [if_pos c33] at H
         have c33b0 : (t360 == 0) = true := beq_iff_eq.mpr c33
         have c33b1 : (t360 != 0) = false := bne_eq_false_iff_eq.mpr c33
         clear c33
         by_cases c34 : t359 = (t366.length : Int)
         ·
          rw [if_pos c34] at H
          have c34b0 : (t359 == (t366.length : Int)) = true := beq_iff_eq.mpr c34
          have c34b1 : (t359 != (t366.length : Int)) = false := bne_eq_false_iff_eq.mpr c34
          clear c34
          replace H := Option.bind_eq_some_iff.mp H
          obtain ⟨t371, A350, H⟩ := H
          replace H : (some t371) = some r := H
          have A35 := Aside0.mk A350
          clear A350
          obtain rfl := Option.some.inj H
          go_wp2_with (first | ((with_reducible refine gate_callee (f := 17) rfl ?_); refine goesL_ (some 73) rfl rfl Try.func17 (by kernel_rfl) rfl #[.slice A0 l0.length c0] rfl (by (try simp only [List.map_toArray, List.map_cons, List.map_nil]); first | done | rfl | (simp only [List.length_drop, List.length_take]; rfl)) ?_; (with_reducible refine (petrinetref08_Echelon.calls kj5 _ _ l0 t366 true _ ?side1 ?side2 A28.out).mono ?_); (case side1 => repeat (first | exact (Kd.C_below HR0.out HB.out) | (with_reducible refine Kd.C_alloc ?_ _) | (with_reducible refine Kd.C_drewN ?_ _) | (with_reducible refine Kd.C_drew ?_))); (case side2 => exact HC0.out); rintro e w36 ⟨v367, rfl, ho0, hb⟩; refine ⟨_, rfl, ?_⟩; have n0_ := Aside0.mk (Kd.N_elder' (by (with_reducible repeat (first | apply Kd.N_alloc | apply Kd.N_drewN | apply Kd.N_drew)); exact HO_3.out) (Kd.N_base ho0) hb); have n1_ := Aside0.mk (Kd.N_lower (Kd.N_mono (ok' := fun k_ => some k_ ≠ (v356 : Value).ownBlock) ho0 (fun k_ hk_ => (Kd.fresh' (Kd.N_lt (by (with_reducible repeat (first | apply Kd.N_alloc | apply Kd.N_drewN | apply Kd.N_drew)); exact HO_3.out)) k_ hk_))) (below_size (by repeat (first | (with_reducible first | exact HB.out | apply below_alloc | apply pw_below_drewN | apply below_drew1) | exact HB.out)))); have n2_ := Aside0.mk (below_step (by repeat (first | (with_reducible first | exact HB.out | apply below_alloc | apply pw_below_drewN | apply below_drew1) | exact HB.out)) hb); clear HO_3; clear HB; have HO_3 := n0_; have HO368 := n1_; have HB := n2_; clear n0_ n1_ n2_; (try clear hb); (try clear hb2); (try clear hk); (try clear hi); (try clear ho0); obtain ⟨Ao37, co37, eo37⟩ := Kd.N_slice HO_3.out; subst eo37; obtain ⟨Ao38, co38, eo38⟩ := Kd.N_slice HO368.out; subst eo38) | (go_at_call 14; (with_reducible refine (petrinetref08_Same.calls kj5 _ _ t355 _ _ t366 true _ ?side1 ?side2 ?side3 ?side4 A31.out).mono ?_); (case side1 => repeat (first | exact (Kd.N_reads' HO_3.out).2.2 | (with_reducible refine Kd.C_alloc ?_ _) | (with_reducible refine Kd.C_drewN ?_ _) | (with_reducible refine Kd.C_drew ?_))); (case side2 => exact (Kd.N_reads' HO_3.out).2.1); (case side3 => repeat (first | exact (Kd.N_reads' HO368.out).2.2 | (with_reducible refine Kd.C_alloc ?_ _) | (with_reducible refine Kd.C_drewN ?_ _) | (with_reducible refine Kd.C_drew ?_))); (case side4 => exact (Kd.N_reads' HO368.out).2.1); rintro e w' ⟨rfl, ⟨nd, rfl⟩⟩) | ((with_reducible refine gate_callee (f := 11) rfl ?_); refine goesL_ (some 97) rfl rfl Try.func11 (by kernel_rfl) rfl #[] rfl (by (try simp only [List.map_toArray, List.map_cons, List.map_nil]); first | done | rfl | (simp only [List.length_drop, List.length_take]; rfl)) ?_; (with_reducible refine (petrinetlaw08_exampleHolds.calls kj5  t371 _ A35.out).mono ?_); rintro e w39 ⟨rfl, hb⟩; refine ⟨_, rfl, ?_⟩; have n0_ := Aside0.mk (Kd.N_below (by (with_reducible repeat (first | apply Kd.N_alloc | apply Kd.N_drewN | apply Kd.N_drew)); exact HO_3.out) hb); have n1_ := Aside0.mk (Kd.N_below (by (with_reducible repeat (first | apply Kd.N_alloc | apply Kd.N_drewN | apply Kd.N_drew)); exact HO368.out) hb); have n2_ := Aside0.mk (below_step (by repeat (first | (with_reducible first | exact HB.out | apply below_alloc | apply pw_below_drewN | apply below_drew1) | exact HB.out)) hb); clear HO_3; clear HO368; clear HB; have HO_3 := n0_; have HO368 := n1_; have HB := n2_; clear n0_ n1_ n2_; (try clear hb); (try clear hb2); (try clear hk); (try clear hi)))
          go_ret
          exact ⟨by first | rfl | (simp [errW_none, errW_some] <;> rfl) | (simp [*, errW_none, errW_some] <;> rfl), by repeat (first | (with_reducible first | exact HB.out | apply below_alloc | apply pw_below_drewN | apply below_drew1) | exact HB.out)⟩
         ·
          rw [if_neg c34] at H
          exact absurd H (by simp)
        ·
         rw [if_neg c33] at H
         have c33b0 : (t360 == 0) = false := beq_eq_false_iff_ne.mpr c33
         have c33b1 : (t360 != 0) = true := bne_iff_ne.mpr c33
         replace H := Option.bind_eq_some_iff.mp H
         obtain ⟨t372, A400, H⟩ := H
         replace H : (some t372) = some r := H
         have A40 := Aside0.mk A400
         clear A400
         obtain rfl := Option.some.inj H
         go_wp2_with (first | ((with_reducible refine gate_callee (f := 17) rfl ?_); refine goesL_ (some 73) rfl rfl Try.func17 (by kernel_rfl) rfl #[.slice A0 l0.length c0] rfl (by (try simp only [List.map_toArray, List.map_cons, List.map_nil]); first | done | rfl | (simp only [List.length_drop, List.length_take]; rfl)) ?_; (with_reducible refine (petrinetref08_Echelon.calls kj5 _ _ l0 t366 true _ ?side1 ?side2 A28.out).mono ?_); (case side1 => repeat (first | exact (Kd.C_below HR0.out HB.out) | (with_reducible refine Kd.C_alloc ?_ _) | (with_reducible refine Kd.C_drewN ?_ _) | (with_reducible refine Kd.C_drew ?_))); (case side2 => exact HC0.out); rintro e w41 ⟨v367, rfl, ho0, hb⟩; refine ⟨_, rfl, ?_⟩; have n0_ := Aside0.mk (Kd.N_elder' (by (with_reducible repeat (first | apply Kd.N_alloc | apply Kd.N_drewN | apply Kd.N_drew)); exact HO_3.out) (Kd.N_base ho0) hb); have n1_ := Aside0.mk (Kd.N_lower (Kd.N_mono (ok' := fun k_ => some k_ ≠ (v356 : Value).ownBlock) ho0 (fun k_ hk_ => (Kd.fresh' (Kd.N_lt (by (with_reducible repeat (first | apply Kd.N_alloc | apply Kd.N_drewN | apply Kd.N_drew)); exact HO_3.out)) k_ hk_))) (below_size (by repeat (first | (with_reducible first | exact HB.out | apply below_alloc | apply pw_below_drewN | apply below_drew1) | exact HB.out)))); have n2_ := Aside0.mk (below_step (by repeat (first | (with_reducible first | exact HB.out | apply below_alloc | apply pw_below_drewN | apply below_drew1) | exact HB.out)) hb); clear HO_3; clear HB; have HO_3 := n0_; have HO368 := n1_; have HB := n2_; clear n0_ n1_ n2_; (try clear hb); (try clear hb2); (try clear hk); (try clear hi); (try clear ho0); obtain ⟨Ao42, co42, eo42⟩ := Kd.N_slice HO_3.out; subst eo42; obtain ⟨Ao43, co43, eo43⟩ := Kd.N_slice HO368.out; subst eo43) | (go_at_call 14; (with_reducible refine (petrinetref08_Same.calls kj5 _ _ t355 _ _ t366 true _ ?side1 ?side2 ?side3 ?side4 A31.out).mono ?_); (case side1 => repeat (first | exact (Kd.N_reads' HO_3.out).2.2 | (with_reducible refine Kd.C_alloc ?_ _) | (with_reducible refine Kd.C_drewN ?_ _) | (with_reducible refine Kd.C_drew ?_))); (case side2 => exact (Kd.N_reads' HO_3.out).2.1); (case side3 => repeat (first | exact (Kd.N_reads' HO368.out).2.2 | (with_reducible refine Kd.C_alloc ?_ _) | (with_reducible refine Kd.C_drewN ?_ _) | (with_reducible refine Kd.C_drew ?_))); (case side4 => exact (Kd.N_reads' HO368.out).2.1); rintro e w' ⟨rfl, ⟨nd, rfl⟩⟩) | ((with_reducible refine gate_callee (f := 11) rfl ?_); refine goesL_ (some 97) rfl rfl Try.func11 (by kernel_rfl) rfl #[] rfl (by (try simp only [List.map_toArray, List.map_cons, List.map_nil]); first | done | rfl | (simp only [List.length_drop, List.length_take]; rfl)) ?_; (with_reducible refine (petrinetlaw08_exampleHolds.calls kj5  t372 _ A40.out).mono ?_); rintro e w44 ⟨rfl, hb⟩; refine ⟨_, rfl, ?_⟩; have n0_ := Aside0.mk (Kd.N_below (by (with_reducible repeat (first | apply Kd.N_alloc | apply Kd.N_drewN | apply Kd.N_drew)); exact HO_3.out) hb); have n1_ := Aside0.mk (Kd.N_below (by (with_reducible repeat (first | apply Kd.N_alloc | apply Kd.N_drewN | apply Kd.N_drew)); exact HO368.out) hb); have n2_ := Aside0.mk (below_step (by repeat (first | (with_reducible first | exact HB.out | apply below_alloc | apply pw_below_drewN | apply below_drew1) | exact HB.out)) hb); clear HO_3; clear HO368; clear HB; have HO_3 := n0_; have HO368 := n1_; have HB := n2_; clear n0_ n1_ n2_; (try clear hb); (try clear hb2); (try clear hk); (try clear hi)))
         go_ret
         exact ⟨by first | rfl | (simp [errW_none, errW_some] <;> rfl) | (simp [*, errW_none, errW_some] <;> rfl), by repeat (first | (with_reducible first | exact HB.out | apply below_alloc | apply pw_below_drewN | apply below_drew1) | exact HB.out)⟩
       ·
        replace c32 := Bool.eq_false_iff.mpr c32
        subst c32
        have H1 : (none) = some r := by rw [if_neg (show ¬ (false = true) by decide)] at H; exact H
        clear H
        have H := H1
        clear H1
        exact absurd H (by simp)
      ·
       rw [if_neg c30] at H
       have c30b0 : (t358 == 0) = false := beq_eq_false_iff_ne.mpr c30
       have c30b1 : (t358 != 0) = true := bne_iff_ne.mpr c30
       by_cases c45 : t360 = 0
       ·
        rw [if_pos c45] at H
        have c45b0 : (t360 == 0) = true := beq_iff_eq.mpr c45
        have c45b1 : (t360 != 0) = false := bne_eq_false_iff_eq.mpr c45
        clear c45
        by_cases c46 : t359 = (t366.length : Int)
        ·
         rw [if_pos c46] at H
         have c46b0 : (t359 == (t366.length : Int)) = true := beq_iff_eq.mpr c46
         have c46b1 : (t359 != (t366.length : Int)) = false := bne_eq_false_iff_eq.mpr c46
         clear c46
         replace H := Option.bind_eq_some_iff.mp H
         obtain ⟨t373, A470, H⟩ := H
         replace H : (some t373) = some r := H
         have A47 := Aside0.mk A470
         clear A470
         obtain rfl := Option.some.inj H
         go_wp2_with (first | ((with_reducible refine gate_callee (f := 17) rfl ?_); refine goesL_ (some 73) rfl rfl Try.func17 (by kernel_rfl) rfl #[.slice A0 l0.length c0] rfl (by (try simp only [List.map_toArray, List.map_cons, List.map_nil]); first | done | rfl | (simp only [List.length_drop, List.length_take]; rfl)) ?_; (with_reducible refine (petrinetref08_Echelon.calls kj5 _ _ l0 t366 true _ ?side1 ?side2 A28.out).mono ?_); (case side1 => repeat (first | exact (Kd.C_below HR0.out HB.out) | (with_reducible refine Kd.C_alloc ?_ _) | (with_reducible refine Kd.C_drewN ?_ _) | (with_reducible refine Kd.C_drew ?_))); (case side2 => exact HC0.out); rintro e w48 ⟨v367, rfl, ho0, hb⟩; refine ⟨_, rfl, ?_⟩; have n0_ := Aside0.mk (Kd.N_elder' (by (with_reducible repeat (first | apply Kd.N_alloc | apply Kd.N_drewN | apply Kd.N_drew)); exact HO_3.out) (Kd.N_base ho0) hb); have n1_ := Aside0.mk (Kd.N_lower (Kd.N_mono (ok' := fun k_ => some k_ ≠ (v356 : Value).ownBlock) ho0 (fun k_ hk_ => (Kd.fresh' (Kd.N_lt (by (with_reducible repeat (first | apply Kd.N_alloc | apply Kd.N_drewN | apply Kd.N_drew)); exact HO_3.out)) k_ hk_))) (below_size (by repeat (first | (with_reducible first | exact HB.out | apply below_alloc | apply pw_below_drewN | apply below_drew1) | exact HB.out)))); have n2_ := Aside0.mk (below_step (by repeat (first | (with_reducible first | exact HB.out | apply below_alloc | apply pw_below_drewN | apply below_drew1) | exact HB.out)) hb); clear HO_3; clear HB; have HO_3 := n0_; have HO368 := n1_; have HB := n2_; clear n0_ n1_ n2_; (try clear hb); (try clear hb2); (try clear hk); (try clear hi); (try clear ho0); obtain ⟨Ao49, co49, eo49⟩ := Kd.N_slice HO368.out; subst eo49) | ((with_reducible refine gate_callee (f := 11) rfl ?_); refine goesL_ (some 97) rfl rfl Try.func11 (by kernel_rfl) rfl #[] rfl (by (try simp only [List.map_toArray, List.map_cons, List.map_nil]); first | done | rfl | (simp only [List.length_drop, List.length_take]; rfl)) ?_; (with_reducible refine (petrinetlaw08_exampleHolds.calls kj5  t373 _ A47.out).mono ?_); rintro e w50 ⟨rfl, hb⟩; refine ⟨_, rfl, ?_⟩; have n0_ := Aside0.mk (Kd.N_below (by (with_reducible repeat (first | apply Kd.N_alloc | apply Kd.N_drewN | apply Kd.N_drew)); exact HO_3.out) hb); have n1_ := Aside0.mk (Kd.N_below (by (with_reducible repeat (first | apply Kd.N_alloc | apply Kd.N_drewN | apply Kd.N_drew)); exact HO368.out) hb); have n2_ := Aside0.mk (below_step (by repeat (first | (with_reducible first | exact HB.out | apply below_alloc | apply pw_below_drewN | apply below_drew1) | exact HB.out)) hb); clear HO_3; clear HO368; clear HB; have HO_3 := n0_; have HO368 := n1_; have HB := n2_; clear n0_ n1_ n2_; (try clear hb); (try clear hb2); (try clear hk); (try clear hi)))
         go_ret
         exact ⟨by first | rfl | (simp [errW_none, errW_some] <;> rfl) | (simp [*, errW_none, errW_some] <;> rfl), by repeat (first | (with_reducible first | exact HB.out | apply below_alloc | apply pw_below_drewN | apply below_drew1) | exact HB.out)⟩
        ·
         rw [if_neg c46] at H
         exact absurd H (by simp)
       ·
        rw [if_neg c45] at H
        have c45b0 : (t360 == 0) = false := beq_eq_false_iff_ne.mpr c45
        have c45b1 : (t360 != 0) = true := bne_iff_ne.mpr c45
        replace H := Option.bind_eq_some_iff.mp H
        obtain ⟨t374, A510, H⟩ := H
        replace H : (some t374) = some r := H
        have A51 := Aside0.mk A510
        clear A510
        obtain rfl := Option.some.inj H
        go_wp2_with (first | ((with_reducible refine gate_callee (f := 17) rfl ?_); refine goesL_ (some 73) rfl rfl Try.func17 (by kernel_rfl) rfl #[.slice A0 l0.length c0] rfl (by (try simp only [List.map_toArray, List.map_cons, List.map_nil]); first | done | rfl | (simp only [List.length_drop, List.length_take]; rfl)) ?_; (with_reducible refine (petrinetref08_Echelon.calls kj5 _ _ l0 t366 true _ ?side1 ?side2 A28.out).mono ?_); (case side1 => repeat (first | exact (Kd.C_below HR0.out HB.out) | (with_reducible refine Kd.C_alloc ?_ _) | (with_reducible refine Kd.C_drewN ?_ _) | (with_reducible refine Kd.C_drew ?_))); (case side2 => exact HC0.out); rintro e w52 ⟨v367, rfl, ho0, hb⟩; refine ⟨_, rfl, ?_⟩; have n0_ := Aside0.mk (Kd.N_elder' (by (with_reducible repeat (first | apply Kd.N_alloc | apply Kd.N_drewN | apply Kd.N_drew)); exact HO_3.out) (Kd.N_base ho0) hb); have n1_ := Aside0.mk (Kd.N_lower (Kd.N_mono (ok' := fun k_ => some k_ ≠ (v356 : Value).ownBlock) ho0 (fun k_ hk_ => (Kd.fresh' (Kd.N_lt (by (with_reducible repeat (first | apply Kd.N_alloc | apply Kd.N_drewN | apply Kd.N_drew)); exact HO_3.out)) k_ hk_))) (below_size (by repeat (first | (with_reducible first | exact HB.out | apply below_alloc | apply pw_below_drewN | apply below_drew1) | exact HB.out)))); have n2_ := Aside0.mk (below_step (by repeat (first | (with_reducible first | exact HB.out | apply below_alloc | apply pw_below_drewN | apply below_drew1) | exact HB.out)) hb); clear HO_3; clear HB; have HO_3 := n0_; have HO368 := n1_; have HB := n2_; clear n0_ n1_ n2_; (try clear hb); (try clear hb2); (try clear hk); (try clear hi); (try clear ho0)) | ((with_reducible refine gate_callee (f := 11) rfl ?_); refine goesL_ (some 97) rfl rfl Try.func11 (by kernel_rfl) rfl #[] rfl (by (try simp only [List.map_toArray, List.map_cons, List.map_nil]); first | done | rfl | (simp only [List.length_drop, List.length_take]; rfl)) ?_; (with_reducible refine (petrinetlaw08_exampleHolds.calls kj5  t374 _ A51.out).mono ?_); rintro e w53 ⟨rfl, hb⟩; refine ⟨_, rfl, ?_⟩; have n0_ := Aside0.mk (Kd.N_below (by (with_reducible repeat (first | apply Kd.N_alloc | apply Kd.N_drewN | apply Kd.N_drew)); exact HO_3.out) hb); have n1_ := Aside0.mk (Kd.N_below (by (with_reducible repeat (first | apply Kd.N_alloc | apply Kd.N_drewN | apply Kd.N_drew)); exact HO368.out) hb); have n2_ := Aside0.mk (below_step (by repeat (first | (with_reducible first | exact HB.out | apply below_alloc | apply pw_below_drewN | apply below_drew1) | exact HB.out)) hb); clear HO_3; clear HO368; clear HB; have HO_3 := n0_; have HO368 := n1_; have HB := n2_; clear n0_ n1_ n2_; (try clear hb); (try clear hb2); (try clear hk); (try clear hi)))
        go_ret
        exact ⟨by first | rfl | (simp [errW_none, errW_some] <;> rfl) | (simp [*, errW_none, errW_some] <;> rfl), by repeat (first | (with_reducible first | exact HB.out | apply below_alloc | apply pw_below_drewN | apply below_drew1) | exact HB.out)⟩
     ·
      replace c29 := Bool.eq_false_iff.mpr c29
      subst c29
      have H1 : ((petrinetlaw08_exampleHolds.f kj5).bind fun t375 => (some t375)) = some r := by rw [if_neg (show ¬ (false = true) by decide)] at H; exact H
      clear H
      have H := H1
      clear H1
      replace H := Option.bind_eq_some_iff.mp H
      obtain ⟨t375, A540, H⟩ := H
      replace H : (some t375) = some r := H
      have A54 := Aside0.mk A540
      clear A540
      obtain rfl := Option.some.inj H
      go_wp2_with (first | ((with_reducible refine gate_callee (f := 17) rfl ?_); refine goesL_ (some 73) rfl rfl Try.func17 (by kernel_rfl) rfl #[.slice A0 l0.length c0] rfl (by (try simp only [List.map_toArray, List.map_cons, List.map_nil]); first | done | rfl | (simp only [List.length_drop, List.length_take]; rfl)) ?_; (with_reducible refine (petrinetref08_Echelon.calls kj5 _ _ l0 t366 false _ ?side1 ?side2 A28.out).mono ?_); (case side1 => repeat (first | exact (Kd.C_below HR0.out HB.out) | (with_reducible refine Kd.C_alloc ?_ _) | (with_reducible refine Kd.C_drewN ?_ _) | (with_reducible refine Kd.C_drew ?_))); (case side2 => exact HC0.out); rintro e w55 ⟨v367, rfl, ho0, hb⟩; refine ⟨_, rfl, ?_⟩; have n0_ := Aside0.mk (Kd.N_elder' (by (with_reducible repeat (first | apply Kd.N_alloc | apply Kd.N_drewN | apply Kd.N_drew)); exact HO_3.out) (Kd.N_base ho0) hb); have n1_ := Aside0.mk (Kd.N_lower (Kd.N_mono (ok' := fun k_ => some k_ ≠ (v356 : Value).ownBlock) ho0 (fun k_ hk_ => (Kd.fresh' (Kd.N_lt (by (with_reducible repeat (first | apply Kd.N_alloc | apply Kd.N_drewN | apply Kd.N_drew)); exact HO_3.out)) k_ hk_))) (below_size (by repeat (first | (with_reducible first | exact HB.out | apply below_alloc | apply pw_below_drewN | apply below_drew1) | exact HB.out)))); have n2_ := Aside0.mk (below_step (by repeat (first | (with_reducible first | exact HB.out | apply below_alloc | apply pw_below_drewN | apply below_drew1) | exact HB.out)) hb); clear HO_3; clear HB; have HO_3 := n0_; have HO368 := n1_; have HB := n2_; clear n0_ n1_ n2_; (try clear hb); (try clear hb2); (try clear hk); (try clear hi); (try clear ho0)) | ((with_reducible refine gate_callee (f := 11) rfl ?_); refine goesL_ (some 97) rfl rfl Try.func11 (by kernel_rfl) rfl #[] rfl (by (try simp only [List.map_toArray, List.map_cons, List.map_nil]); first | done | rfl | (simp only [List.length_drop, List.length_take]; rfl)) ?_; (with_reducible refine (petrinetlaw08_exampleHolds.calls kj5  t375 _ A54.out).mono ?_); rintro e w56 ⟨rfl, hb⟩; refine ⟨_, rfl, ?_⟩; have n0_ := Aside0.mk (Kd.N_below (by (with_reducible repeat (first | apply Kd.N_alloc | apply Kd.N_drewN | apply Kd.N_drew)); exact HO_3.out) hb); have n1_ := Aside0.mk (Kd.N_below (by (with_reducible repeat (first | apply Kd.N_alloc | apply Kd.N_drewN | apply Kd.N_drew)); exact HO368.out) hb); have n2_ := Aside0.mk (below_step (by repeat (first | (with_reducible first | exact HB.out | apply below_alloc | apply pw_below_drewN | apply below_drew1) | exact HB.out)) hb); clear HO_3; clear HO368; clear HB; have HO_3 := n0_; have HO368 := n1_; have HB := n2_; clear n0_ n1_ n2_; (try clear hb); (try clear hb2); (try clear hk); (try clear hi)))
      go_ret
      exact ⟨by first | rfl | (simp [errW_none, errW_some] <;> rfl) | (simp [*, errW_none, errW_some] <;> rfl), by repeat (first | (with_reducible first | exact HB.out | apply below_alloc | apply pw_below_drewN | apply below_drew1) | exact HB.out)⟩
 ·
  replace c5 := Bool.eq_false_iff.mpr c5
  subst c5
  have H1 : (if t358 = 2 then (if t360 = 2 then (if (t355.length : Int) = 0 then (if t359 = 0 then ((petrinetlaw08_exampleHolds.f k).bind fun t362 => (some t362)) else (none)) else (none)) else (none)) else (none)) = some r := by rw [if_neg (show ¬ (false = true) by decide)] at H; exact H
  clear H
  have H := H1
  clear H1
  by_cases c57 : t358 = 2
  ·
   rw [if_pos c57] at H
   have c57b0 : (t358 == 2) = true := beq_iff_eq.mpr c57
   have c57b1 : (t358 != 2) = false := bne_eq_false_iff_eq.mpr c57
   clear c57
   by_cases c58 : t360 = 2
   ·
    rw [if_pos c58] at H
    have c58b0 : (t360 == 2) = true := beq_iff_eq.mpr c58
    have c58b1 : (t360 != 2) = false := bne_eq_false_iff_eq.mpr c58
    clear c58
    by_cases c59 : (t355.length : Int) = 0
    ·
     rw [if_pos c59] at H
     have c59b0 : ((t355.length : Int) == 0) = true := beq_iff_eq.mpr c59
     have c59b1 : ((t355.length : Int) != 0) = false := bne_eq_false_iff_eq.mpr c59
     clear c59
     by_cases c60 : t359 = 0
     ·
      rw [if_pos c60] at H
      have c60b0 : (t359 == 0) = true := beq_iff_eq.mpr c60
      have c60b1 : (t359 != 0) = false := bne_eq_false_iff_eq.mpr c60
      clear c60
      replace H := Option.bind_eq_some_iff.mp H
      obtain ⟨t362, A610, H⟩ := H
      replace H : (some t362) = some r := H
      have A61 := Aside0.mk A610
      clear A610
      obtain rfl := Option.some.inj H
      go_enter Try.func4, Try.ntmps4
      go_wp2_with (first | ((with_reducible refine gate_callee (f := 15) rfl ?_); refine goesL_ (some 11) rfl rfl Try.func15 (by kernel_rfl) rfl #[.slice A0 l0.length c0] rfl (by (try simp only [List.map_toArray, List.map_cons, List.map_nil]); first | done | rfl | (simp only [List.length_drop, List.length_take]; rfl)) ?_; (with_reducible refine (matrix_Echelon.calls k _ _ l0 t355 t358 _ ?side1 ?side2 A2.out).mono ?_); (case side1 => repeat (first | exact HR0.out | (with_reducible refine Kd.C_alloc ?_ _) | (with_reducible refine Kd.C_drewN ?_ _) | (with_reducible refine Kd.C_drew ?_))); (case side2 => exact HC0.out); rintro e w62 ⟨v356, rfl, ho0, hb⟩; refine ⟨_, rfl, ?_⟩; have n0_ := Aside0.mk (Kd.N_lower (Kd.N_mono (ok' := fun k_ => True) ho0 (fun k_ hk_ => trivial)) (below_size (by repeat (first | (with_reducible first | exact HB.out | apply below_alloc | apply pw_below_drewN | apply below_drew1) | exact HB.out)))); have n1_ := Aside0.mk (below_step (by repeat (first | (with_reducible first | exact HB.out | apply below_alloc | apply pw_below_drewN | apply below_drew1) | exact HB.out)) hb); clear HB; have HO357 := n0_; have HB := n1_; clear n0_ n1_; (try clear hb); (try clear hb2); (try clear hk); (try clear hi); (try clear ho0)) | ((with_reducible refine gate_callee (f := 16) rfl ?_); refine goesL_ (some 16) rfl rfl Try.func16 (by kernel_rfl) rfl #[.slice A0 l0.length c0] rfl (by (try simp only [List.map_toArray, List.map_cons, List.map_nil]); first | done | rfl | (simp only [List.length_drop, List.length_take]; rfl)) ?_; (with_reducible refine (matrix_Rank.calls k _ _ l0 t359 t360 _ ?side1 ?side2 A3.out).mono ?_); (case side1 => repeat (first | exact (Kd.C_below HR0.out HB.out) | (with_reducible refine Kd.C_alloc ?_ _) | (with_reducible refine Kd.C_drewN ?_ _) | (with_reducible refine Kd.C_drew ?_))); (case side2 => exact HC0.out); rintro e w63 ⟨rfl, hb⟩; refine ⟨_, rfl, ?_⟩; have n0_ := Aside0.mk (Kd.N_below (by (with_reducible repeat (first | apply Kd.N_alloc | apply Kd.N_drewN | apply Kd.N_drew)); exact HO357.out) hb); have n1_ := Aside0.mk (below_step (by repeat (first | (with_reducible first | exact HB.out | apply below_alloc | apply pw_below_drewN | apply below_drew1) | exact HB.out)) hb); clear HO357; clear HB; have HO357 := n0_; have HB := n1_; clear n0_ n1_; (try clear hb); (try clear hb2); (try clear hk); (try clear hi)) | ((with_reducible refine gate_callee (f := 10) rfl ?_); refine goesL_ (some 20) rfl rfl Try.func10 (by kernel_rfl) rfl #[.slice A0 l0.length c0] rfl (by (try simp only [List.map_toArray, List.map_cons, List.map_nil]); first | done | rfl | (simp only [List.length_drop, List.length_take]; rfl)) ?_; (with_reducible refine (petrinetref08_Valid.calls k _ _ l0 false _ ?side1 ?side2 A4.out).mono ?_); (case side1 => repeat (first | exact (Kd.C_below HR0.out HB.out) | (with_reducible refine Kd.C_alloc ?_ _) | (with_reducible refine Kd.C_drewN ?_ _) | (with_reducible refine Kd.C_drew ?_))); (case side2 => exact HC0.out); rintro e w' ⟨rfl, ⟨nd, rfl⟩⟩; refine ⟨_, rfl, ?_⟩; obtain ⟨Ao64, co64, eo64⟩ := Kd.N_slice HO357.out; subst eo64) | (go_at_call 11; (with_reducible refine (petrinetlaw08_exampleHolds.calls k  t362 _ A61.out).mono ?_); rintro e w65 ⟨rfl, hb⟩; have n0_ := Aside0.mk (Kd.N_below (by (with_reducible repeat (first | apply Kd.N_alloc | apply Kd.N_drewN | apply Kd.N_drew)); exact HO357.out) hb); have n1_ := Aside0.mk (below_step (by repeat (first | (with_reducible first | exact HB.out | apply below_alloc | apply pw_below_drewN | apply below_drew1) | exact HB.out)) hb); clear HO357; clear HB; have HO357 := n0_; have HB := n1_; clear n0_ n1_; (try clear hb); (try clear hb2); (try clear hk); (try clear hi)))
      go_ret
      exact ⟨by first | rfl | (simp [errW_none, errW_some] <;> rfl) | (simp [*, errW_none, errW_some] <;> rfl), by repeat (first | (with_reducible first | exact HB.out | apply below_alloc | apply pw_below_drewN | apply below_drew1) | exact HB.out)⟩
     ·
      rw [if_neg c60] at H
      exact absurd H (by simp)
    ·
     rw [if_neg c59] at H
     exact absurd H (by simp)
   ·
    rw [if_neg c58] at H
    exact absurd H (by simp)
  ·
   rw [if_neg c57] at H
   exact absurd H (by simp)

/-- The one pure statement of petrinetlaw08_MatrixEchelons. -/
def petrinetlaw08_MatrixEchelons.Pure : Prop := ∀ (x0 : List (List Int)), (fun l => l.length ≤ maxLen ∧ ∀ x ∈ l, (fun l => l.length ≤ maxLen ∧ ∀ x ∈ l, (fun n => (Lit.int .i64 n).wf = true) x) x) x0 → ∃ k, petrinetlaw08_MatrixEchelons.f k x0 = some true

end Go.Proofs.Ytckefohfahphpaa.Z
end
section
namespace Go.Proofs.Ytckefohfahphpaa.Pure
open Go.RowKit Go.Proofs.Ytckefohfahphpaa.Z Go.Proofs.YtckefohfahphpaaW.PrintWords Go.Proofs.YtckefohfahphpaaW.PrintLast Go.Proofs.YtckefohfahphpaaW.PrintMore
set_option linter.unusedVariables false
set_option linter.unusedSimpArgs false
theorem MatrixEchelons : petrinetlaw08_MatrixEchelons.Pure := by
  intro a hw
  have ha : ∀ r ∈ a, ok64 r := fun r hr => ok64_wf (hw.2 r hr).2
  clear hw
  obtain ⟨k, hk⟩ : ∃ k : Nat, k = 9223372036854775808 + 2000000 := ⟨_, rfl⟩
  have hL : 9223372036854775808 + 30000 ≤ k := by omega
  have hb : 1500000 ≤ k := by omega
  clear hk
  refine ⟨k + 1, ?_⟩
  unfold petrinetlaw08_MatrixEchelons.f
  have hex := example_eq k (by omega)
  rw [mech_eq (by omega), mrank_eq (by omega), rvalid_eq a _ (by omega), example_eq (k + 1) (by omega)]
  by_cases hv : validB a = true
  · obtain ⟨b, s1, s2⟩ := small_spec (k := k + 1) hv (by omega)
    obtain ⟨r, e1, e2⟩ := rech_spec (k := k) hv ha hL
    rw [if_pos hv, if_pos hv, s1]
    rcases reduce_spec (K := k + 1) (by omega) hv ha with ⟨E, cols, p, h1, h2, h3, h4, h5⟩ | ⟨h1, h2⟩
    · rw [h1]
      simp only [Option.bind_some, hv, if_true]
      rw [petrinetlaw08_MatrixEchelons.j0, if_neg (by decide), e1, hex]
      simp only [Option.bind_some, if_true]
      by_cases hr : r.2 = true
      · rw [if_pos hr]
        obtain ⟨q, hq⟩ := e2 hr
        have hs := h2.same hq
        obtain ⟨n, _, _, _, h64, _, hn⟩ := validB_iff.mp hv
        rw [hn] at h2
        have hl := h2.len
        rw [← hs, same_self (a := E) (by omega) (fun z hz => by have := (h2.ok z hz).1; omega) k (by omega)]
        simp only [Option.bind_some, if_true]
        rw [if_pos (by omega)]
      · rw [if_neg hr]
    · rw [h1]
      have hbf : b = false := by cases b with
        | false => rfl
        | true => exact absurd (s2 rfl) h2
      rw [hbf]
      simp only [Option.bind_some, hv, if_true]
      rw [if_neg (by decide)]
      simp only [Bool.false_eq_true, if_false]
      rw [if_neg (by simp), if_neg (by decide)]
      rw [petrinetlaw08_MatrixEchelons.j0, if_neg (by simp), e1, hex]
      simp only [Option.bind_some, if_true]
      split <;> rfl
  · rw [if_neg hv, if_neg hv]
    simp only [Option.bind_some]
    rw [if_neg hv]
    rfl
end Go.Proofs.Ytckefohfahphpaa.Pure
end
section
namespace Go.Proofs.Ytckefohfahphpaa.matrixEchelons
open Go.ChangeShapes Go.WideShapes Go.ChangeAt Go.RowKit Go.Proofs.Ytckefohfahphpaa.Z Go.Proofs.YtckefohfahphpaaW.PrintWords
open Go.ChangeMaps (open_string shut_string)
set_option linter.unusedVariables false
theorem own : ownKnob Try.prog.godebug = none := by kernel_rfl
theorem laidOut : laidOutB Try.prog = true := by kernel_rfl
set_option maxRecDepth 100000 in
theorem lifted (os : Os) (started : os.Started) (H : Type) (enc : TypeId × Value → H) :
    ReturnsInHanded {} Try.checked os 4 .any (Rows.matrixEchelonsSpec.pre6 enc Try.prog Try.f4 Rows.matrixEchelonsRow.domain false) (Rows.matrixEchelonsSpec.post enc Try.prog Try.f4 false true false false) := by
  refine returnsInHanded_of_change_sized (C := Try.checked) own started (by kernel_rfl) Try.func4
    (ChangeSpec.witness6 (enc := enc) (C := Try.checked) false ⟨#[], #[.slice none 0 0], []⟩ 8 (by kernel_rfl) (by kernel_rfl) (by kernel_rfl) (by kernel_rfl)) ?_
  intro W base args ds gs before hval0 hW hcnd hsz0 _
  have hval : ∀ (j : Nat) t v, Try.f4.params[j]? = some t → args[j]? = some v → Value.okWide Try.prog W .any base t v := hval0
  have hW' := hW
  obtain ⟨p, q, hA0, hV, rfl, hfz, hnd⟩ := hW
  have hA : DataW.TrodAll enc Try.prog W 0 (fun _ => true) true Try.f4.params.toList args.toList ds p := hA0
  rw [Try.params4] at hA hval
  obtain ⟨v0, vs0, d0, ds0, p0, q0, hargs, rfl, rfl, h0, r0⟩ := trodAll_cons hA
  obtain ⟨rfl, rfl, rfl⟩ := trodAll_nil r0
  obtain rfl : args = #[v0] := by cases args; simp_all
  obtain ⟨rfl, rfl⟩ := trodVars_none hV
  have k0 := h0
  have lt0 : ∀ x ∈ p0, x.block < W.heap.size := by obtain ⟨m, hm⟩ := k0; exact DataW.trod_lt m _ _ _ hm
  obtain ⟨a0, len0, cap0, rfl⟩ := okWide_slice Try.underlying22 (hval 0 22 v0 rfl rfl)
  obtain ⟨fuel0, hf0⟩ := h0
  obtain ⟨x0, ⟨A0, c0, hc0, hl0, hC0⟩, w0⟩ := (opens_slice Try.underlying22 (by kernel_rfl) (opens_slice Try.underlying33 (by kernel_rfl) (opens_int Try.underlying2))) hf0
  simp only [Value.cells, List.cons.injEq, Value.slice.injEq, and_true] at hc0
  obtain ⟨rfl, rfl, rfl⟩ := hc0
  clear hA0 hval0 hsz0
  obtain ⟨k, hP⟩ := Pure.MatrixEchelons x0 w0
  refine (petrinetlaw08_MatrixEchelons.calls k _ _ x0 true W hC0 hl0 hP).mono fun e W' ⟨he, bel⟩ => ?_
  subst he
  exact ⟨_, rfl, _, _, _, [], _, [], hW', trodAll_mk1 (shut_bool Try.underlying4 _), (trodAll_cons_mk (Below.trod laidOut (by kernel_rfl) (of_decide_eq_true (by kernel_rfl)) k0 bel lt0) trodAll_mk0), rfl, bel.frame _, fun h => by cases h⟩
theorem over : Rows.matrixEchelonsRow.holds Try.pinned (OpenSpec.ofChange Rows.matrixEchelonsSpec) :=
  OpenClaim.holds_of_wide 4 Try.f4 rfl rfl rfl rfl rfl rfl rfl ⟨rfl, rfl, rfl, rfl, rfl⟩ rfl rfl rfl rfl rfl (by kernel_rfl) Try.func4 (by kernel_rfl)
    (of_decide_eq_true (by kernel_rfl)) (by unfold Func.isWrapper; first | (rw [if_pos (by decide +kernel)]; kernel_rfl) | (rw [if_neg (by decide +kernel)]; exact ⟨rfl, rfl⟩))
    (fun os started H enc _ => lifted os started H enc)
theorem proved : Rows.MatrixEchelonsSaid := over
#print axioms proved
end Go.Proofs.Ytckefohfahphpaa.matrixEchelons
namespace Go.Proofs.Ytckefohfahphpaa
/-- The row, under a short name, for the claim. -/
theorem matrixEchelons_holds : Rows.MatrixEchelonsSaid := matrixEchelons.proved
end Go.Proofs.Ytckefohfahphpaa
end
