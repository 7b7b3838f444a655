/- The statement Products is proved here, for every input, out of the walks and the plain laws of the texts ahead of it. -/
import Derived.Test.YtckefohfahphpaaRows
import Derived.WalkKit
import Derived.ProofKit
import Derived.OpenShut
import Derived.ShutString
import Derived.ChangeOld
import Derived.Below
import Derived.SizedLaws
import Derived.Test.YtckefohfahphpaaJProducts0
import Derived.Test.YtckefohfahphpaaJProducts1
import Derived.Test.YtckefohfahphpaaJProducts2
section
namespace Go.Proofs.Ytckefohfahphpaa.Z
open Go.RowKit Go.Proofs.YtckefohfahphpaaW.PrintWords Go.Proofs.YtckefohfahphpaaW.PrintLast Go.Proofs.YtckefohfahphpaaW.PrintMore
attribute [local go_sem] max2_int min2_int max_two min_two max_three min_three max_four min_four   -- for this text's walks alone
set_option linter.unusedVariables false
set_option linter.unusedSimpArgs false

/-! ### petrinetref08_product: function 37 -/
def petrinetref08_product.l0 : Nat → List Int → List Int → Int → Int → Option (Int × Bool)
 | 0, _, _, _, _ => none
 | k + 1, x0, x1, x6, x7 => if x7 < (x0.length : Int) then (if 0 ≤ x7 then (if x7 < (x1.length : Int) then ((petrinetref08_times.f k (rd x0 x7) (rd x1 x7)).bind fun bt241 => (if bt241.2 = true then ((petrinetref08_plus.f k x6 bt241.1).bind fun bt243 => (if bt243.2 = true then (petrinetref08_product.l0 k x0 x1 bt243.1 (wrap64 (x7 + 1))) else (some (0, false)))) else (some (0, false)))) else (none)) else (none)) else (some (x6, true))
def petrinetref08_product.f (k : Nat) (l0 : List Int) (l1 : List Int) : Option (Int × Bool) := petrinetref08_product.l0 k l0 l1 0 0
theorem petrinetref08_product.mono_l : ∀ k, (∀ y0 y1 y2 y3, LeO (petrinetref08_product.l0 k y0 y1 y2 y3) (petrinetref08_product.l0 (k + 1) y0 y1 y2 y3))
 | 0 => fun _ _ _ _ r h => by simp [petrinetref08_product.l0] at h
 | k + 1 => by
  have ih0 := petrinetref08_product.mono_l k
  ·
   intro y0 y1 y2 y3
   unfold petrinetref08_product.l0
   repeat' first
   | (with_reducible exact ih0 _ _ _ _)
   | (with_reducible exact petrinetref08_plus.mono _ _ _)
   | (with_reducible exact petrinetref08_times.mono _ _ _)
   | (with_reducible exact LeO.refl _)
   | (with_reducible exact LeO.none _)
   | (with_reducible refine LeO.ite ?_ ?_)
   | (with_reducible refine LeO.bind ?_ (fun _ => ?_))
   | exact ih0 _ _ _ _
   | exact petrinetref08_plus.mono _ _ _
   | exact petrinetref08_times.mono _ _ _
   | exact LeO.none _
   | refine LeO.ite ?_ ?_
   | refine LeO.bind ?_ (fun _ => ?_)
theorem petrinetref08_product.mono : ∀ a0 a1 k, LeO (petrinetref08_product.f k a0 a1) (petrinetref08_product.f (k + 1) a0 a1) := by
 intro a0 a1 k
 have ih0 := petrinetref08_product.mono_l k
 unfold petrinetref08_product.f
 repeat' first
   | (with_reducible exact ih0 _ _ _ _)
   | (with_reducible exact petrinetref08_plus.mono _ _ _)
   | (with_reducible exact petrinetref08_times.mono _ _ _)
   | (with_reducible exact LeO.refl _)
   | (with_reducible exact LeO.none _)
   | (with_reducible refine LeO.ite ?_ ?_)
   | (with_reducible refine LeO.bind ?_ (fun _ => ?_))
   | exact ih0 _ _ _ _
   | exact petrinetref08_plus.mono _ _ _
   | exact petrinetref08_times.mono _ _ _
   | exact LeO.none _
   | refine LeO.ite ?_ ?_
   | refine LeO.bind ?_ (fun _ => ?_)
set_option maxHeartbeats 8000000 in
set_option maxRecDepth 100000 in
theorem petrinetref08_product.calls (k : Nat) (A0 : Option Addr) (c0 : Nat) (l0 : List Int) (A1 : Option Addr) (c1 : Nat) (l1 : List Int) (r1 : Int) (r2 : Bool) (w : World) (hr0 : Kd.C (Kd.int .i64) w A0 l0.length l0) (hc0 : l0.length ≤ c0) (hr1 : Kd.C (Kd.int .i64) w A1 l1.length l1) (hc1 : l1.length ≤ c1) (h : petrinetref08_product.f k l0 l1 = some (r1, r2)) :
  Calls Try.prog 37 #[.slice A0 l0.length c0, .slice A1 l1.length c1] w fun e w' => e = .returned (.tuple #[.int .i64 r1, .bool r2]) ∧ Drawn0 w w' := by
 have HR0 := Aside0.mk hr0
 have HC0 := Aside0.mk hc0
 clear hr0 hc0
 have HR1 := Aside0.mk hr1
 have HC1 := Aside0.mk hc1
 clear hr1 hc1
 have H : (petrinetref08_product.l0 k l0 l1 0 0) = some (r1, r2) := h
 clear h
 have H' := Aside0.mk H
 clear H
 go_enter Try.func37, Try.ntmps37
 go_wp2
 repeat (go_quiet (fail); try go_wp2)
 go_loopg [6, 7] k (fun kq v6 v7 w' => ∃ (x6_1 : Int) (x7_1 : Int), v6 = .int .i64 x6_1 ∧ v7 = .int .i64 x7_1 ∧ Aside0 (petrinetref08_product.l0 kq l0 l1 x6_1 x7_1 = some (r1, r2)) ∧ Aside0 (kq ≤ k) ∧ Drawn0 w w')
 case atStart => exact ⟨(0), (0), (by first | rfl | (simp; done) | (simp [*]; done)), (by first | rfl | (simp; done) | (simp [*]; done)), H', ⟨Nat.le_refl _⟩, by repeat (first | exact Drawn0.refl _ | apply Drawn0.step)⟩
 case round =>
  clear H'
  try clear c1
  try clear p2
  obtain ⟨x6_1, x7_1, rfl, rfl, HA, HK1, ⟨m1, rfl⟩⟩ := hrel
  cases gk with
  | zero => exact absurd HA.out (by simp [petrinetref08_product.l0])
  | succ k1 =>
   have H := HA.out
   clear HA
   simp only [petrinetref08_product.l0] at H
   by_cases c3 : x7_1 < (l0.length : Int)
   ·
    rw [if_pos c3] at H
    have c3b0 : decide (x7_1 < (l0.length : Int)) = true := decide_eq_true c3
    clear c3
    by_cases c4 : 0 ≤ x7_1
    ·
     rw [if_pos c4] at H
     have c4b0 : decide (0 ≤ x7_1) = true := decide_eq_true c4
     clear c4
     by_cases c5 : x7_1 < (l1.length : Int)
     ·
      rw [if_pos c5] at H
      have c5b0 : decide (x7_1 < (l1.length : Int)) = true := decide_eq_true c5
      clear c5
      replace H := Option.bind_eq_some_iff.mp H
      obtain ⟨⟨t241, t242⟩, A60, H⟩ := H
      replace H : (if t242 = true then ((petrinetref08_plus.f k1 x6_1 t241).bind fun bt243 => (if bt243.2 = true then (petrinetref08_product.l0 k1 l0 l1 bt243.1 (wrap64 (x7_1 + 1))) else (some (0, false)))) else (some (0, false))) = some (r1, r2) := H
      have A6 := Aside0.mk A60
      clear A60
      by_cases c7 : t242 = true
      ·
       subst c7
       have H1 : ((petrinetref08_plus.f k1 x6_1 t241).bind fun bt243 => (if bt243.2 = true then (petrinetref08_product.l0 k1 l0 l1 bt243.1 (wrap64 (x7_1 + 1))) else (some (0, false)))) = some (r1, r2) := by rw [if_pos rfl] at H; exact H
       clear H
       have H := H1
       clear H1
       replace H := Option.bind_eq_some_iff.mp H
       obtain ⟨⟨t243, t244⟩, A80, H⟩ := H
       replace H : (if t244 = true then (petrinetref08_product.l0 k1 l0 l1 t243 (wrap64 (x7_1 + 1))) else (some (0, false))) = some (r1, r2) := H
       have A8 := Aside0.mk A80
       clear A80
       by_cases c9 : t244 = true
       ·
        subst c9
        have H1 : (petrinetref08_product.l0 k1 l0 l1 t243 (wrap64 (x7_1 + 1))) = some (r1, r2) := by rw [if_pos rfl] at H; exact H
        clear H
        have H := H1
        clear H1
        have H' := Aside0.mk H
        clear H
        have p239 : 0 ≤ (x7_1 : Int) := of_decide_eq_true (by first | (with_reducible assumption) | assumption)
        have q239 : x7_1 < (l0.length : Int) := of_decide_eq_true (by first | (with_reducible assumption) | assumption)
        obtain ⟨ad239, e239, hx239_0⟩ := Kd.at_int HR0.out x7_1 p239 q239
        cases e239
        replace p239 := eq_true p239
        replace q239 := eq_true q239
        have p240 : 0 ≤ (x7_1 : Int) := of_decide_eq_true (by first | (with_reducible assumption) | assumption)
        have q240 : x7_1 < (l1.length : Int) := of_decide_eq_true (by first | (with_reducible assumption) | assumption)
        obtain ⟨ad240, e240, hx240_0⟩ := Kd.at_int HR1.out x7_1 p240 q240
        cases e240
        replace p240 := eq_true p240
        replace q240 := eq_true q240
        go_wp2_with (first | (go_at_call 32; (with_reducible refine (petrinetref08_times.calls k1 (rd l0 x7_1) (rd l1 x7_1) t241 true _ A6.out).mono ?_); rintro e w' ⟨rfl, ⟨nd, rfl⟩⟩; (try first | exact ⟨rfl, _, World.drewN_drewN _ _ _⟩ | exact ⟨rfl, _, Eq.trans (World.drewN_drewN _ _ _) (congrArg (World.drewN _) (Nat.add_assoc _ _ _))⟩)) | (go_at_call 44; (with_reducible refine (petrinetref08_plus.calls k1 x6_1 t241 t243 true _ A8.out).mono ?_); rintro e w' ⟨rfl, ⟨nd, rfl⟩⟩; (try first | exact ⟨rfl, _, World.drewN_drewN _ _ _⟩ | exact ⟨rfl, _, Eq.trans (World.drewN_drewN _ _ _) (congrArg (World.drewN _) (Nat.add_assoc _ _ _))⟩)))
        repeat (go_quiet (first | (go_at_call 32; (with_reducible refine (petrinetref08_times.calls k1 (rd l0 x7_1) (rd l1 x7_1) t241 true _ A6.out).mono ?_); rintro e w' ⟨rfl, ⟨nd, rfl⟩⟩; (try first | exact ⟨rfl, _, World.drewN_drewN _ _ _⟩ | exact ⟨rfl, _, Eq.trans (World.drewN_drewN _ _ _) (congrArg (World.drewN _) (Nat.add_assoc _ _ _))⟩)) | (go_at_call 44; (with_reducible refine (petrinetref08_plus.calls k1 x6_1 t241 t243 true _ A8.out).mono ?_); rintro e w' ⟨rfl, ⟨nd, rfl⟩⟩; (try first | exact ⟨rfl, _, World.drewN_drewN _ _ _⟩ | exact ⟨rfl, _, Eq.trans (World.drewN_drewN _ _ _) (congrArg (World.drewN _) (Nat.add_assoc _ _ _))⟩))); try go_wp2_with (first | (go_at_call 32; (with_reducible refine (petrinetref08_times.calls k1 (rd l0 x7_1) (rd l1 x7_1) t241 true _ A6.out).mono ?_); rintro e w' ⟨rfl, ⟨nd, rfl⟩⟩; (try first | exact ⟨rfl, _, World.drewN_drewN _ _ _⟩ | exact ⟨rfl, _, Eq.trans (World.drewN_drewN _ _ _) (congrArg (World.drewN _) (Nat.add_assoc _ _ _))⟩)) | (go_at_call 44; (with_reducible refine (petrinetref08_plus.calls k1 x6_1 t241 t243 true _ A8.out).mono ?_); rintro e w' ⟨rfl, ⟨nd, rfl⟩⟩; (try first | exact ⟨rfl, _, World.drewN_drewN _ _ _⟩ | exact ⟨rfl, _, Eq.trans (World.drewN_drewN _ _ _) (congrArg (World.drewN _) (Nat.add_assoc _ _ _))⟩))))
        go_roundg k1
        case measure => have := HK1.out; omega
        case rel => exact ⟨(t243), (wrap64 (x7_1 + 1)), (by first | rfl | (simp; done) | (simp [*]; done)), (by first | rfl | (simp; done) | (simp [*]; done)), H', ⟨by have := HK1.out; omega⟩, by repeat (first | exact Drawn0.refl _ | apply Drawn0.step)⟩
       ·
        replace c9 := Bool.eq_false_iff.mpr c9
        subst c9
        have H1 : (some (0, false)) = some (r1, r2) := by rw [if_neg (show ¬ (false = true) by decide)] at H; exact H
        clear H
        have H := H1
        clear H1
        simp only [Option.some.injEq, Prod.mk.injEq] at H
        obtain ⟨rfl, rfl⟩ := H
        have p239 : 0 ≤ (x7_1 : Int) := of_decide_eq_true (by first | (with_reducible assumption) | assumption)
        have q239 : x7_1 < (l0.length : Int) := of_decide_eq_true (by first | (with_reducible assumption) | assumption)
        obtain ⟨ad239, e239, hx239_0⟩ := Kd.at_int HR0.out x7_1 p239 q239
        cases e239
        replace p239 := eq_true p239
        replace q239 := eq_true q239
        have p240 : 0 ≤ (x7_1 : Int) := of_decide_eq_true (by first | (with_reducible assumption) | assumption)
        have q240 : x7_1 < (l1.length : Int) := of_decide_eq_true (by first | (with_reducible assumption) | assumption)
        obtain ⟨ad240, e240, hx240_0⟩ := Kd.at_int HR1.out x7_1 p240 q240
        cases e240
        replace p240 := eq_true p240
        replace q240 := eq_true q240
        go_wp2_with (first | (go_at_call 32; (with_reducible refine (petrinetref08_times.calls k1 (rd l0 x7_1) (rd l1 x7_1) t241 true _ A6.out).mono ?_); rintro e w' ⟨rfl, ⟨nd, rfl⟩⟩; (try first | exact ⟨rfl, _, World.drewN_drewN _ _ _⟩ | exact ⟨rfl, _, Eq.trans (World.drewN_drewN _ _ _) (congrArg (World.drewN _) (Nat.add_assoc _ _ _))⟩)) | (go_at_call 44; (with_reducible refine (petrinetref08_plus.calls k1 x6_1 t241 t243 false _ A8.out).mono ?_); rintro e w' ⟨rfl, ⟨nd, rfl⟩⟩; (try first | exact ⟨rfl, _, World.drewN_drewN _ _ _⟩ | exact ⟨rfl, _, Eq.trans (World.drewN_drewN _ _ _) (congrArg (World.drewN _) (Nat.add_assoc _ _ _))⟩)))
        repeat (go_quiet (first | (go_at_call 32; (with_reducible refine (petrinetref08_times.calls k1 (rd l0 x7_1) (rd l1 x7_1) t241 true _ A6.out).mono ?_); rintro e w' ⟨rfl, ⟨nd, rfl⟩⟩; (try first | exact ⟨rfl, _, World.drewN_drewN _ _ _⟩ | exact ⟨rfl, _, Eq.trans (World.drewN_drewN _ _ _) (congrArg (World.drewN _) (Nat.add_assoc _ _ _))⟩)) | (go_at_call 44; (with_reducible refine (petrinetref08_plus.calls k1 x6_1 t241 t243 false _ A8.out).mono ?_); rintro e w' ⟨rfl, ⟨nd, rfl⟩⟩; (try first | exact ⟨rfl, _, World.drewN_drewN _ _ _⟩ | exact ⟨rfl, _, Eq.trans (World.drewN_drewN _ _ _) (congrArg (World.drewN _) (Nat.add_assoc _ _ _))⟩))); try go_wp2_with (first | (go_at_call 32; (with_reducible refine (petrinetref08_times.calls k1 (rd l0 x7_1) (rd l1 x7_1) t241 true _ A6.out).mono ?_); rintro e w' ⟨rfl, ⟨nd, rfl⟩⟩; (try first | exact ⟨rfl, _, World.drewN_drewN _ _ _⟩ | exact ⟨rfl, _, Eq.trans (World.drewN_drewN _ _ _) (congrArg (World.drewN _) (Nat.add_assoc _ _ _))⟩)) | (go_at_call 44; (with_reducible refine (petrinetref08_plus.calls k1 x6_1 t241 t243 false _ A8.out).mono ?_); rintro e w' ⟨rfl, ⟨nd, rfl⟩⟩; (try first | exact ⟨rfl, _, World.drewN_drewN _ _ _⟩ | exact ⟨rfl, _, Eq.trans (World.drewN_drewN _ _ _) (congrArg (World.drewN _) (Nat.add_assoc _ _ _))⟩))))
        go_ret2
        exact ⟨by first | rfl | (simp; done) | (simp [*]; done), by repeat (first | exact Drawn0.refl _ | apply Drawn0.step)⟩
      ·
       replace c7 := Bool.eq_false_iff.mpr c7
       subst c7
       have H1 : (some (0, false)) = some (r1, r2) := by rw [if_neg (show ¬ (false = true) by decide)] at H; exact H
       clear H
       have H := H1
       clear H1
       simp only [Option.some.injEq, Prod.mk.injEq] at H
       obtain ⟨rfl, rfl⟩ := H
       have p239 : 0 ≤ (x7_1 : Int) := of_decide_eq_true (by first | (with_reducible assumption) | assumption)
       have q239 : x7_1 < (l0.length : Int) := of_decide_eq_true (by first | (with_reducible assumption) | assumption)
       obtain ⟨ad239, e239, hx239_0⟩ := Kd.at_int HR0.out x7_1 p239 q239
       cases e239
       replace p239 := eq_true p239
       replace q239 := eq_true q239
       have p240 : 0 ≤ (x7_1 : Int) := of_decide_eq_true (by first | (with_reducible assumption) | assumption)
       have q240 : x7_1 < (l1.length : Int) := of_decide_eq_true (by first | (with_reducible assumption) | assumption)
       obtain ⟨ad240, e240, hx240_0⟩ := Kd.at_int HR1.out x7_1 p240 q240
       cases e240
       replace p240 := eq_true p240
       replace q240 := eq_true q240
       go_wp2_with (first | (go_at_call 32; (with_reducible refine (petrinetref08_times.calls k1 (rd l0 x7_1) (rd l1 x7_1) t241 false _ A6.out).mono ?_); rintro e w' ⟨rfl, ⟨nd, rfl⟩⟩; (try first | exact ⟨rfl, _, World.drewN_drewN _ _ _⟩ | exact ⟨rfl, _, Eq.trans (World.drewN_drewN _ _ _) (congrArg (World.drewN _) (Nat.add_assoc _ _ _))⟩)))
       repeat (go_quiet (first | (go_at_call 32; (with_reducible refine (petrinetref08_times.calls k1 (rd l0 x7_1) (rd l1 x7_1) t241 false _ A6.out).mono ?_); rintro e w' ⟨rfl, ⟨nd, rfl⟩⟩; (try first | exact ⟨rfl, _, World.drewN_drewN _ _ _⟩ | exact ⟨rfl, _, Eq.trans (World.drewN_drewN _ _ _) (congrArg (World.drewN _) (Nat.add_assoc _ _ _))⟩))); try go_wp2_with (first | (go_at_call 32; (with_reducible refine (petrinetref08_times.calls k1 (rd l0 x7_1) (rd l1 x7_1) t241 false _ A6.out).mono ?_); rintro e w' ⟨rfl, ⟨nd, rfl⟩⟩; (try first | exact ⟨rfl, _, World.drewN_drewN _ _ _⟩ | exact ⟨rfl, _, Eq.trans (World.drewN_drewN _ _ _) (congrArg (World.drewN _) (Nat.add_assoc _ _ _))⟩))))
       go_ret2
       exact ⟨by first | rfl | (simp; done) | (simp [*]; done), by repeat (first | exact Drawn0.refl _ | apply Drawn0.step)⟩
     ·
      rw [if_neg c5] at H
      exact absurd H (by simp)
    ·
     rw [if_neg c4] at H
     exact absurd H (by simp)
   ·
    rw [if_neg c3] at H
    have c3b0 : decide (x7_1 < (l0.length : Int)) = false := decide_eq_false c3
    clear c3
    simp only [Option.some.injEq, Prod.mk.injEq] at H
    obtain ⟨rfl, rfl⟩ := H
    go_wp2
    repeat (go_quiet (fail); try go_wp2)
    go_ret2
    exact ⟨by first | rfl | (simp; done) | (simp [*]; done), by repeat (first | exact Drawn0.refl _ | apply Drawn0.step)⟩

end Go.Proofs.Ytckefohfahphpaa.Z
end
section
namespace Go.Proofs.Ytckefohfahphpaa.Z
open Go.RowKit Go.Proofs.YtckefohfahphpaaW.PrintWords Go.Proofs.YtckefohfahphpaaW.PrintLast Go.Proofs.YtckefohfahphpaaW.PrintMore
attribute [local go_sem] max2_int min2_int max_two min_two max_three min_three max_four min_four   -- for this text's walks alone
set_option linter.unusedVariables false
set_option linter.unusedSimpArgs false

/-! ### petrinetref08_Apply: function 24 -/
mutual
def petrinetref08_Apply.j0 : Nat → List (List Int) → List Int → Bool → Option (List Int × Int)
 | 0, _, _, _ => none
 | k + 1, x0, x1, x21 => if x21 = true then (some (([] : List Int), 2)) else (petrinetref08_Apply.l0 k x0 x1 ([] : List Int) 0)
def petrinetref08_Apply.l0 : Nat → List (List Int) → List Int → List Int → Int → Option (List Int × Int)
 | 0, _, _, _, _ => none
 | k + 1, x0, x1, x6, x7 => if x7 < (x0.length : Int) then (if 0 ≤ x7 then ((petrinetref08_product.f k (rd_L1 x0 x7) x1).bind fun bt248 => (if bt248.2 = true then (if x6.length < 17592186044416 then (petrinetref08_Apply.l0 k x0 x1 (x6 ++ [bt248.1]) (wrap64 (x7 + 1))) else (none)) else (some (([] : List Int), 3)))) else (none)) else (some (x6, 0))
end
def petrinetref08_Apply.f (k : Nat) (l0 : List (List Int)) (l1 : List Int) : Option (List Int × Int) := (petrinetref08_Valid.f k l0).bind fun t245 => (if t245 = true then (if 0 < (l0.length : Int) then (petrinetref08_Apply.j0 k l0 l1 (((rd_L1 l0 0).length : Int) != (l1.length : Int))) else (none)) else (petrinetref08_Apply.j0 k l0 l1 true))
theorem petrinetref08_Apply.mono_l : ∀ k, (∀ y0 y1 y2, LeO (petrinetref08_Apply.j0 k y0 y1 y2) (petrinetref08_Apply.j0 (k + 1) y0 y1 y2)) ∧ (∀ y0 y1 y2 y3, LeO (petrinetref08_Apply.l0 k y0 y1 y2 y3) (petrinetref08_Apply.l0 (k + 1) y0 y1 y2 y3))
 | 0 => ⟨fun _ _ _ r h => by simp [petrinetref08_Apply.j0] at h, fun _ _ _ _ r h => by simp [petrinetref08_Apply.l0] at h⟩
 | k + 1 => by
  obtain ⟨ih0, ih1⟩ := petrinetref08_Apply.mono_l k
  refine ⟨?_, ?_⟩
  ·
   intro y0 y1 y2
   unfold petrinetref08_Apply.j0
   repeat' first
   | (with_reducible exact ih0 _ _ _)
   | (with_reducible exact ih1 _ _ _ _)
   | (with_reducible exact petrinetref08_Valid.mono _ _)
   | (with_reducible exact petrinetref08_product.mono _ _ _)
   | (with_reducible exact LeO.refl _)
   | (with_reducible exact LeO.none _)
   | (with_reducible refine LeO.ite ?_ ?_)
   | (with_reducible refine LeO.bind ?_ (fun _ => ?_))
   | exact ih0 _ _ _
   | exact ih1 _ _ _ _
   | exact petrinetref08_Valid.mono _ _
   | exact petrinetref08_product.mono _ _ _
   | exact LeO.none _
   | refine LeO.ite ?_ ?_
   | refine LeO.bind ?_ (fun _ => ?_)
  ·
   intro y0 y1 y2 y3
   unfold petrinetref08_Apply.l0
   repeat' first
   | (with_reducible exact ih0 _ _ _)
   | (with_reducible exact ih1 _ _ _ _)
   | (with_reducible exact petrinetref08_Valid.mono _ _)
   | (with_reducible exact petrinetref08_product.mono _ _ _)
   | (with_reducible exact LeO.refl _)
   | (with_reducible exact LeO.none _)
   | (with_reducible refine LeO.ite ?_ ?_)
   | (with_reducible refine LeO.bind ?_ (fun _ => ?_))
   | exact ih0 _ _ _
   | exact ih1 _ _ _ _
   | exact petrinetref08_Valid.mono _ _
   | exact petrinetref08_product.mono _ _ _
   | exact LeO.none _
   | refine LeO.ite ?_ ?_
   | refine LeO.bind ?_ (fun _ => ?_)
theorem petrinetref08_Apply.mono : ∀ a0 a1 k, LeO (petrinetref08_Apply.f k a0 a1) (petrinetref08_Apply.f (k + 1) a0 a1) := by
 intro a0 a1 k
 obtain ⟨ih0, ih1⟩ := petrinetref08_Apply.mono_l k
 unfold petrinetref08_Apply.f
 repeat' first
   | (with_reducible exact ih0 _ _ _)
   | (with_reducible exact ih1 _ _ _ _)
   | (with_reducible exact petrinetref08_Valid.mono _ _)
   | (with_reducible exact petrinetref08_product.mono _ _ _)
   | (with_reducible exact LeO.refl _)
   | (with_reducible exact LeO.none _)
   | (with_reducible refine LeO.ite ?_ ?_)
   | (with_reducible refine LeO.bind ?_ (fun _ => ?_))
   | exact ih0 _ _ _
   | exact ih1 _ _ _ _
   | exact petrinetref08_Valid.mono _ _
   | exact petrinetref08_product.mono _ _ _
   | exact LeO.none _
   | refine LeO.ite ?_ ?_
   | refine LeO.bind ?_ (fun _ => ?_)
set_option maxHeartbeats 8000000 in
set_option maxRecDepth 100000 in
theorem petrinetref08_Apply.calls (k : Nat) (A0 : Option Addr) (c0 : Nat) (l0 : List (List Int)) (A1 : Option Addr) (c1 : Nat) (l1 : List Int) (r1 : List Int) (r2 : Int) (w : World) (hr0 : Kd.C (Kd.slice 2 (Kd.int .i64)) w A0 l0.length l0) (hc0 : l0.length ≤ c0) (hr1 : Kd.C (Kd.int .i64) w A1 l1.length l1) (hc1 : l1.length ≤ c1) (h : petrinetref08_Apply.f k l0 l1 = some (r1, r2)) :
  Calls Try.prog 24 #[.slice A0 l0.length c0, .slice A1 l1.length c1] w fun e w' => ∃ v0_ : Value, e = .returned (.tuple #[v0_, .int .i64 r2]) ∧ Kd.R (Kd.int .i64) 2 w' w.heap.size (fun _ => True) v0_ r1 ∧ Below w.heap.size w w' := by
 have HR0 := Aside0.mk hr0
 have HC0 := Aside0.mk hc0
 clear hr0 hc0
 have HR1 := Aside0.mk hr1
 have HC1 := Aside0.mk hc1
 clear hr1 hc1
 have HB := Aside0.mk (Below.refl w.heap.size w)
 have H : ((petrinetref08_Valid.f k l0).bind fun t245 => (if t245 = true then (if 0 < (l0.length : Int) then (petrinetref08_Apply.j0 k l0 l1 (((rd_L1 l0 0).length : Int) != (l1.length : Int))) else (none)) else (petrinetref08_Apply.j0 k l0 l1 true))) = some (r1, r2) := h
 clear h
 have HC3 := Aside0.mk H
 clear H
 go_enter Try.func24, Try.ntmps24
 go_upto_region 1 with (fail)
 go_cut [21] (fun v21 wc => ∃ (kq : Nat) (x21_2 : Bool), v21 = .bool x21_2 ∧ Aside0 (petrinetref08_Apply.j0 kq l0 l1 x21_2 = some (r1, r2)) ∧ Aside0 (kq ≤ k) ∧ Aside0 (Below w.heap.size w wc))
 case first =>
  have H := HC3.out
  clear HC3
  replace H := Option.bind_eq_some_iff.mp H
  obtain ⟨t245, A40, H⟩ := H
  replace H : (if t245 = true then (if 0 < (l0.length : Int) then (petrinetref08_Apply.j0 k l0 l1 (((rd_L1 l0 0).length : Int) != (l1.length : Int))) else (none)) else (petrinetref08_Apply.j0 k l0 l1 true)) = some (r1, r2) := H
  have A4 := Aside0.mk A40
  clear A40
  by_cases c5 : t245 = true
  ·
   subst c5
   have H1 : (if 0 < (l0.length : Int) then (petrinetref08_Apply.j0 k l0 l1 (((rd_L1 l0 0).length : Int) != (l1.length : Int))) else (none)) = some (r1, r2) := by rw [if_pos rfl] at H; exact H
   clear H
   have H := H1
   clear H1
   by_cases c6 : 0 < (l0.length : Int)
   ·
    rw [if_pos c6] at H
    have c6b0 : decide (0 < (l0.length : Int)) = true := decide_eq_true c6
    have c6b1 : decide (0 < l0.length) = true := decide_eq_true (by omega)
    clear c6
    (first | rw [c6b0] | (simp only [i64_w, i32_w]; rw [c6b0]) | skip)
    have H' := Aside0.mk H
    clear H
    go_wp2_with (first | ((with_reducible refine gate_callee (f := 10) rfl ?_); refine goesL_ (some 11) rfl rfl Try.func10 (by kernel_rfl) rfl #[.slice A0 l0.length c0] rfl (by (try simp only [List.map_toArray, List.map_cons, List.map_nil]); first | done | rfl | (simp only [List.length_drop, List.length_take]; rfl)) ?_; (with_reducible refine (petrinetref08_Valid.calls k _ _ l0 true _ ?side1 ?side2 A4.out).mono ?_); (case side1 => repeat (first | exact (Kd.C_below HR0.out HB.out) | (with_reducible refine Kd.C_alloc ?_ _) | (with_reducible refine Kd.C_drewN ?_ _) | (with_reducible refine Kd.C_drew ?_))); (case side2 => exact HC0.out); rintro e w' ⟨rfl, ⟨nd, rfl⟩⟩; refine ⟨_, rfl, ?_⟩; have p246 : 0 ≤ (0 : Int) := (by omega); have q246 : 0 < (l0.length : Int) := of_decide_eq_true (by first | (with_reducible assumption) | assumption); obtain ⟨ad246, A246_0, c246_0, e246, hx246_0, hl246_0, hi246_0⟩ := at_L1 HR0.out 0 p246 q246; cases e246; have qi246 : (0 < l0.length) = True := eq_true (by omega); (try rw [show ((0 : Int)).toNat = 0 from rfl] at hx246_0); (try rw [Addr.add_zero'] at hx246_0); replace hx246_0 := (HB.out.cell (World.block_lt_of_cell? w _ hx246_0)).trans hx246_0; have HR246_0 := Aside0.mk hi246_0; have HC246_0 := Aside0.mk hl246_0; clear hi246_0 hl246_0; replace p246 := eq_true p246; replace q246 := eq_true q246))
    go_meet
    case rel => exact ⟨_, ((((rd_L1 l0 0).length : Int) != (l1.length : Int))), (by first | rfl | (simp; done) | (simp [*]; done)), H', ⟨by first | omega | exact Nat.le_refl _⟩, ⟨by repeat (first | (with_reducible first | exact HB.out | apply below_alloc | apply pw_below_drewN | apply below_drew1) | exact HB.out)⟩⟩
   ·
    rw [if_neg c6] at H
    exact absurd H (by simp)
  ·
   replace c5 := Bool.eq_false_iff.mpr c5
   subst c5
   have H1 : (petrinetref08_Apply.j0 k l0 l1 true) = some (r1, r2) := by rw [if_neg (show ¬ (false = true) by decide)] at H; exact H
   clear H
   have H := H1
   clear H1
   have H' := Aside0.mk H
   clear H
   go_wp2_with (first | ((with_reducible refine gate_callee (f := 10) rfl ?_); refine goesL_ (some 11) rfl rfl Try.func10 (by kernel_rfl) rfl #[.slice A0 l0.length c0] rfl (by (try simp only [List.map_toArray, List.map_cons, List.map_nil]); first | done | rfl | (simp only [List.length_drop, List.length_take]; rfl)) ?_; (with_reducible refine (petrinetref08_Valid.calls k _ _ l0 false _ ?side1 ?side2 A4.out).mono ?_); (case side1 => repeat (first | exact (Kd.C_below HR0.out HB.out) | (with_reducible refine Kd.C_alloc ?_ _) | (with_reducible refine Kd.C_drewN ?_ _) | (with_reducible refine Kd.C_drew ?_))); (case side2 => exact HC0.out); rintro e w' ⟨rfl, ⟨nd, rfl⟩⟩; refine ⟨_, rfl, ?_⟩))
   go_meet
   case rel => exact ⟨_, (true), (by first | rfl | (simp; done) | (simp [*]; done)), H', ⟨by first | omega | exact Nat.le_refl _⟩, ⟨by repeat (first | (with_reducible first | exact HB.out | apply below_alloc | apply pw_below_drewN | apply below_drew1) | exact HB.out)⟩⟩
 case rest =>
  clear HC3
  try clear c1
  try clear c2
  try clear p2
  try clear q2
  try clear hx2
  try clear qi2
  try clear c5
  try clear c6
  try clear c6b0
  try clear c6b1
  try clear hx246_0
  try clear p246
  try clear q246
  obtain ⟨kq, x21_2, rfl, HA, HJ2, HB⟩ := hcut
  cases kq with
  | zero => exact absurd HA.out (by simp [petrinetref08_Apply.j0])
  | succ kj2 =>
   have H := HA.out
   clear HA
   simp only [petrinetref08_Apply.j0] at H
   by_cases c7 : x21_2 = true
   ·
    subst c7
    have H1 : (some (([] : List Int), 2)) = some (r1, r2) := by rw [if_pos rfl] at H; exact H
    clear H
    have H := H1
    clear H1
    simp only [Option.some.injEq, Prod.mk.injEq] at H
    obtain ⟨rfl, rfl⟩ := H
    go_wp2
    go_ret2
    exact ⟨_, by first | rfl | (simp [errW_none, errW_some] <;> rfl) | (simp [*, errW_none, errW_some] <;> rfl), by first | exact Kd.R_nil _ _ _ _ _ | exact Kd.N_nil _ _ _ _ _ | exact Kd.V_nil _ _ _ _ _ | exact Kd.Q_nil _ _ _ _ _ | exact Kd.S_nil _ _ _ _ _, by repeat (first | (with_reducible first | exact HB.out | apply below_alloc | apply pw_below_drewN | apply below_drew1) | exact HB.out)⟩
   ·
    replace c7 := Bool.eq_false_iff.mpr c7
    subst c7
    have H1 : (petrinetref08_Apply.l0 kj2 l0 l1 ([] : List Int) 0) = some (r1, r2) := by rw [if_neg (show ¬ (false = true) by decide)] at H; exact H
    clear H
    have H := H1
    clear H1
    have H' := Aside0.mk H
    clear H
    go_wp2
    go_loopg [6, 7] kj2 (fun kq v6 v7 w' => ∃ (x6_2 : List Int) (x7_2 : Int), v7 = .int .i64 x7_2 ∧ Aside0 (petrinetref08_Apply.l0 kq l0 l1 x6_2 x7_2 = some (r1, r2)) ∧ Aside0 (kq ≤ kj2) ∧ Aside0 (Kd.R (Kd.int .i64) 2 w' w.heap.size (fun _ => True) v6 x6_2) ∧ Aside0 (Below w.heap.size w w'))
    case atStart => exact ⟨(([] : List Int)), (0), (by first | rfl | (simp; done) | (simp [*]; done)), H', ⟨Nat.le_refl _⟩, ⟨by first | exact Kd.R_nil _ _ _ _ _ | exact Kd.N_nil _ _ _ _ _ | exact Kd.V_nil _ _ _ _ _ | exact Kd.Q_nil _ _ _ _ _ | exact Kd.S_nil _ _ _ _ _⟩, ⟨by repeat (first | (with_reducible first | exact HB.out | apply below_alloc | apply pw_below_drewN | apply below_drew1) | exact HB.out)⟩⟩
    case round =>
     clear H'
     try clear c1
     try clear c2
     try clear p2
     try clear q2
     try clear hx2
     try clear qi2
     try clear c5
     try clear c6
     try clear c6b0
     try clear c6b1
     try clear c7
     try clear hx246_0
     try clear p2
     try clear p246
     try clear q2
     try clear q246
     obtain ⟨x6_2, x7_2, rfl, HA, HK2, HO_6, HB⟩ := hrel
     cases gk with
     | zero => exact absurd HA.out (by simp [petrinetref08_Apply.l0])
     | succ k2 =>
      have H := HA.out
      clear HA
      simp only [petrinetref08_Apply.l0] at H
      by_cases c8 : x7_2 < (l0.length : Int)
      ·
       rw [if_pos c8] at H
       have c8b0 : decide (x7_2 < (l0.length : Int)) = true := decide_eq_true c8
       clear c8
       by_cases c9 : 0 ≤ x7_2
       ·
        rw [if_pos c9] at H
        have c9b0 : decide (0 ≤ x7_2) = true := decide_eq_true c9
        clear c9
        replace H := Option.bind_eq_some_iff.mp H
        obtain ⟨⟨t248, t249⟩, A100, H⟩ := H
        replace H : (if t249 = true then (if x6_2.length < 17592186044416 then (petrinetref08_Apply.l0 k2 l0 l1 (x6_2 ++ [t248]) (wrap64 (x7_2 + 1))) else (none)) else (some (([] : List Int), 3))) = some (r1, r2) := H
        have A10 := Aside0.mk A100
        clear A100
        by_cases c11 : t249 = true
        ·
         subst c11
         have H1 : (if x6_2.length < 17592186044416 then (petrinetref08_Apply.l0 k2 l0 l1 (x6_2 ++ [t248]) (wrap64 (x7_2 + 1))) else (none)) = some (r1, r2) := by rw [if_pos rfl] at H; exact H
         clear H
         have H := H1
         clear H1
         by_cases c12 : x6_2.length < 17592186044416
         ·
          rw [if_pos c12] at H
          have LMc12 := Aside0.mk c12
          clear c12
          obtain ⟨y250, hy250⟩ : ∃ y_ : List Int, y_ = (x6_2 ++ [t248]) := ⟨_, rfl⟩
          replace H : (petrinetref08_Apply.l0 k2 l0 l1 y250 (wrap64 (x7_2 + 1))) = some (r1, r2) := by first | (rw [hy250]; with_reducible exact H) | (have H2_ := (Option.bind_some _ _).symm.trans H; rw [hy250]; with_reducible exact H2_) | (have H2_ := (Option.bind_some _ _).symm.trans H; with_reducible exact H2_) | with_reducible exact H | (rw [hy250]; exact H) | exact H
          have Ny250 := Aside0.mk hy250
          clear hy250
          have H' := Aside0.mk H
          clear H
          have p247 : 0 ≤ (x7_2 : Int) := of_decide_eq_true (by first | (with_reducible assumption) | assumption)
          have q247 : x7_2 < (l0.length : Int) := of_decide_eq_true (by first | (with_reducible assumption) | assumption)
          obtain ⟨ad247, A247_0, c247_0, e247, hx247_0, hl247_0, hi247_0⟩ := at_L1 HR0.out x7_2 p247 q247
          cases e247
          replace hx247_0 := (HB.out.cell (World.block_lt_of_cell? w _ hx247_0)).trans hx247_0
          have HR247_0 := Aside0.mk hi247_0
          have HC247_0 := Aside0.mk hl247_0
          clear hi247_0 hl247_0
          replace p247 := eq_true p247
          replace q247 := eq_true q247
          go_wp2_with (first | ((with_reducible refine gate_callee (f := 37) rfl ?_); refine goesL_ (some 34) rfl rfl Try.func37 (by kernel_rfl) rfl #[.slice A247_0 (rd_L1 l0 x7_2).length c247_0, .slice A1 l1.length c1] rfl (by (try simp only [List.map_toArray, List.map_cons, List.map_nil]); first | done | rfl | (simp only [List.length_drop, List.length_take]; rfl)) ?_; (with_reducible refine (petrinetref08_product.calls k2 _ _ (rd_L1 l0 x7_2) _ _ l1 t248 true _ ?side1 ?side2 ?side3 ?side4 A10.out).mono ?_); (case side1 => repeat (first | exact (Kd.C_below HR247_0.out HB.out) | (with_reducible refine Kd.C_alloc ?_ _) | (with_reducible refine Kd.C_drewN ?_ _) | (with_reducible refine Kd.C_drew ?_))); (case side2 => exact HC247_0.out); (case side3 => repeat (first | exact (Kd.C_below HR1.out HB.out) | (with_reducible refine Kd.C_alloc ?_ _) | (with_reducible refine Kd.C_drewN ?_ _) | (with_reducible refine Kd.C_drew ?_))); (case side4 => exact HC1.out); rintro e w' ⟨rfl, ⟨nd, rfl⟩⟩; refine ⟨_, rfl, ?_⟩) | ((with_reducible refine gate_builtin (b := .append) (xs := #[.tmp 39, .tmp 41]) rfl ?_); (try (refine gate_guard (by rfl) ?_; dsimp only)); at_builtin; refine Kd.R_append (Kd.int .i64) (w0 := w) w.heap.size rfl (.tmp 39) (.tmp 41) 33 2 (.int .i64 0) 8 rfl Try.underlying33 info2 rfl (by decide) (by omega) u6 x6_2 t248 [.int .i64 t248] (fun _ => True) (fun _ => False) rfl rfl ?aP (fun _ hk => hk.elim) ?aF ?aO ?aB ?aS ?aL ?_; (case aP => exact rfl); (case aB => exact (by repeat (first | (with_reducible first | exact HB.out | apply below_alloc | apply pw_below_drewN | apply below_drew1) | exact HB.out))); (case aF => exact (fun _ _ => trivial)); (case aO => exact (by (with_reducible repeat (first | apply Kd.R_alloc | apply Kd.R_drewN | apply Kd.R_drew)); exact HO_6.out)); (case aS => exact (below_size (by repeat (first | (with_reducible first | exact HB.out | apply below_alloc | apply pw_below_drewN | apply below_drew1) | exact HB.out)))); (case aL => have := LMc12.out; omega); intro v251 w13 ho hb hg hat; rw [← Ny250.out] at ho; have n0_ := Aside0.mk (hb); have n1_ := Aside0.mk (ho); clear HB; clear HO_6; have HB := n0_; have HO252 := n1_; clear n0_ n1_; clear ho hb hg hat))
          go_roundg k2
          case measure => have := HJ2.out; have := HK2.out; omega
          case rel => exact ⟨(y250), (wrap64 (x7_2 + 1)), (by first | rfl | (simp; done) | (simp [*]; done)), H', ⟨by have := HJ2.out; have := HK2.out; omega⟩, ⟨by (with_reducible repeat (first | apply Kd.R_alloc | apply Kd.R_drewN | apply Kd.R_drew)); exact HO252.out⟩, ⟨by repeat (first | (with_reducible first | exact HB.out | apply below_alloc | apply pw_below_drewN | apply below_drew1) | exact HB.out)⟩⟩
         ·
          rw [if_neg c12] at H
          exact absurd H (by simp)
        ·
         replace c11 := Bool.eq_false_iff.mpr c11
         subst c11
         have H1 : (some (([] : List Int), 3)) = some (r1, r2) := by rw [if_neg (show ¬ (false = true) by decide)] at H; exact H
         clear H
         have H := H1
         clear H1
         simp only [Option.some.injEq, Prod.mk.injEq] at H
         obtain ⟨rfl, rfl⟩ := H
         have p247 : 0 ≤ (x7_2 : Int) := of_decide_eq_true (by first | (with_reducible assumption) | assumption)
         have q247 : x7_2 < (l0.length : Int) := of_decide_eq_true (by first | (with_reducible assumption) | assumption)
         obtain ⟨ad247, A247_0, c247_0, e247, hx247_0, hl247_0, hi247_0⟩ := at_L1 HR0.out x7_2 p247 q247
         cases e247
         replace hx247_0 := (HB.out.cell (World.block_lt_of_cell? w _ hx247_0)).trans hx247_0
         have HR247_0 := Aside0.mk hi247_0
         have HC247_0 := Aside0.mk hl247_0
         clear hi247_0 hl247_0
         replace p247 := eq_true p247
         replace q247 := eq_true q247
         go_wp2_with (first | ((with_reducible refine gate_callee (f := 37) rfl ?_); refine goesL_ (some 34) rfl rfl Try.func37 (by kernel_rfl) rfl #[.slice A247_0 (rd_L1 l0 x7_2).length c247_0, .slice A1 l1.length c1] rfl (by (try simp only [List.map_toArray, List.map_cons, List.map_nil]); first | done | rfl | (simp only [List.length_drop, List.length_take]; rfl)) ?_; (with_reducible refine (petrinetref08_product.calls k2 _ _ (rd_L1 l0 x7_2) _ _ l1 t248 false _ ?side1 ?side2 ?side3 ?side4 A10.out).mono ?_); (case side1 => repeat (first | exact (Kd.C_below HR247_0.out HB.out) | (with_reducible refine Kd.C_alloc ?_ _) | (with_reducible refine Kd.C_drewN ?_ _) | (with_reducible refine Kd.C_drew ?_))); (case side2 => exact HC247_0.out); (case side3 => repeat (first | exact (Kd.C_below HR1.out HB.out) | (with_reducible refine Kd.C_alloc ?_ _) | (with_reducible refine Kd.C_drewN ?_ _) | (with_reducible refine Kd.C_drew ?_))); (case side4 => exact HC1.out); rintro e w' ⟨rfl, ⟨nd, rfl⟩⟩; refine ⟨_, rfl, ?_⟩))
         go_ret2
         exact ⟨_, by first | rfl | (simp [errW_none, errW_some] <;> rfl) | (simp [*, errW_none, errW_some] <;> rfl), by first | exact Kd.R_nil _ _ _ _ _ | exact Kd.N_nil _ _ _ _ _ | exact Kd.V_nil _ _ _ _ _ | exact Kd.Q_nil _ _ _ _ _ | exact Kd.S_nil _ _ _ _ _, by repeat (first | (with_reducible first | exact HB.out | apply below_alloc | apply pw_below_drewN | apply below_drew1) | exact HB.out)⟩
       ·
        rw [if_neg c9] at H
        exact absurd H (by simp)
      ·
       rw [if_neg c8] at H
       have c8b0 : decide (x7_2 < (l0.length : Int)) = false := decide_eq_false c8
       clear c8
       simp only [Option.some.injEq, Prod.mk.injEq] at H
       obtain ⟨rfl, rfl⟩ := H
       go_wp2
       go_ret2
       exact ⟨_, by first | rfl | (simp [errW_none, errW_some] <;> rfl) | (simp [*, errW_none, errW_some] <;> rfl), by (with_reducible repeat (first | apply Kd.R_alloc | apply Kd.R_drewN | apply Kd.R_drew)); exact HO_6.out, by repeat (first | (with_reducible first | exact HB.out | apply below_alloc | apply pw_below_drewN | apply below_drew1) | exact HB.out)⟩

end Go.Proofs.Ytckefohfahphpaa.Z
end
section
namespace Go.Proofs.Ytckefohfahphpaa.Z
open Go.RowKit Go.Proofs.YtckefohfahphpaaW.PrintWords Go.Proofs.YtckefohfahphpaaW.PrintLast Go.Proofs.YtckefohfahphpaaW.PrintMore
set_option linter.unusedVariables false
set_option linter.unusedSimpArgs false
theorem dotG_code (a b : List Int) (s : Int) : (dotG a b s).2 = 0 ∨ dotG a b s = (0, 3) := by
 induction a generalizing b s with
 | nil => left; simp [dotG]
 | cons x a ih =>
  cases b with
  | nil => left; simp [dotG]
  | cons y b =>
   rw [dotG]
   split
   ·
    split
    ·
     exact ih b _
    ·
     exact .inr rfl
   ·
    exact .inr rfl
theorem dotG_in : ∀ (a b : List Int) (s : Int), in64 s → in64 (dotG a b s).1
 | [], _, _, h => by simpa [dotG] using h
 | _ :: _, [], _, h => by simpa [dotG] using h
 | x :: a, y :: b, s, h => by
  rw [dotG]
  split
  ·
   split
   ·
    exact dotG_in a b _ ‹_›
   ·
    constructor <;> omega
  ·
   constructor <;> omega
def okG (r c : List Int) : Bool := decide ((dotG r c 0).2 = 0)
def valG (r c : List Int) : Int := (dotG r c 0).1
theorem rprod_eq {n k : Nat} {a b : List Int} (ha : okr n a) (hb : okr n b) (hn : n ≤ 64) (hk : 100 ≤ k) : petrinetref08_product.f k a b = some (valG a b, okG a b) := by
 have hal := ha.1
 have hbl := hb.1
 have key : ∀ (d i k : Nat) (s : Int), i + d = n → d + 10 ≤ k → in64 s → petrinetref08_product.l0 k a b s (i : Int) = some ((dotG (a.drop i) (b.drop i) s).1, decide ((dotG (a.drop i) (b.drop i) s).2 = 0)) := by
  intro d
  induction d with
  | zero =>
   intro i k s hi hk hs
   obtain ⟨k, rfl⟩ : ∃ z, k = z + 1 := ⟨k - 1, by omega⟩
   rw [petrinetref08_product.l0, if_neg (by omega), List.drop_of_length_le (by omega), List.drop_of_length_le (by omega)]
   rfl
  | succ d ih =>
   intro i k s hi hk hs
   obtain ⟨k, rfl⟩ : ∃ z, k = z + 1 := ⟨k - 1, by omega⟩
   have hid : i + 1 + d = n := by omega
   have hkd : d + 10 ≤ k := by omega
   have hk3 : 3 ≤ k := by omega
   have hi5 : i ≤ 100000 := by omega
   have t1 : (i : Int) < (a.length : Int) := by omega
   have t2 : (0 : Int) ≤ (i : Int) := by omega
   have t3 : (i : Int) < (b.length : Int) := by omega
   have t4 : i < a.length := by omega
   have t5 : i < b.length := by omega
   obtain ⟨z, hz1, hz2⟩ := rtimes_eq (k := k) (okr_in ha i) (okr_in hb i) hk3
   rw [petrinetref08_product.l0, if_pos t1, if_pos t2, if_pos t3, rd_vec, rd_vec, hz1, drop_vec t4, drop_vec t5, dotG]
   simp only [Option.bind_some]
   by_cases h1 : in64 (vec a i * vec b i)
   ·
    rw [decide_eq_true h1, if_pos rfl, if_pos h1, hz2 h1]
    obtain ⟨y, hy1, hy2⟩ := rplus_eq (k := k) hs h1 (Nat.le_trans (by decide) hk3)
    rw [hy1]
    simp only [Option.bind_some]
    by_cases h2 : in64 (s + vec a i * vec b i)
    ·
     rw [decide_eq_true h2, if_pos rfl, if_pos h2, hy2 h2, wsucc hi5]
     exact ih (i + 1) k _ hid hkd h2
    ·
     rw [decide_eq_false h2, if_neg (by decide), if_neg h2]
     rfl
   ·
    rw [decide_eq_false h1, if_neg (by decide), if_neg h1]
    rfl
 exact key n 0 k 0 (by omega) (by omega) ⟨by omega, by omega⟩
/-- A matrix times a vector. -/
def appG (a : List (List Int)) (x : List Int) : List Int × Int := if a.all (fun r => okG r x) = true then (a.map fun r => valG r x, 0) else ([], 3)
theorem appG_step {rs : List (List Int)} {r x acc : List Int} {X : List Int × Int} (h : X = if rs.all (fun r => okG r x) = true then (acc ++ [valG r x] ++ rs.map fun r => valG r x, 0) else ([], 3)) :
  (if okG r x = true then X else ([], 3)) = if (r :: rs).all (fun r => okG r x) = true then (acc ++ (r :: rs).map fun r => valG r x, 0) else ([], 3) := by
 rw [h]
 by_cases h1 : okG r x = true
 ·
  rw [if_pos h1]
  simp [h1]
 ·
  rw [if_neg h1, if_neg (by simp [h1])]
theorem rapp_l0 {n k : Nat} {a : List (List Int)} {x : List Int} (ha : ∀ r ∈ a, okr n r) (hx : okr n x) (hn : n ≤ 64) (hm : a.length ≤ 64) : ∀ (d i k : Nat) (acc : List Int), i + d = a.length → d + 200 ≤ k → acc.length = i →
  petrinetref08_Apply.l0 k a x acc (i : Int) = some (if (a.drop i).all (fun r => okG r x) = true then (acc ++ (a.drop i).map fun r => valG r x, 0) else ([], 3)) := by
 intro d
 induction d with
 | zero =>
  intro i k acc hi hk hl
  obtain ⟨k, rfl⟩ : ∃ z, k = z + 1 := ⟨k - 1, by omega⟩
  rw [petrinetref08_Apply.l0, if_neg (by omega), List.drop_of_length_le (by omega)]
  simp
 | succ d ih =>
  intro i k acc hi hk hl
  obtain ⟨k, rfl⟩ : ∃ z, k = z + 1 := ⟨k - 1, by omega⟩
  have hr := ha _ (rdL_mem (a := a) (j := (i : Int)) (by omega) (by omega))
  rw [petrinetref08_Apply.l0, if_pos (by omega), if_pos (by omega), rprod_eq hr hx hn (by omega), drop_L1 (by omega), ← appG_step rfl]
  simp only [Option.bind_some]
  by_cases h : okG (rd_L1 a (i : Int)) x = true
  ·
   rw [if_pos h, if_pos h, if_pos (by omega), wsucc (by omega)]
   exact ih (i + 1) k _ (by omega) (by omega) (by simp; omega)
  ·
   rw [if_neg h, if_neg h]
theorem mapp_l0 {n k : Nat} {a : List (List Int)} {x : List Int} (ha : ∀ r ∈ a, okr n r) (hx : okr n x) (hn : n ≤ 64) (hm : a.length ≤ 64) : ∀ (d i k : Nat) (acc : List Int), i + d = a.length → d + 200 ≤ k → acc.length = i →
  matrix_Apply.l0 k x (acc ++ List.replicate d 0) a (a.length : Int) (i : Int) = some (if (a.drop i).all (fun r => okG r x) = true then (acc ++ (a.drop i).map fun r => valG r x, 0) else ([], 3)) := by
 have hxl := hx.1
 intro d
 induction d with
 | zero =>
  intro i k acc hi hk hl
  obtain ⟨k, rfl⟩ : ∃ z, k = z + 1 := ⟨k - 1, by omega⟩
  rw [matrix_Apply.l0, if_neg (by omega), List.drop_of_length_le (by omega)]
  simp
 | succ d ih =>
  intro i k acc hi hk hl
  obtain ⟨k, rfl⟩ : ∃ z, k = z + 1 := ⟨k - 1, by omega⟩
  have hr := ha _ (rdL_mem (a := a) (j := (i : Int)) (by omega) (by omega))
  have hrl := hr.1
  rw [matrix_Apply.l0, if_pos (by omega), if_pos (by omega), if_pos (by omega), vdot_eq hr.2 hx.2 (by omega) k (by omega), if_pos (by omega), drop_L1 (by omega), ← appG_step rfl]
  simp only [Option.bind_some]
  by_cases h : okG (rd_L1 a (i : Int)) x = true
  ·
   have h0 : (dotG (rd_L1 a (i : Int)) x 0).2 = 0 := by unfold okG at h; simpa using h
   rw [if_pos h, if_pos h0, if_pos (by simp; omega), wsucc (by omega), List.replicate_succ, show ((i : Int)).toNat = i from Int.toNat_natCast _]
   have e : (acc ++ 0 :: List.replicate d (0 : Int)).set i (dotG (rd_L1 a (i : Int)) x 0).1 = acc ++ [valG (rd_L1 a (i : Int)) x] ++ List.replicate d 0 := by
    subst hl
    simp [valG]
   rw [e]
   exact ih (i + 1) k _ (by omega) (by omega) (by simp; omega)
  ·
   have h0 : ¬ (dotG (rd_L1 a (i : Int)) x 0).2 = 0 := by unfold okG at h; simpa using h
   rw [if_neg h, if_neg h0]
   rcases dotG_code (rd_L1 a (i : Int)) x 0 with h1 | h1
   ·
    exact absurd h1 h0
   ·
    rw [h1]
def appF (a : List (List Int)) (x : List Int) : List Int × Int := if validB a = true ∧ (rd_L1 a 0).length = x.length then appG a x else ([], 2)
theorem rapp_eq {k : Nat} {a : List (List Int)} {x : List Int} (ha : ∀ r ∈ a, ok64 r) (hx : ok64 x) (hk : 1000 ≤ k) : petrinetref08_Apply.f k a x = some (appF a x) := by
 obtain ⟨k, rfl⟩ : ∃ z, k = z + 1 := ⟨k - 1, by omega⟩
 unfold petrinetref08_Apply.f appF
 rw [rvalid_eq a _ (by omega)]
 simp only [Option.bind_some]
 by_cases hv : validB a = true
 ·
  obtain ⟨n, h1, h2, h3, h4, h5, h6⟩ := validB_iff.mp hv
  rw [if_pos hv, if_pos (by omega), h6]
  by_cases hl : n = x.length
  ·
   rw [if_pos ⟨hv, hl⟩, show (((n : Int) != (x.length : Int)) = false) by rw [bne_eq_false_iff_eq]; omega, petrinetref08_Apply.j0, if_neg (by decide)]
   have := rapp_l0 (k := k) (a := a) (x := x) (n := n) (fun r hr => ⟨h5 r hr, ha r hr⟩) ⟨hl.symm, hx⟩ h4 h2 a.length 0 k [] (by omega) (by omega) rfl
   simpa [appG] using this
  ·
   rw [if_neg (fun h => hl h.2), show (((n : Int) != (x.length : Int)) = true) by rw [bne_iff_ne]; omega, petrinetref08_Apply.j0, if_pos rfl]
 ·
  rw [if_neg hv, if_neg (fun h => hv h.1), petrinetref08_Apply.j0, if_pos rfl]
theorem mapp_eq {k : Nat} {a : List (List Int)} {x : List Int} (ha : ∀ r ∈ a, ok64 r) (hx : ok64 x) (hk : 1000 ≤ k) : matrix_Apply.f k a x = some (appF a x) := by
 obtain ⟨k, rfl⟩ : ∃ z, k = z + 1 := ⟨k - 1, by omega⟩
 unfold matrix_Apply.f appF
 rw [mvalid_eq a _ (by omega)]
 simp only [Option.bind_some]
 by_cases hv : validB a = true
 ·
  obtain ⟨n, h1, h2, h3, h4, h5, h6⟩ := validB_iff.mp hv
  rw [if_pos hv, if_pos (by omega), h6]
  by_cases hl : n = x.length
  ·
   rw [if_pos ⟨hv, hl⟩, show (((n : Int) != (x.length : Int)) = false) by rw [bne_eq_false_iff_eq]; omega, matrix_Apply.j0, if_neg (by decide), if_pos (by omega), if_pos (by omega), show ((a.length : Int)).toNat = a.length from Int.toNat_natCast _]
   have := mapp_l0 (k := k) (a := a) (x := x) (n := n) (fun r hr => ⟨h5 r hr, ha r hr⟩) ⟨hl.symm, hx⟩ h4 h2 a.length 0 k [] (by omega) (by omega) rfl
   simpa [appG] using this
  ·
   rw [if_neg (fun h => hl h.2), show (((n : Int) != (x.length : Int)) = true) by rw [bne_iff_ne]; omega, matrix_Apply.j0, if_pos rfl]
 ·
  rw [if_neg hv, if_neg (fun h => hv h.1), matrix_Apply.j0, if_pos rfl]
theorem appF_len {a : List (List Int)} {x : List Int} : (appF a x).1.length ≤ 64 := by
 unfold appF
 split
 ·
  rename_i h
  obtain ⟨n, h1, h2, _⟩ := validB_iff.mp h.1
  unfold appG
  split
  ·
   simpa using h2
  ·
   simp
 ·
  simp
/-- A matrix times a matrix, given the columns t of the second. -/
def mulG (a t : List (List Int)) : List (List Int) × Int := if (a.all fun r => t.all fun c => okG r c) = true then (a.map fun r => t.map fun c => valG r c, 0) else ([], 3)
theorem mul_row_eq {n k : Nat} {r : List Int} (hr : okr n r) (hn : n ≤ 64) (hk : 200 ≤ k) : ∀ (cs : List (List Int)) (acc : List Int), (∀ c ∈ cs, okr n c) → mul_row k r cs acc = some (if (cs.all fun c => okG r c) = true then (acc ++ cs.map fun c => valG r c, 0) else ([], 3))
 | [], acc, _ => by simp [mul_row]
 | c :: cs, acc, hc => by
  have hc1 := hc c (by simp)
  have h1 := hr.1
  have h2 := hc1.1
  rw [mul_row, vdot_eq hr.2 hc1.2 (by omega) k (by omega), if_pos (by omega)]
  simp only [Option.bind_some]
  by_cases h : okG r c = true
  ·
   have h0 : (dotG r c 0).2 = 0 := by unfold okG at h; simpa using h
   rw [if_pos h0, mul_row_eq hr hn hk cs _ fun c hc' => hc c (by simp [hc'])]
   simp [h, valG]
  ·
   have h0 : ¬ (dotG r c 0).2 = 0 := by unfold okG at h; simpa using h
   rw [if_neg h0, if_neg (by simp [h])]
   rcases dotG_code r c 0 with h1 | h1
   ·
    exact absurd h1 h0
   ·
    rw [h1]
theorem mul_rows_eq {n k : Nat} {t : List (List Int)} (ht : ∀ c ∈ t, okr n c) (hn : n ≤ 64) (hk : 200 ≤ k) : ∀ (rs acc : List (List Int)), (∀ r ∈ rs, okr n r) → mul_rows k t rs acc = some (if (rs.all fun r => t.all fun c => okG r c) = true then (acc ++ rs.map fun r => t.map fun c => valG r c, 0) else ([], 3))
 | [], acc, _ => by simp [mul_rows]
 | r :: rs, acc, hr => by
  rw [mul_rows, mul_row_eq (hr r (by simp)) hn hk t [] ht]
  by_cases h : (t.all fun c => okG r c) = true
  ·
   rw [if_pos h]
   simp only [Option.bind_some, if_true, List.nil_append]
   rw [mul_rows_eq ht hn hk rs _ fun r hr' => hr r (by simp [hr'])]
   simp only [List.all_cons, h, Bool.true_and, List.map_cons, List.append_assoc, List.cons_append, List.nil_append]
  ·
   rw [if_neg h]
   have hno : ¬ ((r :: rs).all fun r => t.all fun c => okG r c) = true := by rw [List.all_cons]; simp [h]
   rw [if_neg hno]
   rfl
end Go.Proofs.Ytckefohfahphpaa.Z
end
section
namespace Go.Proofs.Ytckefohfahphpaa.Z
open Go.RowKit Go.Proofs.YtckefohfahphpaaW.PrintWords Go.Proofs.YtckefohfahphpaaW.PrintLast Go.Proofs.YtckefohfahphpaaW.PrintMore
attribute [local go_sem] max2_int min2_int max_two min_two max_three min_three max_four min_four   -- for this text's walks alone
set_option linter.unusedVariables false
set_option linter.unusedSimpArgs false

/-! ### petrinetref08_Mul: function 23 -/
mutual
def petrinetref08_Mul.j0 : Nat → List (List Int) → List (List Int) → Bool → Option ((List (List Int)) × Int)
 | 0, _, _, _ => none
 | k + 1, x0, x1, x26 => if x26 = true then (some (([] : List (List Int)), 2)) else (petrinetref08_Mul.l0 k x0 x1 ([] : List (List Int)) 0)
def petrinetref08_Mul.l0 : Nat → List (List Int) → List (List Int) → List (List Int) → Int → Option ((List (List Int)) × Int)
 | 0, _, _, _, _ => none
 | k + 1, x0, x1, x6, x7 => if 0 < (x1.length : Int) then (if x7 < ((rd_L1 x1 0).length : Int) then ((petrinetref08_column.f k x1 x7).bind fun t260 => ((petrinetref08_Apply.f k x0 t260).bind fun bt263 => (if bt263.2 = 0 then (if x6.length < 5864062014805 then (petrinetref08_Mul.l0 k x0 x1 (x6 ++ [bt263.1]) (wrap64 (x7 + 1))) else (none)) else (some (([] : List (List Int)), bt263.2))))) else ((petrinetref08_Transpose.f k x6).bind fun t257 => (some (t257, 0)))) else (none)
end
def petrinetref08_Mul.f (k : Nat) (l0 : List (List Int)) (l1 : List (List Int)) : Option ((List (List Int)) × Int) := (petrinetref08_Valid.f k l0).bind fun t253 => (if t253 = true then ((petrinetref08_Valid.f k l1).bind fun t254 => (if t254 = true then (if 0 < (l0.length : Int) then (petrinetref08_Mul.j0 k l0 l1 (((rd_L1 l0 0).length : Int) != (l1.length : Int))) else (none)) else (petrinetref08_Mul.j0 k l0 l1 true))) else (petrinetref08_Mul.j0 k l0 l1 true))
theorem petrinetref08_Mul.mono_l : ∀ k, (∀ y0 y1 y2, LeO (petrinetref08_Mul.j0 k y0 y1 y2) (petrinetref08_Mul.j0 (k + 1) y0 y1 y2)) ∧ (∀ y0 y1 y2 y3, LeO (petrinetref08_Mul.l0 k y0 y1 y2 y3) (petrinetref08_Mul.l0 (k + 1) y0 y1 y2 y3))
 | 0 => ⟨fun _ _ _ r h => by simp [petrinetref08_Mul.j0] at h, fun _ _ _ _ r h => by simp [petrinetref08_Mul.l0] at h⟩
 | k + 1 => by
  obtain ⟨ih0, ih1⟩ := petrinetref08_Mul.mono_l k
  refine ⟨?_, ?_⟩
  ·
   intro y0 y1 y2
   unfold petrinetref08_Mul.j0
   repeat' first
   | (with_reducible exact ih0 _ _ _)
   | (with_reducible exact ih1 _ _ _ _)
   | (with_reducible exact petrinetref08_Apply.mono _ _ _)
   | (with_reducible exact petrinetref08_Transpose.mono _ _)
   | (with_reducible exact petrinetref08_Valid.mono _ _)
   | (with_reducible exact petrinetref08_column.mono _ _ _)
   | (with_reducible exact LeO.refl _)
   | (with_reducible exact LeO.none _)
   | (with_reducible refine LeO.ite ?_ ?_)
   | (with_reducible refine LeO.bind ?_ (fun _ => ?_))
   | exact ih0 _ _ _
   | exact ih1 _ _ _ _
   | exact petrinetref08_Apply.mono _ _ _
   | exact petrinetref08_Transpose.mono _ _
   | exact petrinetref08_Valid.mono _ _
   | exact petrinetref08_column.mono _ _ _
   | exact LeO.none _
   | refine LeO.ite ?_ ?_
   | refine LeO.bind ?_ (fun _ => ?_)
  ·
   intro y0 y1 y2 y3
   unfold petrinetref08_Mul.l0
   repeat' first
   | (with_reducible exact ih0 _ _ _)
   | (with_reducible exact ih1 _ _ _ _)
   | (with_reducible exact petrinetref08_Apply.mono _ _ _)
   | (with_reducible exact petrinetref08_Transpose.mono _ _)
   | (with_reducible exact petrinetref08_Valid.mono _ _)
   | (with_reducible exact petrinetref08_column.mono _ _ _)
   | (with_reducible exact LeO.refl _)
   | (with_reducible exact LeO.none _)
   | (with_reducible refine LeO.ite ?_ ?_)
   | (with_reducible refine LeO.bind ?_ (fun _ => ?_))
   | exact ih0 _ _ _
   | exact ih1 _ _ _ _
   | exact petrinetref08_Apply.mono _ _ _
   | exact petrinetref08_Transpose.mono _ _
   | exact petrinetref08_Valid.mono _ _
   | exact petrinetref08_column.mono _ _ _
   | exact LeO.none _
   | refine LeO.ite ?_ ?_
   | refine LeO.bind ?_ (fun _ => ?_)
theorem petrinetref08_Mul.mono : ∀ a0 a1 k, LeO (petrinetref08_Mul.f k a0 a1) (petrinetref08_Mul.f (k + 1) a0 a1) := by
 intro a0 a1 k
 obtain ⟨ih0, ih1⟩ := petrinetref08_Mul.mono_l k
 unfold petrinetref08_Mul.f
 repeat' first
   | (with_reducible exact ih0 _ _ _)
   | (with_reducible exact ih1 _ _ _ _)
   | (with_reducible exact petrinetref08_Apply.mono _ _ _)
   | (with_reducible exact petrinetref08_Transpose.mono _ _)
   | (with_reducible exact petrinetref08_Valid.mono _ _)
   | (with_reducible exact petrinetref08_column.mono _ _ _)
   | (with_reducible exact LeO.refl _)
   | (with_reducible exact LeO.none _)
   | (with_reducible refine LeO.ite ?_ ?_)
   | (with_reducible refine LeO.bind ?_ (fun _ => ?_))
   | exact ih0 _ _ _
   | exact ih1 _ _ _ _
   | exact petrinetref08_Apply.mono _ _ _
   | exact petrinetref08_Transpose.mono _ _
   | exact petrinetref08_Valid.mono _ _
   | exact petrinetref08_column.mono _ _ _
   | exact LeO.none _
   | refine LeO.ite ?_ ?_
   | refine LeO.bind ?_ (fun _ => ?_)
set_option maxHeartbeats 8000000 in
set_option maxRecDepth 100000 in
theorem petrinetref08_Mul.calls (k : Nat) (A0 : Option Addr) (c0 : Nat) (l0 : List (List Int)) (A1 : Option Addr) (c1 : Nat) (l1 : List (List Int)) (r1 : List (List Int)) (r2 : Int) (w : World) (hr0 : Kd.C (Kd.slice 2 (Kd.int .i64)) w A0 l0.length l0) (hc0 : l0.length ≤ c0) (hr1 : Kd.C (Kd.slice 2 (Kd.int .i64)) w A1 l1.length l1) (hc1 : l1.length ≤ c1) (h : petrinetref08_Mul.f k l0 l1 = some (r1, r2)) :
  Calls Try.prog 23 #[.slice A0 l0.length c0, .slice A1 l1.length c1] w fun e w' => ∃ v0_ : Value, e = .returned (.tuple #[v0_, .int .i64 r2]) ∧ Kd.S (Kd.slice 2 (Kd.int .i64)) 33 w' w.heap.size (fun _ => True) v0_ r1 ∧ Below w.heap.size w w' := by
 have HR0 := Aside0.mk hr0
 have HC0 := Aside0.mk hc0
 clear hr0 hc0
 have HR1 := Aside0.mk hr1
 have HC1 := Aside0.mk hc1
 clear hr1 hc1
 have HB := Aside0.mk (Below.refl w.heap.size w)
 have H : ((petrinetref08_Valid.f k l0).bind fun t253 => (if t253 = true then ((petrinetref08_Valid.f k l1).bind fun t254 => (if t254 = true then (if 0 < (l0.length : Int) then (petrinetref08_Mul.j0 k l0 l1 (((rd_L1 l0 0).length : Int) != (l1.length : Int))) else (none)) else (petrinetref08_Mul.j0 k l0 l1 true))) else (petrinetref08_Mul.j0 k l0 l1 true))) = some (r1, r2) := h
 clear h
 have HC3 := Aside0.mk H
 clear H
 go_enter Try.func23, Try.ntmps23
 go_upto_region 1 with (fail)
 go_cut [26] (fun v26 wc => ∃ (kq : Nat) (x26_2 : Bool), v26 = .bool x26_2 ∧ Aside0 (petrinetref08_Mul.j0 kq l0 l1 x26_2 = some (r1, r2)) ∧ Aside0 (kq ≤ k) ∧ Aside0 (Below w.heap.size w wc))
 case first =>
  have H := HC3.out
  clear HC3
  replace H := Option.bind_eq_some_iff.mp H
  obtain ⟨t253, A40, H⟩ := H
  replace H : (if t253 = true then ((petrinetref08_Valid.f k l1).bind fun t254 => (if t254 = true then (if 0 < (l0.length : Int) then (petrinetref08_Mul.j0 k l0 l1 (((rd_L1 l0 0).length : Int) != (l1.length : Int))) else (none)) else (petrinetref08_Mul.j0 k l0 l1 true))) else (petrinetref08_Mul.j0 k l0 l1 true)) = some (r1, r2) := H
  have A4 := Aside0.mk A40
  clear A40
  by_cases c5 : t253 = true
  ·
   subst c5
   have H1 : ((petrinetref08_Valid.f k l1).bind fun t254 => (if t254 = true then (if 0 < (l0.length : Int) then (petrinetref08_Mul.j0 k l0 l1 (((rd_L1 l0 0).length : Int) != (l1.length : Int))) else (none)) else (petrinetref08_Mul.j0 k l0 l1 true))) = some (r1, r2) := by rw [if_pos rfl] at H; exact H
   clear H
   have H := H1
   clear H1
   replace H := Option.bind_eq_some_iff.mp H
   obtain ⟨t254, A60, H⟩ := H
   replace H : (if t254 = true then (if 0 < (l0.length : Int) then (petrinetref08_Mul.j0 k l0 l1 (((rd_L1 l0 0).length : Int) != (l1.length : Int))) else (none)) else (petrinetref08_Mul.j0 k l0 l1 true)) = some (r1, r2) := H
   have A6 := Aside0.mk A60
   clear A60
   by_cases c7 : t254 = true
   ·
    subst c7
    have H1 : (if 0 < (l0.length : Int) then (petrinetref08_Mul.j0 k l0 l1 (((rd_L1 l0 0).length : Int) != (l1.length : Int))) else (none)) = some (r1, r2) := by rw [if_pos rfl] at H; exact H
    clear H
    have H := H1
    clear H1
    by_cases c8 : 0 < (l0.length : Int)
    ·
     rw [if_pos c8] at H
     have c8b0 : decide (0 < (l0.length : Int)) = true := decide_eq_true c8
     have c8b1 : decide (0 < l0.length) = true := decide_eq_true (by omega)
     clear c8
     (first | rw [c8b0] | (simp only [i64_w, i32_w]; rw [c8b0]) | skip)
     have H' := Aside0.mk H
     clear H
     go_wp2_with (first | ((with_reducible refine gate_callee (f := 10) rfl ?_); refine goesL_ (some 11) rfl rfl Try.func10 (by kernel_rfl) rfl #[.slice A0 l0.length c0] rfl (by (try simp only [List.map_toArray, List.map_cons, List.map_nil]); first | done | rfl | (simp only [List.length_drop, List.length_take]; rfl)) ?_; (with_reducible refine (petrinetref08_Valid.calls k _ _ l0 true _ ?side1 ?side2 A4.out).mono ?_); (case side1 => repeat (first | exact (Kd.C_below HR0.out HB.out) | (with_reducible refine Kd.C_alloc ?_ _) | (with_reducible refine Kd.C_drewN ?_ _) | (with_reducible refine Kd.C_drew ?_))); (case side2 => exact HC0.out); rintro e w' ⟨rfl, ⟨nd, rfl⟩⟩; refine ⟨_, rfl, ?_⟩) | (go_at_call 10; (with_reducible refine (petrinetref08_Valid.calls k _ _ l1 true _ ?side1 ?side2 A6.out).mono ?_); (case side1 => repeat (first | exact (Kd.C_below HR1.out (by repeat (first | (with_reducible first | exact HB.out | apply below_alloc | apply pw_below_drewN | apply below_drew1) | exact HB.out))) | (with_reducible refine Kd.C_alloc ?_ _) | (with_reducible refine Kd.C_drewN ?_ _) | (with_reducible refine Kd.C_drew ?_))); (case side2 => exact HC1.out); rintro e w' ⟨rfl, ⟨nd, rfl⟩⟩; have p255 : 0 ≤ (0 : Int) := (by omega); have q255 : 0 < (l0.length : Int) := of_decide_eq_true (by first | (with_reducible assumption) | assumption); obtain ⟨ad255, A255_0, c255_0, e255, hx255_0, hl255_0, hi255_0⟩ := at_L1 HR0.out 0 p255 q255; cases e255; have qi255 : (0 < l0.length) = True := eq_true (by omega); (try rw [show ((0 : Int)).toNat = 0 from rfl] at hx255_0); (try rw [Addr.add_zero'] at hx255_0); replace hx255_0 := (HB.out.cell (World.block_lt_of_cell? w _ hx255_0)).trans hx255_0; have HR255_0 := Aside0.mk hi255_0; have HC255_0 := Aside0.mk hl255_0; clear hi255_0 hl255_0; replace p255 := eq_true p255; replace q255 := eq_true q255))
     go_meet
     case rel => exact ⟨_, ((((rd_L1 l0 0).length : Int) != (l1.length : Int))), (by first | rfl | (simp; done) | (simp [*]; done)), H', ⟨by first | omega | exact Nat.le_refl _⟩, ⟨by repeat (first | (with_reducible first | exact HB.out | apply below_alloc | apply pw_below_drewN | apply below_drew1) | exact HB.out)⟩⟩
    ·
     rw [if_neg c8] at H
     exact absurd H (by simp)
   ·
    replace c7 := Bool.eq_false_iff.mpr c7
    subst c7
    have H1 : (petrinetref08_Mul.j0 k l0 l1 true) = some (r1, r2) := by rw [if_neg (show ¬ (false = true) by decide)] at H; exact H
    clear H
    have H := H1
    clear H1
    have H' := Aside0.mk H
    clear H
    go_wp2_with (first | ((with_reducible refine gate_callee (f := 10) rfl ?_); refine goesL_ (some 11) rfl rfl Try.func10 (by kernel_rfl) rfl #[.slice A0 l0.length c0] rfl (by (try simp only [List.map_toArray, List.map_cons, List.map_nil]); first | done | rfl | (simp only [List.length_drop, List.length_take]; rfl)) ?_; (with_reducible refine (petrinetref08_Valid.calls k _ _ l0 true _ ?side1 ?side2 A4.out).mono ?_); (case side1 => repeat (first | exact (Kd.C_below HR0.out HB.out) | (with_reducible refine Kd.C_alloc ?_ _) | (with_reducible refine Kd.C_drewN ?_ _) | (with_reducible refine Kd.C_drew ?_))); (case side2 => exact HC0.out); rintro e w' ⟨rfl, ⟨nd, rfl⟩⟩; refine ⟨_, rfl, ?_⟩) | (go_at_call 10; (with_reducible refine (petrinetref08_Valid.calls k _ _ l1 false _ ?side1 ?side2 A6.out).mono ?_); (case side1 => repeat (first | exact (Kd.C_below HR1.out (by repeat (first | (with_reducible first | exact HB.out | apply below_alloc | apply pw_below_drewN | apply below_drew1) | exact HB.out))) | (with_reducible refine Kd.C_alloc ?_ _) | (with_reducible refine Kd.C_drewN ?_ _) | (with_reducible refine Kd.C_drew ?_))); (case side2 => exact HC1.out); rintro e w' ⟨rfl, ⟨nd, rfl⟩⟩))
    go_meet
    case rel => exact ⟨_, (true), (by first | rfl | (simp; done) | (simp [*]; done)), H', ⟨by first | omega | exact Nat.le_refl _⟩, ⟨by repeat (first | (with_reducible first | exact HB.out | apply below_alloc | apply pw_below_drewN | apply below_drew1) | exact HB.out)⟩⟩
  ·
   replace c5 := Bool.eq_false_iff.mpr c5
   subst c5
   have H1 : (petrinetref08_Mul.j0 k l0 l1 true) = some (r1, r2) := by rw [if_neg (show ¬ (false = true) by decide)] at H; exact H
   clear H
   have H := H1
   clear H1
   have H' := Aside0.mk H
   clear H
   go_wp2_with (first | ((with_reducible refine gate_callee (f := 10) rfl ?_); refine goesL_ (some 11) rfl rfl Try.func10 (by kernel_rfl) rfl #[.slice A0 l0.length c0] rfl (by (try simp only [List.map_toArray, List.map_cons, List.map_nil]); first | done | rfl | (simp only [List.length_drop, List.length_take]; rfl)) ?_; (with_reducible refine (petrinetref08_Valid.calls k _ _ l0 false _ ?side1 ?side2 A4.out).mono ?_); (case side1 => repeat (first | exact (Kd.C_below HR0.out HB.out) | (with_reducible refine Kd.C_alloc ?_ _) | (with_reducible refine Kd.C_drewN ?_ _) | (with_reducible refine Kd.C_drew ?_))); (case side2 => exact HC0.out); rintro e w' ⟨rfl, ⟨nd, rfl⟩⟩; refine ⟨_, rfl, ?_⟩))
   go_meet
   case rel => exact ⟨_, (true), (by first | rfl | (simp; done) | (simp [*]; done)), H', ⟨by first | omega | exact Nat.le_refl _⟩, ⟨by repeat (first | (with_reducible first | exact HB.out | apply below_alloc | apply pw_below_drewN | apply below_drew1) | exact HB.out)⟩⟩
 case rest =>
  clear HC3
  try clear c1
  try clear c2
  try clear p2
  try clear q2
  try clear hx2
  try clear qi2
  try clear c5
  try clear c7
  try clear c8
  try clear c8b0
  try clear c8b1
  try clear hx255_0
  try clear p255
  try clear q255
  obtain ⟨kq, x26_2, rfl, HA, HJ2, HB⟩ := hcut
  cases kq with
  | zero => exact absurd HA.out (by simp [petrinetref08_Mul.j0])
  | succ kj2 =>
   have H := HA.out
   clear HA
   simp only [petrinetref08_Mul.j0] at H
   by_cases c9 : x26_2 = true
   ·
    subst c9
    have H1 : (some (([] : List (List Int)), 2)) = some (r1, r2) := by rw [if_pos rfl] at H; exact H
    clear H
    have H := H1
    clear H1
    simp only [Option.some.injEq, Prod.mk.injEq] at H
    obtain ⟨rfl, rfl⟩ := H
    go_wp2
    go_ret2
    exact ⟨_, by first | rfl | (simp [errW_none, errW_some] <;> rfl) | (simp [*, errW_none, errW_some] <;> rfl), by first | exact Kd.S_nil _ _ _ _ _ | exact Kd.N_nil _ _ _ _ _ | exact Kd.V_nil _ _ _ _ _ | exact Kd.Q_nil _ _ _ _ _ | exact Kd.R_nil _ _ _ _ _, by repeat (first | (with_reducible first | exact HB.out | apply below_alloc | apply pw_below_drewN | apply below_drew1) | exact HB.out)⟩
   ·
    replace c9 := Bool.eq_false_iff.mpr c9
    subst c9
    have H1 : (petrinetref08_Mul.l0 kj2 l0 l1 ([] : List (List Int)) 0) = some (r1, r2) := by rw [if_neg (show ¬ (false = true) by decide)] at H; exact H
    clear H
    have H := H1
    clear H1
    have H' := Aside0.mk H
    clear H
    go_wp2
    go_loopg [6, 7] kj2 (fun kq v6 v7 w' => ∃ (x6_2 : List (List Int)) (x7_2 : Int), v7 = .int .i64 x7_2 ∧ Aside0 (petrinetref08_Mul.l0 kq l0 l1 x6_2 x7_2 = some (r1, r2)) ∧ Aside0 (kq ≤ kj2) ∧ Aside0 (Kd.S (Kd.slice 2 (Kd.int .i64)) 33 w' w.heap.size (fun _ => True) v6 x6_2) ∧ Aside0 (Below w.heap.size w w'))
    case atStart => exact ⟨(([] : List (List Int))), (0), (by first | rfl | (simp; done) | (simp [*]; done)), H', ⟨Nat.le_refl _⟩, ⟨by first | exact Kd.S_nil _ _ _ _ _ | exact Kd.N_nil _ _ _ _ _ | exact Kd.V_nil _ _ _ _ _ | exact Kd.Q_nil _ _ _ _ _ | exact Kd.R_nil _ _ _ _ _⟩, ⟨by repeat (first | (with_reducible first | exact HB.out | apply below_alloc | apply pw_below_drewN | apply below_drew1) | exact HB.out)⟩⟩
    case round =>
     clear H'
     try clear c1
     try clear c2
     try clear p2
     try clear q2
     try clear hx2
     try clear qi2
     try clear c5
     try clear c7
     try clear c8
     try clear c8b0
     try clear c8b1
     try clear c9
     try clear hx255_0
     try clear p2
     try clear p255
     try clear q2
     try clear q255
     obtain ⟨x6_2, x7_2, rfl, HA, HK2, HO_6, HB⟩ := hrel
     cases gk with
     | zero => exact absurd HA.out (by simp [petrinetref08_Mul.l0])
     | succ k2 =>
      have H := HA.out
      clear HA
      simp only [petrinetref08_Mul.l0] at H
      by_cases c10 : 0 < (l1.length : Int)
      ·
       rw [if_pos c10] at H
       have c10b0 : decide (0 < (l1.length : Int)) = true := decide_eq_true c10
       have c10b1 : decide (0 < l1.length) = true := decide_eq_true (by omega)
       clear c10
       by_cases c11 : x7_2 < ((rd_L1 l1 0).length : Int)
       ·
        rw [if_pos c11] at H
        have c11b0 : decide (x7_2 < ((rd_L1 l1 0).length : Int)) = true := decide_eq_true c11
        clear c11
        replace H := Option.bind_eq_some_iff.mp H
        obtain ⟨t260, A120, H⟩ := H
        replace H : ((petrinetref08_Apply.f k2 l0 t260).bind fun bt263 => (if bt263.2 = 0 then (if x6_2.length < 5864062014805 then (petrinetref08_Mul.l0 k2 l0 l1 (x6_2 ++ [bt263.1]) (wrap64 (x7_2 + 1))) else (none)) else (some (([] : List (List Int)), bt263.2)))) = some (r1, r2) := H
        have A12 := Aside0.mk A120
        clear A120
        replace H := Option.bind_eq_some_iff.mp H
        obtain ⟨⟨t263, t264⟩, A130, H⟩ := H
        replace H : (if t264 = 0 then (if x6_2.length < 5864062014805 then (petrinetref08_Mul.l0 k2 l0 l1 (x6_2 ++ [t263]) (wrap64 (x7_2 + 1))) else (none)) else (some (([] : List (List Int)), t264))) = some (r1, r2) := H
        have A13 := Aside0.mk A130
        clear A130
        by_cases c14 : t264 = 0
        ·
         rw [if_pos c14] at H
         have c14b0 : (t264 == 0) = true := beq_iff_eq.mpr c14
         have c14b1 : (t264 != 0) = false := bne_eq_false_iff_eq.mpr c14
         clear c14
         by_cases c15 : x6_2.length < 5864062014805
         ·
          rw [if_pos c15] at H
          have LMc15 := Aside0.mk c15
          clear c15
          obtain ⟨y267, hy267⟩ : ∃ y_ : List (List Int), y_ = (x6_2 ++ [t263]) := ⟨_, rfl⟩
          replace H : (petrinetref08_Mul.l0 k2 l0 l1 y267 (wrap64 (x7_2 + 1))) = some (r1, r2) := by first | (rw [hy267]; with_reducible exact H) | (have H2_ := (Option.bind_some _ _).symm.trans H; rw [hy267]; with_reducible exact H2_) | (have H2_ := (Option.bind_some _ _).symm.trans H; with_reducible exact H2_) | with_reducible exact H | (rw [hy267]; exact H) | exact H
          have Ny267 := Aside0.mk hy267
          clear hy267
          have H' := Aside0.mk H
          clear H
          have p256 : 0 ≤ (0 : Int) := (by omega)
          have q256 : 0 < (l1.length : Int) := of_decide_eq_true (by first | (with_reducible assumption) | assumption)
          obtain ⟨ad256, A256_0, c256_0, e256, hx256_0, hl256_0, hi256_0⟩ := at_L1 HR1.out 0 p256 q256
          cases e256
          have qi256 : (0 < l1.length) = True := eq_true (by omega)
          (try rw [show ((0 : Int)).toNat = 0 from rfl] at hx256_0)
          (try rw [Addr.add_zero'] at hx256_0)
          replace hx256_0 := (HB.out.cell (World.block_lt_of_cell? w _ hx256_0)).trans hx256_0
          have HR256_0 := Aside0.mk hi256_0
          have HC256_0 := Aside0.mk hl256_0
          clear hi256_0 hl256_0
          replace p256 := eq_true p256
          replace q256 := eq_true q256
          go_wp2_with (first | ((with_reducible refine gate_callee (f := 35) rfl ?_); refine goesL_ (some 39) rfl rfl Try.func35 (by kernel_rfl) rfl #[.slice (some ad256) l1.length c1, .int .i64 x7_2] rfl (by (try simp only [List.map_toArray, List.map_cons, List.map_nil]); first | done | rfl | (simp only [List.length_drop, List.length_take]; rfl)) ?_; (with_reducible refine (petrinetref08_column.calls k2 _ _ l1 x7_2 t260 _ ?side1 ?side2 A12.out).mono ?_); (case side1 => repeat (first | exact (Kd.C_below HR1.out HB.out) | (with_reducible refine Kd.C_alloc ?_ _) | (with_reducible refine Kd.C_drewN ?_ _) | (with_reducible refine Kd.C_drew ?_))); (case side2 => exact HC1.out); rintro e w16 ⟨v261, rfl, ho0, hb⟩; refine ⟨_, rfl, ?_⟩; have n0_ := Aside0.mk (Kd.S_elder' (by (with_reducible repeat (first | apply Kd.S_alloc | apply Kd.S_drewN | apply Kd.S_drew)); exact HO_6.out) (Kd.R_base ho0) hb); have n1_ := Aside0.mk (Kd.R_lower ho0 (below_size (by repeat (first | (with_reducible first | exact HB.out | apply below_alloc | apply pw_below_drewN | apply below_drew1) | exact HB.out)))); have n2_ := Aside0.mk (below_step (by repeat (first | (with_reducible first | exact HB.out | apply below_alloc | apply pw_below_drewN | apply below_drew1) | exact HB.out)) hb); clear HO_6; clear HB; have HO_6 := n0_; have HO262 := n1_; have HB := n2_; clear n0_ n1_ n2_; (try clear hb); (try clear hb2); (try clear hk); (try clear hi); (try clear ho0); obtain ⟨Ao17, co17, eo17⟩ := Kd.R_slice HO262.out; subst eo17) | ((with_reducible refine gate_callee (f := 24) rfl ?_); refine goesL_ (some 40) rfl rfl Try.func24 (by kernel_rfl) rfl #[.slice A0 l0.length c0, .slice Ao17 t260.length co17] rfl (by (try simp only [List.map_toArray, List.map_cons, List.map_nil]); first | done | rfl | (simp only [List.length_drop, List.length_take]; rfl)) ?_; (with_reducible refine (petrinetref08_Apply.calls k2 _ _ l0 _ _ t260 t263 t264 _ ?side1 ?side2 ?side3 ?side4 A13.out).mono ?_); (case side1 => repeat (first | exact (Kd.C_below HR0.out HB.out) | (with_reducible refine Kd.C_alloc ?_ _) | (with_reducible refine Kd.C_drewN ?_ _) | (with_reducible refine Kd.C_drew ?_))); (case side2 => exact HC0.out); (case side3 => repeat (first | exact (Kd.R_reads' HO262.out).2.2 | (with_reducible refine Kd.C_alloc ?_ _) | (with_reducible refine Kd.C_drewN ?_ _) | (with_reducible refine Kd.C_drew ?_))); (case side4 => exact (Kd.R_reads' HO262.out).2.1); rintro e w18 ⟨v265, rfl, ho0, hb⟩; refine ⟨_, rfl, ?_⟩; have n0_ := Aside0.mk (Kd.S_elder' (by (with_reducible repeat (first | apply Kd.S_alloc | apply Kd.S_drewN | apply Kd.S_drew)); exact HO_6.out) (Kd.R_base ho0) hb); have n1_ := Aside0.mk (Kd.R_elder' (by (with_reducible repeat (first | apply Kd.R_alloc | apply Kd.R_drewN | apply Kd.R_drew)); exact HO262.out) (Kd.R_base ho0) hb); have n2_ := Aside0.mk (Kd.R_lower (Kd.R_new' ho0 (Kd.R_lt (by (with_reducible repeat (first | apply Kd.R_alloc | apply Kd.R_drewN | apply Kd.R_drew)); exact HO262.out))) (below_size (by repeat (first | (with_reducible first | exact HB.out | apply below_alloc | apply pw_below_drewN | apply below_drew1) | exact HB.out)))); have n3_ := Aside0.mk (below_step (by repeat (first | (with_reducible first | exact HB.out | apply below_alloc | apply pw_below_drewN | apply below_drew1) | exact HB.out)) hb); clear HO_6; clear HO262; clear HB; have HO_6 := n0_; have HO262 := n1_; have HO266 := n2_; have HB := n3_; clear n0_ n1_ n2_ n3_; (try clear hb); (try clear hb2); (try clear hk); (try clear hi); (try clear ho0); obtain ⟨Ao20, co20, eo20⟩ := Kd.R_slice HO266.out; subst eo20) | ((with_reducible refine gate_builtin (b := .append) (xs := #[.tmp 46, .tmp 48]) rfl ?_); (try (refine gate_guard (by rfl) ?_; dsimp only)); at_builtin; refine Kd.S_append (Kd.slice 2 (Kd.int .i64)) (w0 := w) w.heap.size rfl (.tmp 46) (.tmp 48) 22 33 (.slice none 0 0) 24 rfl Try.underlying22 info33 rfl (by decide) (by omega) u6 x6_2 t263 [.slice Ao20 t263.length co20] (fun k_ => some k_ ≠ (.slice Ao17 t260.length co17 : Value).ownBlock) (fun k_ => some k_ = (.slice Ao20 t263.length co20 : Value).ownBlock) rfl rfl ?aP (fun k_ hk_ => ((Kd.R_mono (ok' := fun k_ => ((fun k_ => some k_ ≠ (.slice Ao17 t260.length co17 : Value).ownBlock)) k_ ∧ some k_ ≠ (u6 : Value).ownBlock) (Kd.R_apart' (HO266.out) (Kd.S_typed HO_6.out) (by decide)) (fun k_ hk => ⟨hk.1.2, hk.2⟩))).1 k_ hk_.symm) ?aF ?aO ?aB ?aS ?aL ?_; (case aP => exact Kd.M_row (Kd.R_mono (Kd.R_tight rfl (Kd.R_mono (ok' := fun k_ => ((fun k_ => some k_ ≠ (.slice Ao17 t260.length co17 : Value).ownBlock)) k_ ∧ some k_ ≠ (u6 : Value).ownBlock) (Kd.R_apart' (HO266.out) (Kd.S_typed HO_6.out) (by decide)) (fun k_ hk => ⟨hk.1.2, hk.2⟩))) (fun _ h_ => h_))); (case aB => exact (by repeat (first | (with_reducible first | exact HB.out | apply below_alloc | apply pw_below_drewN | apply below_drew1) | exact HB.out))); (case aF => exact (fun k_ hk => Kd.fresh' (Kd.R_lt (by (with_reducible repeat (first | apply Kd.R_alloc | apply Kd.R_drewN | apply Kd.R_drew)); exact HO262.out)) k_ hk)); (case aO => exact (by (with_reducible repeat (first | apply Kd.S_alloc | apply Kd.S_drewN | apply Kd.S_drew)); exact Kd.S_mono HO_6.out (fun k_ hk => ⟨hk.1.2, fun e_ => hk.2 e_⟩))); (case aS => exact (below_size (by repeat (first | (with_reducible first | exact HB.out | apply below_alloc | apply pw_below_drewN | apply below_drew1) | exact HB.out)))); (case aL => have := LMc15.out; omega); intro v268 w19 ho hb hg hat; rw [← Ny267.out] at ho; have n0_ := Aside0.mk (Kd.R_over' (by (with_reducible repeat (first | apply Kd.R_alloc | apply Kd.R_drewN | apply Kd.R_drew)); exact HO262.out) (Kd.S_typed (by (with_reducible repeat (first | apply Kd.S_alloc | apply Kd.S_drewN | apply Kd.S_drew)); exact HO_6.out)) (by decide) hg); have n1_ := Aside0.mk (hb); have n2_ := Aside0.mk (ho); clear HO262; clear HB; clear HO_6; clear HO266; have HO262 := n0_; have HB := n1_; have HO269 := n2_; clear n0_ n1_ n2_; clear ho hb hg hat))
          go_roundg k2
          case measure => have := HJ2.out; have := HK2.out; omega
          case rel => exact ⟨(y267), (wrap64 (x7_2 + 1)), (by first | rfl | (simp; done) | (simp [*]; done)), H', ⟨by have := HJ2.out; have := HK2.out; omega⟩, ⟨by (with_reducible repeat (first | apply Kd.S_alloc | apply Kd.S_drewN | apply Kd.S_drew)); exact Kd.S_mono HO269.out (fun _ hk => trivial)⟩, ⟨by repeat (first | (with_reducible first | exact HB.out | apply below_alloc | apply pw_below_drewN | apply below_drew1) | exact HB.out)⟩⟩
         ·
          rw [if_neg c15] at H
          exact absurd H (by simp)
        ·
         rw [if_neg c14] at H
         have c14b0 : (t264 == 0) = false := beq_eq_false_iff_ne.mpr c14
         have c14b1 : (t264 != 0) = true := bne_iff_ne.mpr c14
         simp only [Option.some.injEq, Prod.mk.injEq] at H
         obtain ⟨rfl, rfl⟩ := H
         have p256 : 0 ≤ (0 : Int) := (by omega)
         have q256 : 0 < (l1.length : Int) := of_decide_eq_true (by first | (with_reducible assumption) | assumption)
         obtain ⟨ad256, A256_0, c256_0, e256, hx256_0, hl256_0, hi256_0⟩ := at_L1 HR1.out 0 p256 q256
         cases e256
         have qi256 : (0 < l1.length) = True := eq_true (by omega)
         (try rw [show ((0 : Int)).toNat = 0 from rfl] at hx256_0)
         (try rw [Addr.add_zero'] at hx256_0)
         replace hx256_0 := (HB.out.cell (World.block_lt_of_cell? w _ hx256_0)).trans hx256_0
         have HR256_0 := Aside0.mk hi256_0
         have HC256_0 := Aside0.mk hl256_0
         clear hi256_0 hl256_0
         replace p256 := eq_true p256
         replace q256 := eq_true q256
         go_wp2_with (first | ((with_reducible refine gate_callee (f := 35) rfl ?_); refine goesL_ (some 39) rfl rfl Try.func35 (by kernel_rfl) rfl #[.slice (some ad256) l1.length c1, .int .i64 x7_2] rfl (by (try simp only [List.map_toArray, List.map_cons, List.map_nil]); first | done | rfl | (simp only [List.length_drop, List.length_take]; rfl)) ?_; (with_reducible refine (petrinetref08_column.calls k2 _ _ l1 x7_2 t260 _ ?side1 ?side2 A12.out).mono ?_); (case side1 => repeat (first | exact (Kd.C_below HR1.out HB.out) | (with_reducible refine Kd.C_alloc ?_ _) | (with_reducible refine Kd.C_drewN ?_ _) | (with_reducible refine Kd.C_drew ?_))); (case side2 => exact HC1.out); rintro e w21 ⟨v261, rfl, ho0, hb⟩; refine ⟨_, rfl, ?_⟩; have n0_ := Aside0.mk (Kd.S_elder' (by (with_reducible repeat (first | apply Kd.S_alloc | apply Kd.S_drewN | apply Kd.S_drew)); exact HO_6.out) (Kd.R_base ho0) hb); have n1_ := Aside0.mk (Kd.R_lower ho0 (below_size (by repeat (first | (with_reducible first | exact HB.out | apply below_alloc | apply pw_below_drewN | apply below_drew1) | exact HB.out)))); have n2_ := Aside0.mk (below_step (by repeat (first | (with_reducible first | exact HB.out | apply below_alloc | apply pw_below_drewN | apply below_drew1) | exact HB.out)) hb); clear HO_6; clear HB; have HO_6 := n0_; have HO262 := n1_; have HB := n2_; clear n0_ n1_ n2_; (try clear hb); (try clear hb2); (try clear hk); (try clear hi); (try clear ho0); obtain ⟨Ao22, co22, eo22⟩ := Kd.R_slice HO262.out; subst eo22) | ((with_reducible refine gate_callee (f := 24) rfl ?_); refine goesL_ (some 40) rfl rfl Try.func24 (by kernel_rfl) rfl #[.slice A0 l0.length c0, .slice Ao22 t260.length co22] rfl (by (try simp only [List.map_toArray, List.map_cons, List.map_nil]); first | done | rfl | (simp only [List.length_drop, List.length_take]; rfl)) ?_; (with_reducible refine (petrinetref08_Apply.calls k2 _ _ l0 _ _ t260 t263 t264 _ ?side1 ?side2 ?side3 ?side4 A13.out).mono ?_); (case side1 => repeat (first | exact (Kd.C_below HR0.out HB.out) | (with_reducible refine Kd.C_alloc ?_ _) | (with_reducible refine Kd.C_drewN ?_ _) | (with_reducible refine Kd.C_drew ?_))); (case side2 => exact HC0.out); (case side3 => repeat (first | exact (Kd.R_reads' HO262.out).2.2 | (with_reducible refine Kd.C_alloc ?_ _) | (with_reducible refine Kd.C_drewN ?_ _) | (with_reducible refine Kd.C_drew ?_))); (case side4 => exact (Kd.R_reads' HO262.out).2.1); rintro e w23 ⟨v265, rfl, ho0, hb⟩; refine ⟨_, rfl, ?_⟩; have n0_ := Aside0.mk (Kd.S_elder' (by (with_reducible repeat (first | apply Kd.S_alloc | apply Kd.S_drewN | apply Kd.S_drew)); exact HO_6.out) (Kd.R_base ho0) hb); have n1_ := Aside0.mk (Kd.R_elder' (by (with_reducible repeat (first | apply Kd.R_alloc | apply Kd.R_drewN | apply Kd.R_drew)); exact HO262.out) (Kd.R_base ho0) hb); have n2_ := Aside0.mk (Kd.R_lower (Kd.R_new' ho0 (Kd.R_lt (by (with_reducible repeat (first | apply Kd.R_alloc | apply Kd.R_drewN | apply Kd.R_drew)); exact HO262.out))) (below_size (by repeat (first | (with_reducible first | exact HB.out | apply below_alloc | apply pw_below_drewN | apply below_drew1) | exact HB.out)))); have n3_ := Aside0.mk (below_step (by repeat (first | (with_reducible first | exact HB.out | apply below_alloc | apply pw_below_drewN | apply below_drew1) | exact HB.out)) hb); clear HO_6; clear HO262; clear HB; have HO_6 := n0_; have HO262 := n1_; have HO266 := n2_; have HB := n3_; clear n0_ n1_ n2_ n3_; (try clear hb); (try clear hb2); (try clear hk); (try clear hi); (try clear ho0)))
         go_ret2
         exact ⟨_, by first | rfl | (simp [errW_none, errW_some] <;> rfl) | (simp [*, errW_none, errW_some] <;> rfl), by first | exact Kd.S_nil _ _ _ _ _ | exact Kd.N_nil _ _ _ _ _ | exact Kd.V_nil _ _ _ _ _ | exact Kd.Q_nil _ _ _ _ _ | exact Kd.R_nil _ _ _ _ _, by repeat (first | (with_reducible first | exact HB.out | apply below_alloc | apply pw_below_drewN | apply below_drew1) | exact HB.out)⟩
       ·
        rw [if_neg c11] at H
        have c11b0 : decide (x7_2 < ((rd_L1 l1 0).length : Int)) = false := decide_eq_false c11
        clear c11
        replace H := Option.bind_eq_some_iff.mp H
        obtain ⟨t257, A240, H⟩ := H
        replace H : (some (t257, 0)) = some (r1, r2) := H
        have A24 := Aside0.mk A240
        clear A240
        simp only [Option.some.injEq, Prod.mk.injEq] at H
        obtain ⟨rfl, rfl⟩ := H
        have p256 : 0 ≤ (0 : Int) := (by omega)
        have q256 : 0 < (l1.length : Int) := of_decide_eq_true (by first | (with_reducible assumption) | assumption)
        obtain ⟨ad256, A256_0, c256_0, e256, hx256_0, hl256_0, hi256_0⟩ := at_L1 HR1.out 0 p256 q256
        cases e256
        have qi256 : (0 < l1.length) = True := eq_true (by omega)
        (try rw [show ((0 : Int)).toNat = 0 from rfl] at hx256_0)
        (try rw [Addr.add_zero'] at hx256_0)
        replace hx256_0 := (HB.out.cell (World.block_lt_of_cell? w _ hx256_0)).trans hx256_0
        have HR256_0 := Aside0.mk hi256_0
        have HC256_0 := Aside0.mk hl256_0
        clear hi256_0 hl256_0
        replace p256 := eq_true p256
        replace q256 := eq_true q256
        obtain ⟨Ao25, co25, eo25⟩ := Kd.S_slice HO_6.out
        subst eo25
        go_wp2_with (first | ((with_reducible refine gate_callee (f := 20) rfl ?_); refine goesL_ (some 51) rfl rfl Try.func20 (by kernel_rfl) rfl #[.slice Ao25 x6_2.length co25] rfl (by (try simp only [List.map_toArray, List.map_cons, List.map_nil]); first | done | rfl | (simp only [List.length_drop, List.length_take]; rfl)) ?_; (with_reducible refine (petrinetref08_Transpose.calls k2 _ _ x6_2 t257 _ ?side1 ?side2 A24.out).mono ?_); (case side1 => repeat (first | exact (Kd.S_reads' HO_6.out).2.2 | (with_reducible refine Kd.C_alloc ?_ _) | (with_reducible refine Kd.C_drewN ?_ _) | (with_reducible refine Kd.C_drew ?_))); (case side2 => exact (Kd.S_reads' HO_6.out).2.1); rintro e w26 ⟨v258, rfl, ho0, hb⟩; refine ⟨_, rfl, ?_⟩; have n0_ := Aside0.mk (Kd.S_elder' (by (with_reducible repeat (first | apply Kd.S_alloc | apply Kd.S_drewN | apply Kd.S_drew)); exact HO_6.out) (Kd.S_base ho0) hb); have n1_ := Aside0.mk (Kd.S_lower (Kd.S_new' ho0 (Kd.S_lt (by (with_reducible repeat (first | apply Kd.S_alloc | apply Kd.S_drewN | apply Kd.S_drew)); exact HO_6.out))) (below_size (by repeat (first | (with_reducible first | exact HB.out | apply below_alloc | apply pw_below_drewN | apply below_drew1) | exact HB.out)))); have n2_ := Aside0.mk (below_step (by repeat (first | (with_reducible first | exact HB.out | apply below_alloc | apply pw_below_drewN | apply below_drew1) | exact HB.out)) hb); clear HO_6; clear HB; have HO_6 := n0_; have HO259 := n1_; have HB := n2_; clear n0_ n1_ n2_; (try clear hb); (try clear hb2); (try clear hk); (try clear hi); (try clear ho0)))
        go_ret2
        exact ⟨_, by first | rfl | (simp [errW_none, errW_some] <;> rfl) | (simp [*, errW_none, errW_some] <;> rfl), by (with_reducible repeat (first | apply Kd.S_alloc | apply Kd.S_drewN | apply Kd.S_drew)); exact Kd.S_mono HO259.out (fun _ hk => trivial), by repeat (first | (with_reducible first | exact HB.out | apply below_alloc | apply pw_below_drewN | apply below_drew1) | exact HB.out)⟩
      ·
       rw [if_neg c10] at H
       exact absurd H (by simp)

end Go.Proofs.Ytckefohfahphpaa.Z
end
section
namespace Go.Proofs.Ytckefohfahphpaa.Z
open Go.RowKit Go.Proofs.YtckefohfahphpaaW.PrintWords Go.Proofs.YtckefohfahphpaaW.PrintLast Go.Proofs.YtckefohfahphpaaW.PrintMore
attribute [local go_sem] max2_int min2_int max_two min_two max_three min_three max_four min_four   -- for this text's walks alone
set_option linter.unusedVariables false
set_option linter.unusedSimpArgs false

/-! ### petrinetlaw08_MatrixProducts: function 8 -/
def petrinetlaw08_MatrixProducts.f (k : Nat) (l0 : List (List Int)) (l1 : List (List Int)) (l2 : List Int) : Option (Bool) := (matrix_Mul.f k l0 l1).bind fun bt270 => ((petrinetref08_Mul.f k l0 l1).bind fun bt274 => ((matrix_Apply.f k l0 l2).bind fun bt278 => ((petrinetref08_Apply.f k l0 l2).bind fun bt282 => ((petrinetref08_Same.f k bt270.1 bt274.1).bind fun t286 => (if t286 = true then (if bt270.2 = bt274.2 then ((petrinetref08_Vectors.f k bt278.1 bt282.1).bind fun t287 => (if t287 = true then (if bt278.2 = bt282.2 then ((petrinetlaw08_exampleHolds.f k).bind fun t288 => (some t288)) else (none)) else (none))) else (none)) else (none))))))
theorem petrinetlaw08_MatrixProducts.mono : ∀ a0 a1 a2 k, LeO (petrinetlaw08_MatrixProducts.f k a0 a1 a2) (petrinetlaw08_MatrixProducts.f (k + 1) a0 a1 a2) := by
 intro a0 a1 a2 k
 unfold petrinetlaw08_MatrixProducts.f
 repeat' first
   | (with_reducible exact matrix_Apply.mono _ _ _)
   | (with_reducible exact matrix_Mul.mono _ _ _)
   | (with_reducible exact petrinetlaw08_exampleHolds.mono _)
   | (with_reducible exact petrinetref08_Apply.mono _ _ _)
   | (with_reducible exact petrinetref08_Mul.mono _ _ _)
   | (with_reducible exact petrinetref08_Same.mono _ _ _)
   | (with_reducible exact petrinetref08_Vectors.mono _ _ _)
   | (with_reducible exact LeO.refl _)
   | (with_reducible exact LeO.none _)
   | (with_reducible refine LeO.ite ?_ ?_)
   | (with_reducible refine LeO.bind ?_ (fun _ => ?_))
   | exact matrix_Apply.mono _ _ _
   | exact matrix_Mul.mono _ _ _
   | exact petrinetlaw08_exampleHolds.mono _
   | exact petrinetref08_Apply.mono _ _ _
   | exact petrinetref08_Mul.mono _ _ _
   | exact petrinetref08_Same.mono _ _ _
   | exact petrinetref08_Vectors.mono _ _ _
   | exact LeO.none _
   | refine LeO.ite ?_ ?_
   | refine LeO.bind ?_ (fun _ => ?_)
set_option maxHeartbeats 8000000 in
set_option maxRecDepth 100000 in
theorem petrinetlaw08_MatrixProducts.calls (k : Nat) (A0 : Option Addr) (c0 : Nat) (l0 : List (List Int)) (A1 : Option Addr) (c1 : Nat) (l1 : List (List Int)) (A2 : Option Addr) (c2 : Nat) (l2 : List Int) (r : Bool) (w : World) (hr0 : Kd.C (Kd.slice 2 (Kd.int .i64)) w A0 l0.length l0) (hc0 : l0.length ≤ c0) (hr1 : Kd.C (Kd.slice 2 (Kd.int .i64)) w A1 l1.length l1) (hc1 : l1.length ≤ c1) (hr2 : Kd.C (Kd.int .i64) w A2 l2.length l2) (hc2 : l2.length ≤ c2) (h : petrinetlaw08_MatrixProducts.f k l0 l1 l2 = some r) :
  Calls Try.prog 8 #[.slice A0 l0.length c0, .slice A1 l1.length c1, .slice A2 l2.length c2] w fun e w' => e = .returned (.bool r) ∧ Below w.heap.size w w' := by
 have HR0 := Aside0.mk hr0
 have HC0 := Aside0.mk hc0
 clear hr0 hc0
 have HR1 := Aside0.mk hr1
 have HC1 := Aside0.mk hc1
 clear hr1 hc1
 have HR2 := Aside0.mk hr2
 have HC2 := Aside0.mk hc2
 clear hr2 hc2
 have HB := Aside0.mk (Below.refl w.heap.size w)
 have H : ((matrix_Mul.f k l0 l1).bind fun bt270 => ((petrinetref08_Mul.f k l0 l1).bind fun bt274 => ((matrix_Apply.f k l0 l2).bind fun bt278 => ((petrinetref08_Apply.f k l0 l2).bind fun bt282 => ((petrinetref08_Same.f k bt270.1 bt274.1).bind fun t286 => (if t286 = true then (if bt270.2 = bt274.2 then ((petrinetref08_Vectors.f k bt278.1 bt282.1).bind fun t287 => (if t287 = true then (if bt278.2 = bt282.2 then ((petrinetlaw08_exampleHolds.f k).bind fun t288 => (some t288)) else (none)) else (none))) else (none)) else (none))))))) = some r := h
 clear h
 replace H := Option.bind_eq_some_iff.mp H
 obtain ⟨⟨t270, t273⟩, A40, H⟩ := H
 replace H : ((petrinetref08_Mul.f k l0 l1).bind fun bt274 => ((matrix_Apply.f k l0 l2).bind fun bt278 => ((petrinetref08_Apply.f k l0 l2).bind fun bt282 => ((petrinetref08_Same.f k t270 bt274.1).bind fun t286 => (if t286 = true then (if t273 = bt274.2 then ((petrinetref08_Vectors.f k bt278.1 bt282.1).bind fun t287 => (if t287 = true then (if bt278.2 = bt282.2 then ((petrinetlaw08_exampleHolds.f k).bind fun t288 => (some t288)) else (none)) else (none))) else (none)) else (none)))))) = some r := H
 have A4 := Aside0.mk A40
 clear A40
 replace H := Option.bind_eq_some_iff.mp H
 obtain ⟨⟨t274, t275⟩, A50, H⟩ := H
 replace H : ((matrix_Apply.f k l0 l2).bind fun bt278 => ((petrinetref08_Apply.f k l0 l2).bind fun bt282 => ((petrinetref08_Same.f k t270 t274).bind fun t286 => (if t286 = true then (if t273 = t275 then ((petrinetref08_Vectors.f k bt278.1 bt282.1).bind fun t287 => (if t287 = true then (if bt278.2 = bt282.2 then ((petrinetlaw08_exampleHolds.f k).bind fun t288 => (some t288)) else (none)) else (none))) else (none)) else (none))))) = some r := H
 have A5 := Aside0.mk A50
 clear A50
 replace H := Option.bind_eq_some_iff.mp H
 obtain ⟨⟨t278, t279⟩, A60, H⟩ := H
 replace H : ((petrinetref08_Apply.f k l0 l2).bind fun bt282 => ((petrinetref08_Same.f k t270 t274).bind fun t286 => (if t286 = true then (if t273 = t275 then ((petrinetref08_Vectors.f k t278 bt282.1).bind fun t287 => (if t287 = true then (if t279 = bt282.2 then ((petrinetlaw08_exampleHolds.f k).bind fun t288 => (some t288)) else (none)) else (none))) else (none)) else (none)))) = some r := H
 have A6 := Aside0.mk A60
 clear A60
 replace H := Option.bind_eq_some_iff.mp H
 obtain ⟨⟨t282, t283⟩, A70, H⟩ := H
 replace H : ((petrinetref08_Same.f k t270 t274).bind fun t286 => (if t286 = true then (if t273 = t275 then ((petrinetref08_Vectors.f k t278 t282).bind fun t287 => (if t287 = true then (if t279 = t283 then ((petrinetlaw08_exampleHolds.f k).bind fun t288 => (some t288)) else (none)) else (none))) else (none)) else (none))) = some r := H
 have A7 := Aside0.mk A70
 clear A70
 replace H := Option.bind_eq_some_iff.mp H
 obtain ⟨t286, A80, H⟩ := H
 replace H : (if t286 = true then (if t273 = t275 then ((petrinetref08_Vectors.f k t278 t282).bind fun t287 => (if t287 = true then (if t279 = t283 then ((petrinetlaw08_exampleHolds.f k).bind fun t288 => (some t288)) else (none)) else (none))) else (none)) else (none)) = some r := H
 have A8 := Aside0.mk A80
 clear A80
 by_cases c9 : t286 = true
 ·
  subst c9
  have H1 : (if t273 = t275 then ((petrinetref08_Vectors.f k t278 t282).bind fun t287 => (if t287 = true then (if t279 = t283 then ((petrinetlaw08_exampleHolds.f k).bind fun t288 => (some t288)) else (none)) else (none))) else (none)) = some r := by rw [if_pos rfl] at H; exact H
  clear H
  have H := H1
  clear H1
  by_cases c10 : t273 = t275
  ·
   rw [if_pos c10] at H
   have c10b0 : (t273 == t275) = true := beq_iff_eq.mpr c10
   have c10b1 : (t273 != t275) = false := bne_eq_false_iff_eq.mpr c10
   clear c10
   replace H := Option.bind_eq_some_iff.mp H
   obtain ⟨t287, A110, H⟩ := H
   replace H : (if t287 = true then (if t279 = t283 then ((petrinetlaw08_exampleHolds.f k).bind fun t288 => (some t288)) else (none)) else (none)) = some r := H
   have A11 := Aside0.mk A110
   clear A110
   by_cases c12 : t287 = true
   ·
    subst c12
    have H1 : (if t279 = t283 then ((petrinetlaw08_exampleHolds.f k).bind fun t288 => (some t288)) else (none)) = some r := by rw [if_pos rfl] at H; exact H
    clear H
    have H := H1
    clear H1
    by_cases c13 : t279 = t283
    ·
     rw [if_pos c13] at H
     have c13b0 : (t279 == t283) = true := beq_iff_eq.mpr c13
     have c13b1 : (t279 != t283) = false := bne_eq_false_iff_eq.mpr c13
     clear c13
     replace H := Option.bind_eq_some_iff.mp H
     obtain ⟨t288, A140, H⟩ := H
     replace H : (some t288) = some r := H
     have A14 := Aside0.mk A140
     clear A140
     obtain rfl := Option.some.inj H
     go_enter Try.func8, Try.ntmps8
     go_wp2_with (first | ((with_reducible refine gate_callee (f := 22) rfl ?_); refine goesL_ (some 18) rfl rfl Try.func22 (by kernel_rfl) rfl #[.slice A0 l0.length c0, .slice A1 l1.length c1] rfl (by (try simp only [List.map_toArray, List.map_cons, List.map_nil]); first | done | rfl | (simp only [List.length_drop, List.length_take]; rfl)) ?_; (with_reducible refine (matrix_Mul.calls k _ _ l0 _ _ l1 t270 t273 _ ?side1 ?side2 ?side3 ?side4 A4.out).mono ?_); (case side1 => repeat (first | exact HR0.out | (with_reducible refine Kd.C_alloc ?_ _) | (with_reducible refine Kd.C_drewN ?_ _) | (with_reducible refine Kd.C_drew ?_))); (case side2 => exact HC0.out); (case side3 => repeat (first | exact HR1.out | (with_reducible refine Kd.C_alloc ?_ _) | (with_reducible refine Kd.C_drewN ?_ _) | (with_reducible refine Kd.C_drew ?_))); (case side4 => exact HC1.out); rintro e w15 ⟨v271, rfl, ho0, hb⟩; refine ⟨_, rfl, ?_⟩; have n0_ := Aside0.mk (Kd.N_lower (Kd.N_mono (ok' := fun k_ => True) ho0 (fun k_ hk_ => trivial)) (below_size (by repeat (first | (with_reducible first | exact HB.out | apply below_alloc | apply pw_below_drewN | apply below_drew1) | exact HB.out)))); have n1_ := Aside0.mk (below_step (by repeat (first | (with_reducible first | exact HB.out | apply below_alloc | apply pw_below_drewN | apply below_drew1) | exact HB.out)) hb); clear HB; have HO272 := n0_; have HB := n1_; clear n0_ n1_; (try clear hb); (try clear hb2); (try clear hk); (try clear hi); (try clear ho0)) | ((with_reducible refine gate_callee (f := 23) rfl ?_); refine goesL_ (some 24) rfl rfl Try.func23 (by kernel_rfl) rfl #[.slice A0 l0.length c0, .slice A1 l1.length c1] rfl (by (try simp only [List.map_toArray, List.map_cons, List.map_nil]); first | done | rfl | (simp only [List.length_drop, List.length_take]; rfl)) ?_; (with_reducible refine (petrinetref08_Mul.calls k _ _ l0 _ _ l1 t274 t275 _ ?side1 ?side2 ?side3 ?side4 A5.out).mono ?_); (case side1 => repeat (first | exact (Kd.C_below HR0.out HB.out) | (with_reducible refine Kd.C_alloc ?_ _) | (with_reducible refine Kd.C_drewN ?_ _) | (with_reducible refine Kd.C_drew ?_))); (case side2 => exact HC0.out); (case side3 => repeat (first | exact (Kd.C_below HR1.out HB.out) | (with_reducible refine Kd.C_alloc ?_ _) | (with_reducible refine Kd.C_drewN ?_ _) | (with_reducible refine Kd.C_drew ?_))); (case side4 => exact HC1.out); rintro e w16 ⟨v276, rfl, ho0, hb⟩; refine ⟨_, rfl, ?_⟩; have n0_ := Aside0.mk (Kd.N_elder' (by (with_reducible repeat (first | apply Kd.N_alloc | apply Kd.N_drewN | apply Kd.N_drew)); exact HO272.out) (Kd.N_base (Kd.S_N (Kd.S_bound ho0))) hb); have n1_ := Aside0.mk (Kd.N_lower (Kd.N_mono (ok' := fun k_ => some k_ ≠ (v271 : Value).ownBlock) (Kd.S_N (Kd.S_bound ho0)) (fun k_ hk_ => (Kd.fresh' (Kd.N_lt (by (with_reducible repeat (first | apply Kd.N_alloc | apply Kd.N_drewN | apply Kd.N_drew)); exact HO272.out)) k_ hk_.2.1))) (below_size (by repeat (first | (with_reducible first | exact HB.out | apply below_alloc | apply pw_below_drewN | apply below_drew1) | exact HB.out)))); have n2_ := Aside0.mk (below_step (by repeat (first | (with_reducible first | exact HB.out | apply below_alloc | apply pw_below_drewN | apply below_drew1) | exact HB.out)) hb); clear HO272; clear HB; have HO272 := n0_; have HO277 := n1_; have HB := n2_; clear n0_ n1_ n2_; (try clear hb); (try clear hb2); (try clear hk); (try clear hi); (try clear ho0)) | ((with_reducible refine gate_callee (f := 21) rfl ?_); refine goesL_ (some 30) rfl rfl Try.func21 (by kernel_rfl) rfl #[.slice A0 l0.length c0, .slice A2 l2.length c2] rfl (by (try simp only [List.map_toArray, List.map_cons, List.map_nil]); first | done | rfl | (simp only [List.length_drop, List.length_take]; rfl)) ?_; (with_reducible refine (matrix_Apply.calls k _ _ l0 _ _ l2 t278 t279 _ ?side1 ?side2 ?side3 ?side4 A6.out).mono ?_); (case side1 => repeat (first | exact (Kd.C_below HR0.out HB.out) | (with_reducible refine Kd.C_alloc ?_ _) | (with_reducible refine Kd.C_drewN ?_ _) | (with_reducible refine Kd.C_drew ?_))); (case side2 => exact HC0.out); (case side3 => repeat (first | exact (Kd.C_below HR2.out HB.out) | (with_reducible refine Kd.C_alloc ?_ _) | (with_reducible refine Kd.C_drewN ?_ _) | (with_reducible refine Kd.C_drew ?_))); (case side4 => exact HC2.out); rintro e w17 ⟨v280, rfl, ho0, hb⟩; refine ⟨_, rfl, ?_⟩; have n0_ := Aside0.mk (Kd.N_elder' (by (with_reducible repeat (first | apply Kd.N_alloc | apply Kd.N_drewN | apply Kd.N_drew)); exact HO272.out) (Kd.R_base ho0) hb); have n1_ := Aside0.mk (Kd.N_elder' (by (with_reducible repeat (first | apply Kd.N_alloc | apply Kd.N_drewN | apply Kd.N_drew)); exact HO277.out) (Kd.R_base ho0) hb); have n2_ := Aside0.mk (Kd.R_lower ho0 (below_size (by repeat (first | (with_reducible first | exact HB.out | apply below_alloc | apply pw_below_drewN | apply below_drew1) | exact HB.out)))); have n3_ := Aside0.mk (below_step (by repeat (first | (with_reducible first | exact HB.out | apply below_alloc | apply pw_below_drewN | apply below_drew1) | exact HB.out)) hb); clear HO272; clear HO277; clear HB; have HO272 := n0_; have HO277 := n1_; have HO281 := n2_; have HB := n3_; clear n0_ n1_ n2_ n3_; (try clear hb); (try clear hb2); (try clear hk); (try clear hi); (try clear ho0)) | ((with_reducible refine gate_callee (f := 24) rfl ?_); refine goesL_ (some 36) rfl rfl Try.func24 (by kernel_rfl) rfl #[.slice A0 l0.length c0, .slice A2 l2.length c2] rfl (by (try simp only [List.map_toArray, List.map_cons, List.map_nil]); first | done | rfl | (simp only [List.length_drop, List.length_take]; rfl)) ?_; (with_reducible refine (petrinetref08_Apply.calls k _ _ l0 _ _ l2 t282 t283 _ ?side1 ?side2 ?side3 ?side4 A7.out).mono ?_); (case side1 => repeat (first | exact (Kd.C_below HR0.out HB.out) | (with_reducible refine Kd.C_alloc ?_ _) | (with_reducible refine Kd.C_drewN ?_ _) | (with_reducible refine Kd.C_drew ?_))); (case side2 => exact HC0.out); (case side3 => repeat (first | exact (Kd.C_below HR2.out HB.out) | (with_reducible refine Kd.C_alloc ?_ _) | (with_reducible refine Kd.C_drewN ?_ _) | (with_reducible refine Kd.C_drew ?_))); (case side4 => exact HC2.out); rintro e w18 ⟨v284, rfl, ho0, hb⟩; refine ⟨_, rfl, ?_⟩; have n0_ := Aside0.mk (Kd.N_elder' (by (with_reducible repeat (first | apply Kd.N_alloc | apply Kd.N_drewN | apply Kd.N_drew)); exact HO272.out) (Kd.R_base ho0) hb); have n1_ := Aside0.mk (Kd.N_elder' (by (with_reducible repeat (first | apply Kd.N_alloc | apply Kd.N_drewN | apply Kd.N_drew)); exact HO277.out) (Kd.R_base ho0) hb); have n2_ := Aside0.mk (Kd.R_elder' (by (with_reducible repeat (first | apply Kd.R_alloc | apply Kd.R_drewN | apply Kd.R_drew)); exact HO281.out) (Kd.R_base ho0) hb); have n3_ := Aside0.mk (Kd.R_lower (Kd.R_new' ho0 (Kd.R_lt (by (with_reducible repeat (first | apply Kd.R_alloc | apply Kd.R_drewN | apply Kd.R_drew)); exact HO281.out))) (below_size (by repeat (first | (with_reducible first | exact HB.out | apply below_alloc | apply pw_below_drewN | apply below_drew1) | exact HB.out)))); have n4_ := Aside0.mk (below_step (by repeat (first | (with_reducible first | exact HB.out | apply below_alloc | apply pw_below_drewN | apply below_drew1) | exact HB.out)) hb); clear HO272; clear HO277; clear HO281; clear HB; have HO272 := n0_; have HO277 := n1_; have HO281 := n2_; have HO285 := n3_; have HB := n4_; clear n0_ n1_ n2_ n3_ n4_; (try clear hb); (try clear hb2); (try clear hk); (try clear hi); (try clear ho0); obtain ⟨Ao19, co19, eo19⟩ := Kd.N_slice HO272.out; subst eo19; obtain ⟨Ao20, co20, eo20⟩ := Kd.N_slice HO277.out; subst eo20) | ((with_reducible refine gate_callee (f := 14) rfl ?_); refine goesL_ (some 41) rfl rfl Try.func14 (by kernel_rfl) rfl #[.slice Ao19 t270.length co19, .slice Ao20 t274.length co20] rfl (by (try simp only [List.map_toArray, List.map_cons, List.map_nil]); first | done | rfl | (simp only [List.length_drop, List.length_take]; rfl)) ?_; (with_reducible refine (petrinetref08_Same.calls k _ _ t270 _ _ t274 true _ ?side1 ?side2 ?side3 ?side4 A8.out).mono ?_); (case side1 => repeat (first | exact (Kd.N_reads' HO272.out).2.2 | (with_reducible refine Kd.C_alloc ?_ _) | (with_reducible refine Kd.C_drewN ?_ _) | (with_reducible refine Kd.C_drew ?_))); (case side2 => exact (Kd.N_reads' HO272.out).2.1); (case side3 => repeat (first | exact (Kd.N_reads' HO277.out).2.2 | (with_reducible refine Kd.C_alloc ?_ _) | (with_reducible refine Kd.C_drewN ?_ _) | (with_reducible refine Kd.C_drew ?_))); (case side4 => exact (Kd.N_reads' HO277.out).2.1); rintro e w' ⟨rfl, ⟨nd, rfl⟩⟩; refine ⟨_, rfl, ?_⟩; obtain ⟨Ao21, co21, eo21⟩ := Kd.R_slice HO281.out; subst eo21; obtain ⟨Ao22, co22, eo22⟩ := Kd.R_slice HO285.out; subst eo22) | (go_at_call 25; (with_reducible refine (petrinetref08_Vectors.calls k _ _ t278 _ _ t282 true _ ?side1 ?side2 ?side3 ?side4 A11.out).mono ?_); (case side1 => repeat (first | exact (Kd.R_reads' HO281.out).2.2 | (with_reducible refine Kd.C_alloc ?_ _) | (with_reducible refine Kd.C_drewN ?_ _) | (with_reducible refine Kd.C_drew ?_))); (case side2 => exact (Kd.R_reads' HO281.out).2.1); (case side3 => repeat (first | exact (Kd.R_reads' HO285.out).2.2 | (with_reducible refine Kd.C_alloc ?_ _) | (with_reducible refine Kd.C_drewN ?_ _) | (with_reducible refine Kd.C_drew ?_))); (case side4 => exact (Kd.R_reads' HO285.out).2.1); rintro e w' ⟨rfl, ⟨nd, rfl⟩⟩) | (go_at_call 11; (with_reducible refine (petrinetlaw08_exampleHolds.calls k  t288 _ A14.out).mono ?_); rintro e w23 ⟨rfl, hb⟩; have n0_ := Aside0.mk (Kd.N_below (by (with_reducible repeat (first | apply Kd.N_alloc | apply Kd.N_drewN | apply Kd.N_drew)); exact HO272.out) hb); have n1_ := Aside0.mk (Kd.N_below (by (with_reducible repeat (first | apply Kd.N_alloc | apply Kd.N_drewN | apply Kd.N_drew)); exact HO277.out) hb); have n2_ := Aside0.mk (Kd.R_below (by (with_reducible repeat (first | apply Kd.R_alloc | apply Kd.R_drewN | apply Kd.R_drew)); exact HO281.out) hb); have n3_ := Aside0.mk (Kd.R_below (by (with_reducible repeat (first | apply Kd.R_alloc | apply Kd.R_drewN | apply Kd.R_drew)); exact HO285.out) hb); have n4_ := Aside0.mk (below_step (by repeat (first | (with_reducible first | exact HB.out | apply below_alloc | apply pw_below_drewN | apply below_drew1) | exact HB.out)) hb); clear HO272; clear HO277; clear HO281; clear HO285; clear HB; have HO272 := n0_; have HO277 := n1_; have HO281 := n2_; have HO285 := n3_; have HB := n4_; clear n0_ n1_ n2_ n3_ n4_; (try clear hb); (try clear hb2); (try clear hk); (try clear hi)))
     go_ret
     exact ⟨by first | rfl | (simp [errW_none, errW_some] <;> rfl) | (simp [*, errW_none, errW_some] <;> rfl), by repeat (first | (with_reducible first | exact HB.out | apply below_alloc | apply pw_below_drewN | apply below_drew1) | exact HB.out)⟩
    ·
     rw [if_neg c13] at H
     exact absurd H (by simp)
   ·
    replace c12 := Bool.eq_false_iff.mpr c12
    subst c12
    have H1 : (none) = some r := by rw [if_neg (show ¬ (false = true) by decide)] at H; exact H
    clear H
    have H := H1
    clear H1
    exact absurd H (by simp)
  ·
   rw [if_neg c10] at H
   exact absurd H (by simp)
 ·
  replace c9 := Bool.eq_false_iff.mpr c9
  subst c9
  have H1 : (none) = some r := by rw [if_neg (show ¬ (false = true) by decide)] at H; exact H
  clear H
  have H := H1
  clear H1
  exact absurd H (by simp)

/-- The one pure statement of petrinetlaw08_MatrixProducts. -/
def petrinetlaw08_MatrixProducts.Pure : Prop := ∀ (x0 : List (List Int)) (x1 : List (List Int)) (x2 : List Int), (fun l => l.length ≤ maxLen ∧ ∀ x ∈ l, (fun l => l.length ≤ maxLen ∧ ∀ x ∈ l, (fun n => (Lit.int .i64 n).wf = true) x) x) x0 → (fun l => l.length ≤ maxLen ∧ ∀ x ∈ l, (fun l => l.length ≤ maxLen ∧ ∀ x ∈ l, (fun n => (Lit.int .i64 n).wf = true) x) x) x1 → (fun l => l.length ≤ maxLen ∧ ∀ x ∈ l, (fun n => (Lit.int .i64 n).wf = true) x) x2 → ∃ k, petrinetlaw08_MatrixProducts.f k x0 x1 x2 = some true

end Go.Proofs.Ytckefohfahphpaa.Z
end
section
namespace Go.Proofs.Ytckefohfahphpaa.Pure
open Go.RowKit Go.Proofs.Ytckefohfahphpaa.Z Go.Proofs.YtckefohfahphpaaW.PrintWords Go.Proofs.YtckefohfahphpaaW.PrintLast Go.Proofs.YtckefohfahphpaaW.PrintMore
set_option linter.unusedVariables false
set_option linter.unusedSimpArgs false
/-! Uses okr_in, trans_row. -/
def mulF (a b : List (List Int)) : List (List Int) × Int := if validB a = true ∧ validB b = true ∧ (rd_L1 a 0).length = b.length then mulG a (transM b) else ([], 2)
theorem trans_cols {b : List (List Int)} (hv : validB b = true) (hb : ∀ r ∈ b, ok64 r) : (transM b).length = (rd_L1 b 0).length ∧ ∀ c ∈ transM b, okr b.length c := by
 refine ⟨by unfold transM; simp, fun c hc => ⟨?_, (trans_valid hv hb).2.1 c hc⟩⟩
 unfold transM at hc
 obtain ⟨k, _, rfl⟩ := List.mem_map.mp hc
 simp [colM]
theorem mmul_eq {K : Nat} {a b : List (List Int)} (ha : ∀ r ∈ a, ok64 r) (hb : ∀ r ∈ b, ok64 r) (hK : 20000 ≤ K) : matrix_Mul.f K a b = some (mulF a b) := by
 unfold matrix_Mul.f mulF
 rw [mvalid_eq a K (by omega), mvalid_eq b K (by omega)]
 simp only [Option.bind_some]
 by_cases hv : validB a = true
 case neg =>
  have : validB a = false := by simpa using hv
  rw [this, if_pos rfl, if_neg (by simp)]
 rw [if_neg (by simp [hv])]
 by_cases hu : validB b = true
 case neg =>
  have : validB b = false := by simpa using hu
  rw [this, if_pos rfl, if_neg (by simp)]
 rw [if_neg (by simp [hu])]
 obtain ⟨n, h1, h2, h3, h4, h5, h6⟩ := validB_iff.mp hv
 obtain ⟨n2, g1, g2, g3, g4, g5, g6⟩ := validB_iff.mp hu
 rw [if_pos (by omega)]
 by_cases hn : (rd_L1 a 0).length = b.length
 case neg => rw [if_neg (by omega), if_neg (fun h => hn h.2.2)]
 obtain ⟨t1, t2⟩ := trans_cols hu hb
 have htr : transG b = transM b := by unfold transG; rw [if_pos hu]
 rw [if_pos (by omega), if_pos ⟨hv, hu, hn⟩, mtrans_eq b K (by omega), htr]
 simp only [Option.bind_some]
 rw [if_pos ⟨h2, by omega⟩, mul_rows_eq (n := b.length) t2 g2 (by omega) a [] fun r hr => ⟨by rw [h5 r hr]; omega, ha r hr⟩]
 rfl
theorem mul_turn {a t : List (List Int)} (ha : 1 ≤ a.length) (ha' : a.length ≤ 64) (ht : 1 ≤ t.length) (ht' : t.length ≤ 64) : transG (t.map fun c => a.map fun r => valG r c) = a.map fun r => t.map fun c => valG r c := by
 obtain ⟨w1, w2⟩ := validB_mk (a := t.map fun c => a.map fun r => valG r c) (n := a.length) (by simpa using ht) (by simpa using ht') ha ha' (fun z hz => by
  obtain ⟨c, _, rfl⟩ := List.mem_map.mp hz
  simp)
 unfold transG
 rw [if_pos w1]
 unfold transM
 rw [w2]
 apply List.ext_getElem (by simp)
 intro i h1 h2
 simp only [List.getElem_map, List.getElem_range, colM, List.map_map]
 apply List.map_congr_left
 intro c _
 simp only [Function.comp]
 have hi : i < a.length := by simpa using h2
 rw [rd_vec, vec_get (by simpa using hi)]
 simp
theorem all_turn (a t : List (List Int)) : (t.all fun c => a.all fun r => okG r c) = (a.all fun r => t.all fun c => okG r c) := by
 rw [Bool.eq_iff_iff]
 simp only [List.all_eq_true]
 exact ⟨fun h r hr c hc => h c hc r hr, fun h c hc r hr => h r hr c hc⟩
theorem rmul_eq {K : Nat} {a b : List (List Int)} (ha : ∀ r ∈ a, ok64 r) (hb : ∀ r ∈ b, ok64 r) (hK : 20000 ≤ K) : petrinetref08_Mul.f K a b = some (mulF a b) := by
 obtain ⟨K, rfl⟩ : ∃ z, K = z + 1 := ⟨K - 1, by omega⟩
 unfold petrinetref08_Mul.f mulF
 rw [rvalid_eq a _ (by omega), rvalid_eq b _ (by omega)]
 simp only [Option.bind_some]
 by_cases hv : validB a = true
 case neg => rw [if_neg hv, if_neg (fun h => hv h.1), petrinetref08_Mul.j0, if_pos rfl]
 rw [if_pos hv]
 by_cases hu : validB b = true
 case neg => rw [if_neg hu, if_neg (fun h => hu h.2.1), petrinetref08_Mul.j0, if_pos rfl]
 rw [if_pos hu]
 obtain ⟨n, h1, h2, h3, h4, h5, h6⟩ := validB_iff.mp hv
 obtain ⟨n2, g1, g2, g3, g4, g5, g6⟩ := validB_iff.mp hu
 rw [if_pos (by omega)]
 by_cases hn : (rd_L1 a 0).length = b.length
 case neg => rw [show ((((rd_L1 a 0).length : Int) != (b.length : Int)) = true) by rw [bne_iff_ne]; omega, if_neg (fun h => hn h.2.2), petrinetref08_Mul.j0, if_pos rfl]
 obtain ⟨t1, t2⟩ := trans_cols hu hb
 rw [show ((((rd_L1 a 0).length : Int) != (b.length : Int)) = false) by rw [bne_eq_false_iff_eq]; omega, if_pos ⟨hv, hu, hn⟩, petrinetref08_Mul.j0, if_neg (by decide)]
 have key : ∀ (d j k : Nat) (acc : List (List Int)), j + d = n2 → d + 15000 ≤ k → acc.length = j → petrinetref08_Mul.l0 k a b acc (j : Int) = some (if (((transM b).drop j).all fun c => a.all fun r => okG r c) = true then (transG (acc ++ ((transM b).drop j).map fun c => a.map fun r => valG r c), 0) else ([], 3)) := by
  intro d
  induction d with
  | zero =>
   intro j k acc hj hk hl
   obtain ⟨k, rfl⟩ : ∃ z, k = z + 1 := ⟨k - 1, by omega⟩
   rw [petrinetref08_Mul.l0, if_pos (by omega), if_neg (by omega), rtrans_eq acc k (by omega), List.drop_of_length_le (by omega)]
   simp
  | succ d ih =>
   intro j k acc hj hk hl
   obtain ⟨k, rfl⟩ : ∃ z, k = z + 1 := ⟨k - 1, by omega⟩
   have hm := rdL_mem (a := transM b) (j := (j : Int)) (by omega) (by omega)
   have hrow := trans_row g6 (show j < n2 by omega)
   have hc := t2 _ hm
   rw [hrow] at hc
   have hcl := hc.1
   rw [petrinetref08_Mul.l0, if_pos (by omega), if_pos (by omega), rcol_eq (by omega) g5 (by omega) (by omega) k (by omega)]
   simp only [Option.bind_some]
   rw [rapp_eq ha hc.2 (by omega), drop_L1 (by omega), hrow]
   simp only [Option.bind_some]
   have eA : appF a (colM b (j : Int)) = appG a (colM b (j : Int)) := by
    unfold appF
    rw [if_pos ⟨hv, by omega⟩]
   rw [eA]
   unfold appG
   by_cases h : (a.all fun r => okG r (colM b (j : Int))) = true
   ·
    rw [if_pos h, if_pos rfl, if_pos (by omega), wsucc (by omega), ih (j + 1) k _ (by omega) (by omega) (by simp; omega)]
    simp only [List.all_cons, h, Bool.true_and, List.map_cons, List.append_assoc, List.cons_append, List.nil_append]
   ·
    rw [if_neg h, if_neg (by decide)]
    have hno : ¬ ((colM b (j : Int) :: (transM b).drop (j + 1)).all fun c => a.all fun r => okG r c) = true := by rw [List.all_cons]; simp [h]
    rw [if_neg hno]
 have h0 := key n2 0 K [] (by omega) (by omega) rfl
 have h0 : petrinetref08_Mul.l0 K a b [] 0 = _ := h0
 rw [h0, List.drop_zero, List.nil_append, mul_turn h1 h2 (by omega) (by omega), all_turn]
 rfl
theorem mulF_len (a b : List (List Int)) : (mulF a b).1.length ≤ 64 ∧ ∀ r ∈ (mulF a b).1, r.length ≤ 64 := by
 unfold mulF
 by_cases h : validB a = true ∧ validB b = true ∧ (rd_L1 a 0).length = b.length
 ·
  rw [if_pos h]
  obtain ⟨n, h1, h2, h3, h4, h5, h6⟩ := validB_iff.mp h.1
  obtain ⟨n2, g1, g2, g3, g4, g5, g6⟩ := validB_iff.mp h.2.1
  have hl : (transM b).length = n2 := by unfold transM; simp; omega
  unfold mulG
  split
  ·
   refine ⟨by simpa using h2, fun r hr => ?_⟩
   simp only [List.mem_map] at hr
   obtain ⟨z, _, rfl⟩ := hr
   simp
   omega
  ·
   simp
 ·
  rw [if_neg h]
  simp
theorem MatrixProducts : petrinetlaw08_MatrixProducts.Pure := by
 intro a b x ha hb hx
 have ha : ∀ r ∈ a, ok64 r := fun r hr => ok64_wf (ha.2 r hr).2
 have hb : ∀ r ∈ b, ok64 r := fun r hr => ok64_wf (hb.2 r hr).2
 have hx : ok64 x := ok64_wf hx.2
 refine ⟨1100000, ?_⟩
 have hl := mulF_len a b
 have hal := appF_len (a := a) (x := x)
 unfold petrinetlaw08_MatrixProducts.f
 rw [mmul_eq ha hb (by omega), rmul_eq ha hb (by omega), mapp_eq ha hx (by omega), rapp_eq ha hx (by omega)]
 simp only [Option.bind_some]
 rw [same_self (by omega) (fun r hr => by have := hl.2 r hr; omega) _ (by omega)]
 simp only [Option.bind_some, if_true]
 rw [vectors_self (by omega) _ (by omega)]
 simp only [Option.bind_some, if_true]
 rw [example_eq _ (by omega)]
 rfl
end Go.Proofs.Ytckefohfahphpaa.Pure
end
section
namespace Go.Proofs.Ytckefohfahphpaa.matrixProducts
open Go.ChangeShapes Go.WideShapes Go.ChangeAt Go.RowKit Go.Proofs.Ytckefohfahphpaa.Z Go.Proofs.YtckefohfahphpaaW.PrintWords
open Go.ChangeMaps (open_string shut_string)
set_option linter.unusedVariables false
theorem own : ownKnob Try.prog.godebug = none := by kernel_rfl
theorem laidOut : laidOutB Try.prog = true := by kernel_rfl
set_option maxRecDepth 100000 in
theorem lifted (os : Os) (started : os.Started) (H : Type) (enc : TypeId × Value → H) :
  ReturnsInHanded {} Try.checked os 8 .any (Rows.matrixProductsSpec.pre6 enc Try.prog Try.f8 Rows.matrixProductsRow.domain false) (Rows.matrixProductsSpec.post enc Try.prog Try.f8 false true false false) := by
 refine returnsInHanded_of_change_sized (C := Try.checked) own started (by kernel_rfl) Try.func8
  (ChangeSpec.witness6 (enc := enc) (C := Try.checked) false ⟨#[], #[.slice none 0 0, .slice none 0 0, .slice none 0 0], []⟩ 8 (by kernel_rfl) (by kernel_rfl) (by kernel_rfl) (by kernel_rfl)) ?_
 intro W base args ds gs before hval0 hW hcnd hsz0 _
 have hval : ∀ (j : Nat) t v, Try.f8.params[j]? = some t → args[j]? = some v → Value.okWide Try.prog W .any base t v := hval0
 have hW' := hW
 obtain ⟨p, q, hA0, hV, rfl, hfz, hnd⟩ := hW
 have hA : DataW.TrodAll enc Try.prog W 0 (fun _ => true) true Try.f8.params.toList args.toList ds p := hA0
 rw [Try.params8] at hA hval
 obtain ⟨v0, vs0, d0, ds0, p0, q0, hargs, rfl, rfl, h0, r0⟩ := trodAll_cons hA
 obtain ⟨v1, vs1, d1, ds1, p1, q1, rfl, rfl, rfl, h1, r1⟩ := trodAll_cons r0
 obtain ⟨v2, vs2, d2, ds2, p2, q2, rfl, rfl, rfl, h2, r2⟩ := trodAll_cons r1
 obtain ⟨rfl, rfl, rfl⟩ := trodAll_nil r2
 obtain rfl : args = #[v0, v1, v2] := by cases args; simp_all
 obtain ⟨rfl, rfl⟩ := trodVars_none hV
 have k0 := h0
 have lt0 : ∀ x ∈ p0, x.block < W.heap.size := by obtain ⟨m, hm⟩ := k0; exact DataW.trod_lt m _ _ _ hm
 obtain ⟨a0, len0, cap0, rfl⟩ := okWide_slice Try.underlying22 (hval 0 22 v0 rfl rfl)
 obtain ⟨fuel0, hf0⟩ := h0
 obtain ⟨x0, ⟨A0, c0, hc0, hl0, hC0⟩, w0⟩ := (opens_slice Try.underlying22 (by kernel_rfl) (opens_slice Try.underlying33 (by kernel_rfl) (opens_int Try.underlying2))) hf0
 simp only [Value.cells, List.cons.injEq, Value.slice.injEq, and_true] at hc0
 obtain ⟨rfl, rfl, rfl⟩ := hc0
 have k1 := h1
 have lt1 : ∀ x ∈ p1, x.block < W.heap.size := by obtain ⟨m, hm⟩ := k1; exact DataW.trod_lt m _ _ _ hm
 obtain ⟨a1, len1, cap1, rfl⟩ := okWide_slice Try.underlying22 (hval 1 22 v1 rfl rfl)
 obtain ⟨fuel1, hf1⟩ := h1
 obtain ⟨x1, ⟨A1, c1, hc1, hl1, hC1⟩, w1⟩ := (opens_slice Try.underlying22 (by kernel_rfl) (opens_slice Try.underlying33 (by kernel_rfl) (opens_int Try.underlying2))) hf1
 simp only [Value.cells, List.cons.injEq, Value.slice.injEq, and_true] at hc1
 obtain ⟨rfl, rfl, rfl⟩ := hc1
 have k2 := h2
 have lt2 : ∀ x ∈ p2, x.block < W.heap.size := by obtain ⟨m, hm⟩ := k2; exact DataW.trod_lt m _ _ _ hm
 obtain ⟨a2, len2, cap2, rfl⟩ := okWide_slice Try.underlying33 (hval 2 33 v2 rfl rfl)
 obtain ⟨fuel2, hf2⟩ := h2
 obtain ⟨x2, ⟨A2, c2, hc2, hl2, hC2⟩, w2⟩ := (opens_slice Try.underlying33 (by kernel_rfl) (opens_int Try.underlying2)) hf2
 simp only [Value.cells, List.cons.injEq, Value.slice.injEq, and_true] at hc2
 obtain ⟨rfl, rfl, rfl⟩ := hc2
 clear hA0 hval0 hsz0
 obtain ⟨k, hP⟩ := Pure.MatrixProducts x0 x1 x2 w0 w1 w2
 refine (petrinetlaw08_MatrixProducts.calls k _ _ x0 _ _ x1 _ _ x2 true W hC0 hl0 hC1 hl1 hC2 hl2 hP).mono fun e W' ⟨he, bel⟩ => ?_
 subst he
 exact ⟨_, rfl, _, _, _, [], _, [], hW', trodAll_mk1 (shut_bool Try.underlying4 _), (trodAll_cons_mk (Below.trod laidOut (by kernel_rfl) (of_decide_eq_true (by kernel_rfl)) k0 bel lt0) (trodAll_cons_mk (Below.trod laidOut (by kernel_rfl) (of_decide_eq_true (by kernel_rfl)) k1 bel lt1) (trodAll_cons_mk (Below.trod laidOut (by kernel_rfl) (of_decide_eq_true (by kernel_rfl)) k2 bel lt2) trodAll_mk0))), rfl, bel.frame _, fun h => by cases h⟩
theorem over : Rows.matrixProductsRow.holds Try.pinned (OpenSpec.ofChange Rows.matrixProductsSpec) :=
 OpenClaim.holds_of_wide 8 Try.f8 rfl rfl rfl rfl rfl rfl rfl ⟨rfl, rfl, rfl, rfl, rfl⟩ rfl rfl rfl rfl rfl (by kernel_rfl) Try.func8 (by kernel_rfl)
  (of_decide_eq_true (by kernel_rfl)) (by unfold Func.isWrapper; first | (rw [if_pos (by decide +kernel)]; kernel_rfl) | (rw [if_neg (by decide +kernel)]; exact ⟨rfl, rfl⟩))
  (fun os started H enc _ => lifted os started H enc)
theorem proved : Rows.MatrixProductsSaid := over
#print axioms proved
end Go.Proofs.Ytckefohfahphpaa.matrixProducts
namespace Go.Proofs.Ytckefohfahphpaa
/-- The row, under a short name, for the claim. -/
theorem matrixProducts_holds : Rows.MatrixProductsSaid := matrixProducts.proved
end Go.Proofs.Ytckefohfahphpaa
end
