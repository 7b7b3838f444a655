/- The machine's side: plain Lean functions for the Go functions, each with its contract. Written by a program of this session (wip/xprint.py). -/
import Derived.Test.YtojpjknjoikdgaaZx0
import Derived.Test.YtojpjknjoikdgaaZx7
import Derived.Test.YtojpjknjoikdgaaZx9
import Derived.Test.YtojpjknjoikdgaaZx21
import Derived.Test.YtojpjknjoikdgaaZx23
namespace Go.Proofs.Ytojpjknjoikdgaa.Z
open Go.RowKit Go.Proofs.YtojpjknjoikdgaaW.PrintWords Go.Proofs.YtojpjknjoikdgaaW.PrintLast Go.Proofs.YtojpjknjoikdgaaW.PrintMore
attribute [local go_sem] max2_int min2_int max_two min_two max_three min_three max_four min_four   -- for this text's walks alone
set_option linter.unusedVariables false
set_option linter.unusedSimpArgs false

/-! ### petrinetlaw03_VectorPrimitive: function 9 -/
mutual
def petrinetlaw03_VectorPrimitive.l0 : Nat → List Int → List Int → Int → Int → Int → Option (Bool)
  | 0, _, _, _, _, _ => none
  | k + 1, x0, x3, x5, x6, x7 => if x7 < (x0.length : Int) then (if 0 ≤ x7 then (if x7 < (x3.length : Int) then (if (rd x3 x7) = 0 then (if (rd x0 x7) = 0 then (if (rd x3 x7) > 1048576 then (none) else (if (rd x3 x7) < (-1048576) then (none) else ((petrinetlaw03_gcd.f k x5 (mx (rd x3 x7) (wrap64 (-(rd x3 x7))))).bind fun t445 => (if x6 = 0 then (petrinetlaw03_VectorPrimitive.l0 k x0 x3 t445 x6 (wrap64 (x7 + 1))) else (petrinetlaw03_VectorPrimitive.l0 k x0 x3 t445 x6 (wrap64 (x7 + 1))))))) else (none)) else (if (rd x0 x7) = 0 then (none) else (if (rd x3 x7) > 1048576 then (none) else (if (rd x3 x7) < (-1048576) then (none) else ((petrinetlaw03_gcd.f k x5 (mx (rd x3 x7) (wrap64 (-(rd x3 x7))))).bind fun t451 => (if x6 = 0 then (petrinetlaw03_VectorPrimitive.l0 k x0 x3 t451 (wrap64 (Int.tdiv (rd x0 x7) (rd x3 x7))) (wrap64 (x7 + 1))) else (petrinetlaw03_VectorPrimitive.l0 k x0 x3 t451 x6 (wrap64 (x7 + 1))))))))) else (none)) else (none)) else (if x6 < 0 then (none) else (if x6 > 1048576 then (none) else (petrinetlaw03_VectorPrimitive.l1 k x0 x3 x5 x6 0)))
def petrinetlaw03_VectorPrimitive.l1 : Nat → List Int → List Int → Int → Int → Int → Option (Bool)
  | 0, _, _, _, _, _ => none
  | k + 1, x0, x3, x5, x6, x8 => if x8 < (x0.length : Int) then (if 0 ≤ x8 then (if x8 < (x3.length : Int) then (if (wrap64 ((rd x3 x8) * x6)) = (rd x0 x8) then (petrinetlaw03_VectorPrimitive.l1 k x0 x3 x5 x6 (wrap64 (x8 + 1))) else (none)) else (none)) else (none)) else (if x6 = 0 then (if x5 = 0 then (some true) else (if x6 > 0 then (some (x5 == 1)) else (none))) else (if x6 > 0 then (some (x5 == 1)) else (none)))
end
def petrinetlaw03_VectorPrimitive.f (k : Nat) (l0 : List Int) : Option (Bool) := (petrinetlaw03_lives.f k).bind fun t433 => (if t433 = true then ((petrinetlaw03_small.f k l0).bind fun t434 => (if t434 = true then ((vector_Prim.f k l0).bind fun bt435 => (if bt435.2 = 0 then (if (bt435.1.length : Int) = (l0.length : Int) then (petrinetlaw03_VectorPrimitive.l0 k l0 bt435.1 0 0 0) else (none)) else (none))) else (some true))) else (none))
theorem petrinetlaw03_VectorPrimitive.mono_l : ∀ k, (∀ y0 y1 y2 y3 y4, LeO (petrinetlaw03_VectorPrimitive.l0 k y0 y1 y2 y3 y4) (petrinetlaw03_VectorPrimitive.l0 (k + 1) y0 y1 y2 y3 y4)) ∧ (∀ y0 y1 y2 y3 y4, LeO (petrinetlaw03_VectorPrimitive.l1 k y0 y1 y2 y3 y4) (petrinetlaw03_VectorPrimitive.l1 (k + 1) y0 y1 y2 y3 y4))
  | 0 => ⟨fun _ _ _ _ _ r h => by simp [petrinetlaw03_VectorPrimitive.l0] at h, fun _ _ _ _ _ r h => by simp [petrinetlaw03_VectorPrimitive.l1] at h⟩
  | k + 1 => by
    obtain ⟨ih0, ih1⟩ := petrinetlaw03_VectorPrimitive.mono_l k
    refine ⟨?_, ?_⟩
    · intro y0 y1 y2 y3 y4
      unfold petrinetlaw03_VectorPrimitive.l0
      repeat' first
      | (with_reducible exact ih0 _ _ _ _ _)
      | (with_reducible exact ih1 _ _ _ _ _)
      | (with_reducible exact petrinetlaw03_gcd.mono _ _ _)
      | (with_reducible exact petrinetlaw03_lives.mono _)
      | (with_reducible exact petrinetlaw03_small.mono _ _)
      | (with_reducible exact vector_Prim.mono _ _)
      | (with_reducible exact LeO.refl _)
      | (with_reducible exact LeO.none _)
      | (with_reducible refine LeO.ite ?_ ?_)
      | (with_reducible refine LeO.bind ?_ (fun _ => ?_))
      | exact ih0 _ _ _ _ _
      | exact ih1 _ _ _ _ _
      | exact petrinetlaw03_gcd.mono _ _ _
      | exact petrinetlaw03_lives.mono _
      | exact petrinetlaw03_small.mono _ _
      | exact vector_Prim.mono _ _
      | exact LeO.none _
      | refine LeO.ite ?_ ?_
      | refine LeO.bind ?_ (fun _ => ?_)
    · intro y0 y1 y2 y3 y4
      unfold petrinetlaw03_VectorPrimitive.l1
      repeat' first
      | (with_reducible exact ih0 _ _ _ _ _)
      | (with_reducible exact ih1 _ _ _ _ _)
      | (with_reducible exact petrinetlaw03_gcd.mono _ _ _)
      | (with_reducible exact petrinetlaw03_lives.mono _)
      | (with_reducible exact petrinetlaw03_small.mono _ _)
      | (with_reducible exact vector_Prim.mono _ _)
      | (with_reducible exact LeO.refl _)
      | (with_reducible exact LeO.none _)
      | (with_reducible refine LeO.ite ?_ ?_)
      | (with_reducible refine LeO.bind ?_ (fun _ => ?_))
      | exact ih0 _ _ _ _ _
      | exact ih1 _ _ _ _ _
      | exact petrinetlaw03_gcd.mono _ _ _
      | exact petrinetlaw03_lives.mono _
      | exact petrinetlaw03_small.mono _ _
      | exact vector_Prim.mono _ _
      | exact LeO.none _
      | refine LeO.ite ?_ ?_
      | refine LeO.bind ?_ (fun _ => ?_)
theorem petrinetlaw03_VectorPrimitive.mono : ∀ a0 k, LeO (petrinetlaw03_VectorPrimitive.f k a0) (petrinetlaw03_VectorPrimitive.f (k + 1) a0) := by
  intro a0 k
  obtain ⟨ih0, ih1⟩ := petrinetlaw03_VectorPrimitive.mono_l k
  unfold petrinetlaw03_VectorPrimitive.f
  repeat' first
      | (with_reducible exact ih0 _ _ _ _ _)
      | (with_reducible exact ih1 _ _ _ _ _)
      | (with_reducible exact petrinetlaw03_gcd.mono _ _ _)
      | (with_reducible exact petrinetlaw03_lives.mono _)
      | (with_reducible exact petrinetlaw03_small.mono _ _)
      | (with_reducible exact vector_Prim.mono _ _)
      | (with_reducible exact LeO.refl _)
      | (with_reducible exact LeO.none _)
      | (with_reducible refine LeO.ite ?_ ?_)
      | (with_reducible refine LeO.bind ?_ (fun _ => ?_))
      | exact ih0 _ _ _ _ _
      | exact ih1 _ _ _ _ _
      | exact petrinetlaw03_gcd.mono _ _ _
      | exact petrinetlaw03_lives.mono _
      | exact petrinetlaw03_small.mono _ _
      | exact vector_Prim.mono _ _
      | exact LeO.none _
      | refine LeO.ite ?_ ?_
      | refine LeO.bind ?_ (fun _ => ?_)
set_option maxHeartbeats 8000000 in
set_option maxRecDepth 100000 in
theorem petrinetlaw03_VectorPrimitive.calls (k : Nat) (A0 : Option Addr) (c0 : Nat) (l0 : List Int) (r : Bool) (w : World) (hr0 : Kd.C (Kd.int .i64) w A0 l0.length l0) (hc0 : l0.length ≤ c0) (h : petrinetlaw03_VectorPrimitive.f k l0 = some r) :
    Calls Try.prog 9 #[.slice A0 l0.length c0] w fun e w' => e = .returned (.bool r) ∧ Below w.heap.size w w' := by
  have HR0 := Aside0.mk hr0
  have HC0 := Aside0.mk hc0
  clear hr0 hc0
  have HB := Aside0.mk (Below.refl w.heap.size w)
  have H : ((petrinetlaw03_lives.f k).bind fun t433 => (if t433 = true then ((petrinetlaw03_small.f k l0).bind fun t434 => (if t434 = true then ((vector_Prim.f k l0).bind fun bt435 => (if bt435.2 = 0 then (if (bt435.1.length : Int) = (l0.length : Int) then (petrinetlaw03_VectorPrimitive.l0 k l0 bt435.1 0 0 0) else (none)) else (none))) else (some true))) else (none))) = some r := h
  clear h
  replace H := Option.bind_eq_some_iff.mp H
  obtain ⟨t433, A20, H⟩ := H
  replace H : (if t433 = true then ((petrinetlaw03_small.f k l0).bind fun t434 => (if t434 = true then ((vector_Prim.f k l0).bind fun bt435 => (if bt435.2 = 0 then (if (bt435.1.length : Int) = (l0.length : Int) then (petrinetlaw03_VectorPrimitive.l0 k l0 bt435.1 0 0 0) else (none)) else (none))) else (some true))) else (none)) = some r := H
  have A2 := Aside0.mk A20
  clear A20
  by_cases c3 : t433 = true
  · subst c3
    have H1 : ((petrinetlaw03_small.f k l0).bind fun t434 => (if t434 = true then ((vector_Prim.f k l0).bind fun bt435 => (if bt435.2 = 0 then (if (bt435.1.length : Int) = (l0.length : Int) then (petrinetlaw03_VectorPrimitive.l0 k l0 bt435.1 0 0 0) else (none)) else (none))) else (some true))) = some r := by rw [if_pos rfl] at H; exact H
    clear H
    have H := H1
    clear H1
    replace H := Option.bind_eq_some_iff.mp H
    obtain ⟨t434, A40, H⟩ := H
    replace H : (if t434 = true then ((vector_Prim.f k l0).bind fun bt435 => (if bt435.2 = 0 then (if (bt435.1.length : Int) = (l0.length : Int) then (petrinetlaw03_VectorPrimitive.l0 k l0 bt435.1 0 0 0) else (none)) else (none))) else (some true)) = some r := H
    have A4 := Aside0.mk A40
    clear A40
    by_cases c5 : t434 = true
    · subst c5
      have H1 : ((vector_Prim.f k l0).bind fun bt435 => (if bt435.2 = 0 then (if (bt435.1.length : Int) = (l0.length : Int) then (petrinetlaw03_VectorPrimitive.l0 k l0 bt435.1 0 0 0) else (none)) else (none))) = some r := by rw [if_pos rfl] at H; exact H
      clear H
      have H := H1
      clear H1
      replace H := Option.bind_eq_some_iff.mp H
      obtain ⟨⟨t435, t436⟩, A60, H⟩ := H
      replace H : (if t436 = 0 then (if (t435.length : Int) = (l0.length : Int) then (petrinetlaw03_VectorPrimitive.l0 k l0 t435 0 0 0) else (none)) else (none)) = some r := H
      have A6 := Aside0.mk A60
      clear A60
      by_cases c7 : t436 = 0
      · rw [if_pos c7] at H
        have c7b0 : (t436 == 0) = true := beq_iff_eq.mpr c7
        have c7b1 : (t436 != 0) = false := bne_eq_false_iff_eq.mpr c7
        clear c7
        by_cases c8 : (t435.length : Int) = (l0.length : Int)
        · rw [if_pos c8] at H
          have c8b0 : ((t435.length : Int) == (l0.length : Int)) = true := beq_iff_eq.mpr c8
          have c8b1 : ((t435.length : Int) != (l0.length : Int)) = false := bne_eq_false_iff_eq.mpr c8
          have c8b2 : (t435.length == l0.length) = true := by first | simpa using c8 | (simp at c8 ⊢; omega)
          clear c8
          have H' := Aside0.mk H
          clear H
          go_enter Try.func9, Try.ntmps9
          go_wp2_with (first | (go_at_call 11; (with_reducible refine (petrinetlaw03_lives.calls k  true _ A2.out).mono ?_); rintro e w9 ⟨rfl, hb⟩; have n0_ := Aside0.mk (below_step (by repeat (first | (with_reducible first | exact HB.out | apply below_alloc | apply pw_below_drewN | apply below_drew1) | exact HB.out)) hb); clear HB; have HB := n0_; clear n0_; (try clear hb); (try clear hb2); (try clear hk); (try clear hi)) | (go_at_call 32; (with_reducible refine (petrinetlaw03_small.calls k _ _ l0 true _ ?side1 ?side2 A4.out).mono ?_); (case side1 => repeat (first | exact (Kd.C_below HR0.out HB.out) | (with_reducible refine Kd.C_alloc ?_ _) | (with_reducible refine Kd.C_drewN ?_ _) | (with_reducible refine Kd.C_drew ?_))); (case side2 => exact HC0.out); rintro e w' ⟨rfl, ⟨nd, rfl⟩⟩; (try first | exact ⟨rfl, _, World.drewN_drewN _ _ _⟩ | exact ⟨rfl, _, Eq.trans (World.drewN_drewN _ _ _) (congrArg (World.drewN _) (Nat.add_assoc _ _ _))⟩)) | (go_at_call 27; (with_reducible refine (vector_Prim.calls k _ _ l0 t435 t436 _ ?side1 ?side2 A6.out).mono ?_); (case side1 => repeat (first | exact (Kd.C_below HR0.out (by repeat (first | (with_reducible first | exact HB.out | apply below_alloc | apply pw_below_drewN | apply below_drew1) | exact HB.out))) | (with_reducible refine Kd.C_alloc ?_ _) | (with_reducible refine Kd.C_drewN ?_ _) | (with_reducible refine Kd.C_drew ?_))); (case side2 => exact HC0.out); rintro e w10 ⟨v437, rfl, ho0, hb⟩; have n0_ := Aside0.mk (Kd.R_lower ho0 (below_size (by repeat (first | (with_reducible first | exact HB.out | apply below_alloc | apply pw_below_drewN | apply below_drew1) | exact HB.out)))); have n1_ := Aside0.mk (below_step (by repeat (first | (with_reducible first | exact HB.out | apply below_alloc | apply pw_below_drewN | apply below_drew1) | exact HB.out)) hb); clear HB; have HO438 := n0_; have HB := n1_; clear n0_ n1_; (try clear hb); (try clear hb2); (try clear hk); (try clear hi); (try clear ho0); obtain ⟨Ao11, co11, eo11⟩ := Kd.R_slice HO438.out; subst eo11))
          repeat (go_quiet (first | (go_at_call 11; (with_reducible refine (petrinetlaw03_lives.calls k  true _ A2.out).mono ?_); rintro e w9 ⟨rfl, hb⟩; have n0_ := Aside0.mk (below_step (by repeat (first | (with_reducible first | exact HB.out | apply below_alloc | apply pw_below_drewN | apply below_drew1) | exact HB.out)) hb); clear HB; have HB := n0_; clear n0_; (try clear hb); (try clear hb2); (try clear hk); (try clear hi)) | (go_at_call 32; (with_reducible refine (petrinetlaw03_small.calls k _ _ l0 true _ ?side1 ?side2 A4.out).mono ?_); (case side1 => repeat (first | exact (Kd.C_below HR0.out HB.out) | (with_reducible refine Kd.C_alloc ?_ _) | (with_reducible refine Kd.C_drewN ?_ _) | (with_reducible refine Kd.C_drew ?_))); (case side2 => exact HC0.out); rintro e w' ⟨rfl, ⟨nd, rfl⟩⟩; (try first | exact ⟨rfl, _, World.drewN_drewN _ _ _⟩ | exact ⟨rfl, _, Eq.trans (World.drewN_drewN _ _ _) (congrArg (World.drewN _) (Nat.add_assoc _ _ _))⟩)) | (go_at_call 27; (with_reducible refine (vector_Prim.calls k _ _ l0 t435 t436 _ ?side1 ?side2 A6.out).mono ?_); (case side1 => repeat (first | exact (Kd.C_below HR0.out (by repeat (first | (with_reducible first | exact HB.out | apply below_alloc | apply pw_below_drewN | apply below_drew1) | exact HB.out))) | (with_reducible refine Kd.C_alloc ?_ _) | (with_reducible refine Kd.C_drewN ?_ _) | (with_reducible refine Kd.C_drew ?_))); (case side2 => exact HC0.out); rintro e w10 ⟨v437, rfl, ho0, hb⟩; have n0_ := Aside0.mk (Kd.R_lower ho0 (below_size (by repeat (first | (with_reducible first | exact HB.out | apply below_alloc | apply pw_below_drewN | apply below_drew1) | exact HB.out)))); have n1_ := Aside0.mk (below_step (by repeat (first | (with_reducible first | exact HB.out | apply below_alloc | apply pw_below_drewN | apply below_drew1) | exact HB.out)) hb); clear HB; have HO438 := n0_; have HB := n1_; clear n0_ n1_; (try clear hb); (try clear hb2); (try clear hk); (try clear hi); (try clear ho0); obtain ⟨Ao11, co11, eo11⟩ := Kd.R_slice HO438.out; subst eo11)); try go_wp2_with (first | (go_at_call 11; (with_reducible refine (petrinetlaw03_lives.calls k  true _ A2.out).mono ?_); rintro e w9 ⟨rfl, hb⟩; have n0_ := Aside0.mk (below_step (by repeat (first | (with_reducible first | exact HB.out | apply below_alloc | apply pw_below_drewN | apply below_drew1) | exact HB.out)) hb); clear HB; have HB := n0_; clear n0_; (try clear hb); (try clear hb2); (try clear hk); (try clear hi)) | (go_at_call 32; (with_reducible refine (petrinetlaw03_small.calls k _ _ l0 true _ ?side1 ?side2 A4.out).mono ?_); (case side1 => repeat (first | exact (Kd.C_below HR0.out HB.out) | (with_reducible refine Kd.C_alloc ?_ _) | (with_reducible refine Kd.C_drewN ?_ _) | (with_reducible refine Kd.C_drew ?_))); (case side2 => exact HC0.out); rintro e w' ⟨rfl, ⟨nd, rfl⟩⟩; (try first | exact ⟨rfl, _, World.drewN_drewN _ _ _⟩ | exact ⟨rfl, _, Eq.trans (World.drewN_drewN _ _ _) (congrArg (World.drewN _) (Nat.add_assoc _ _ _))⟩)) | (go_at_call 27; (with_reducible refine (vector_Prim.calls k _ _ l0 t435 t436 _ ?side1 ?side2 A6.out).mono ?_); (case side1 => repeat (first | exact (Kd.C_below HR0.out (by repeat (first | (with_reducible first | exact HB.out | apply below_alloc | apply pw_below_drewN | apply below_drew1) | exact HB.out))) | (with_reducible refine Kd.C_alloc ?_ _) | (with_reducible refine Kd.C_drewN ?_ _) | (with_reducible refine Kd.C_drew ?_))); (case side2 => exact HC0.out); rintro e w10 ⟨v437, rfl, ho0, hb⟩; have n0_ := Aside0.mk (Kd.R_lower ho0 (below_size (by repeat (first | (with_reducible first | exact HB.out | apply below_alloc | apply pw_below_drewN | apply below_drew1) | exact HB.out)))); have n1_ := Aside0.mk (below_step (by repeat (first | (with_reducible first | exact HB.out | apply below_alloc | apply pw_below_drewN | apply below_drew1) | exact HB.out)) hb); clear HB; have HO438 := n0_; have HB := n1_; clear n0_ n1_; (try clear hb); (try clear hb2); (try clear hk); (try clear hi); (try clear ho0); obtain ⟨Ao11, co11, eo11⟩ := Kd.R_slice HO438.out; subst eo11)))
          go_loopg [5, 6, 7] k (fun kq v5 v6 v7 w' => ∃ (x5_1 : Int) (x6_1 : Int) (x7_1 : Int), v5 = .int .i64 x5_1 ∧ v6 = .int .i64 x6_1 ∧ v7 = .int .i64 x7_1 ∧ Aside0 (petrinetlaw03_VectorPrimitive.l0 kq l0 t435 x5_1 x6_1 x7_1 = some r) ∧ Aside0 (kq ≤ k) ∧ Aside0 (Kd.R (Kd.int .i64) 2 w' w.heap.size (fun _ => True) (.slice Ao11 t435.length co11) t435) ∧ Aside0 (Below w.heap.size w w'))
          case atStart => exact ⟨(0), (0), (0), (by first | rfl | (simp; done) | (simp [*]; done)), (by first | rfl | (simp; done) | (simp [*]; done)), (by first | rfl | (simp; done) | (simp [*]; done)), H', ⟨Nat.le_refl _⟩, ⟨by (with_reducible repeat (first | apply Kd.R_alloc | apply Kd.R_drewN | apply Kd.R_drew)); exact HO438.out⟩, ⟨by repeat (first | (with_reducible first | exact HB.out | apply below_alloc | apply pw_below_drewN | apply below_drew1) | exact HB.out)⟩⟩
          case round =>
            clear H'
            try clear p2
            try clear c3
            try clear c5
            try clear c7
            try clear c7b0
            try clear c7b1
            try clear c8
            try clear c8b0
            try clear c8b1
            try clear c8b2
            try clear c9
            obtain ⟨x5_1, x6_1, x7_1, rfl, rfl, rfl, HA, HK1, HO_3, HB⟩ := hrel
            cases gk with
            | zero => exact absurd HA.out (by simp [petrinetlaw03_VectorPrimitive.l0])
            | succ k1 =>
              have H := HA.out
              clear HA
              simp only [petrinetlaw03_VectorPrimitive.l0] at H
              by_cases c12 : x7_1 < (l0.length : Int)
              · rw [if_pos c12] at H
                have c12b0 : decide (x7_1 < (l0.length : Int)) = true := decide_eq_true c12
                clear c12
                by_cases c13 : 0 ≤ x7_1
                · rw [if_pos c13] at H
                  have c13b0 : decide (0 ≤ x7_1) = true := decide_eq_true c13
                  clear c13
                  by_cases c14 : x7_1 < (t435.length : Int)
                  · rw [if_pos c14] at H
                    have c14b0 : decide (x7_1 < (t435.length : Int)) = true := decide_eq_true c14
                    clear c14
                    by_cases c15 : (rd t435 x7_1) = 0
                    · rw [if_pos c15] at H
                      have c15b0 : ((rd t435 x7_1) == 0) = true := beq_iff_eq.mpr c15
                      have c15b1 : ((rd t435 x7_1) != 0) = false := bne_eq_false_iff_eq.mpr c15
                      clear c15
                      by_cases c16 : (rd l0 x7_1) = 0
                      · rw [if_pos c16] at H
                        have c16b0 : ((rd l0 x7_1) == 0) = true := beq_iff_eq.mpr c16
                        have c16b1 : ((rd l0 x7_1) != 0) = false := bne_eq_false_iff_eq.mpr c16
                        clear c16
                        by_cases c17 : (rd t435 x7_1) > 1048576
                        · rw [if_pos c17] at H
                          exact absurd H (by simp)
                        · rw [if_neg c17] at H
                          have c17b0 : decide (1048576 < (rd t435 x7_1)) = false := decide_eq_false c17
                          clear c17
                          by_cases c18 : (rd t435 x7_1) < (-1048576)
                          · rw [if_pos c18] at H
                            exact absurd H (by simp)
                          · rw [if_neg c18] at H
                            have c18b0 : decide ((rd t435 x7_1) < (-1048576)) = false := decide_eq_false c18
                            clear c18
                            obtain ⟨ji19, hji19⟩ : ∃ j_ : Int, (mx (rd t435 x7_1) (wrap64 (-(rd t435 x7_1)))) = j_ := ⟨_, rfl⟩
                            replace H : ((petrinetlaw03_gcd.f k1 x5_1 (ji19)).bind fun t445 => (if x6_1 = 0 then (petrinetlaw03_VectorPrimitive.l0 k1 l0 t435 t445 x6_1 (wrap64 (x7_1 + 1))) else (petrinetlaw03_VectorPrimitive.l0 k1 l0 t435 t445 x6_1 (wrap64 (x7_1 + 1))))) = some r := by first | (rw [hji19] at H; exact H) | (simp only [hji19] at H ⊢; exact H)
                            have hji19_ : (if (rd t435 x7_1) < (wrap64 (-(rd t435 x7_1))) then (wrap64 (-(rd t435 x7_1))) else (rd t435 x7_1)) = ji19 := hji19
                            replace H := Option.bind_eq_some_iff.mp H
                            obtain ⟨t445, A200, H⟩ := H
                            replace H : (if x6_1 = 0 then (petrinetlaw03_VectorPrimitive.l0 k1 l0 t435 t445 x6_1 (wrap64 (x7_1 + 1))) else (petrinetlaw03_VectorPrimitive.l0 k1 l0 t435 t445 x6_1 (wrap64 (x7_1 + 1)))) = some r := H
                            have A20 := Aside0.mk A200
                            clear A200
                            by_cases c21 : x6_1 = 0
                            · rw [if_pos c21] at H
                              have c21b0 := Aside0.mk (show (x6_1 == 0) = true from beq_iff_eq.mpr c21)
                              have c21b1 := Aside0.mk (show (x6_1 != 0) = false from bne_eq_false_iff_eq.mpr c21)
                              clear c21
                              have H' := Aside0.mk H
                              clear H
                              have p439 : 0 ≤ (x7_1 : Int) := of_decide_eq_true (by first | (with_reducible assumption) | assumption)
                              have q439 : x7_1 < (t435.length : Int) := of_decide_eq_true (by first | (with_reducible assumption) | assumption)
                              obtain ⟨ad439, e439, hx439_0⟩ := Kd.at_int (Kd.R_reads' HO_3.out).2.2 x7_1 p439 q439
                              cases e439
                              replace p439 := eq_true p439
                              replace q439 := eq_true q439
                              have p440 : 0 ≤ (x7_1 : Int) := of_decide_eq_true (by first | (with_reducible assumption) | assumption)
                              have q440 : x7_1 < (l0.length : Int) := of_decide_eq_true (by first | (with_reducible assumption) | assumption)
                              obtain ⟨ad440, e440, hx440_0⟩ := Kd.at_int HR0.out x7_1 p440 q440
                              cases e440
                              replace hx440_0 := (HB.out.cell (World.block_lt_of_cell? w _ hx440_0)).trans hx440_0
                              replace p440 := eq_true p440
                              replace q440 := eq_true q440
                              have p441 : 0 ≤ (x7_1 : Int) := of_decide_eq_true (by first | (with_reducible assumption) | assumption)
                              have q441 : x7_1 < (t435.length : Int) := of_decide_eq_true (by first | (with_reducible assumption) | assumption)
                              obtain ⟨ad441, e441, hx441_0⟩ := Kd.at_int (Kd.R_reads' HO_3.out).2.2 x7_1 p441 q441
                              obtain rfl : ad439 = ad441 := (by injection e441)
                              replace p441 := eq_true p441
                              replace q441 := eq_true q441
                              have p442 : 0 ≤ (x7_1 : Int) := of_decide_eq_true (by first | (with_reducible assumption) | assumption)
                              have q442 : x7_1 < (t435.length : Int) := of_decide_eq_true (by first | (with_reducible assumption) | assumption)
                              obtain ⟨ad442, e442, hx442_0⟩ := Kd.at_int (Kd.R_reads' HO_3.out).2.2 x7_1 p442 q442
                              obtain rfl : ad439 = ad442 := (by injection e442)
                              replace p442 := eq_true p442
                              replace q442 := eq_true q442
                              have p443 : 0 ≤ (x7_1 : Int) := of_decide_eq_true (by first | (with_reducible assumption) | assumption)
                              have q443 : x7_1 < (t435.length : Int) := of_decide_eq_true (by first | (with_reducible assumption) | assumption)
                              obtain ⟨ad443, e443, hx443_0⟩ := Kd.at_int (Kd.R_reads' HO_3.out).2.2 x7_1 p443 q443
                              obtain rfl : ad439 = ad443 := (by injection e443)
                              replace p443 := eq_true p443
                              replace q443 := eq_true q443
                              have p444 : 0 ≤ (x7_1 : Int) := of_decide_eq_true (by first | (with_reducible assumption) | assumption)
                              have q444 : x7_1 < (t435.length : Int) := of_decide_eq_true (by first | (with_reducible assumption) | assumption)
                              obtain ⟨ad444, e444, hx444_0⟩ := Kd.at_int (Kd.R_reads' HO_3.out).2.2 x7_1 p444 q444
                              obtain rfl : ad439 = ad444 := (by injection e444)
                              replace p444 := eq_true p444
                              replace q444 := eq_true q444
                              go_wp2_with (first | (go_at_call 33; (with_reducible refine (petrinetlaw03_gcd.calls k1 x5_1 ji19 t445 _ A20.out).mono ?_); rintro e w' ⟨rfl, ⟨nd, rfl⟩⟩; (try first | exact ⟨rfl, _, World.drewN_drewN _ _ _⟩ | exact ⟨rfl, _, Eq.trans (World.drewN_drewN _ _ _) (congrArg (World.drewN _) (Nat.add_assoc _ _ _))⟩); have p446 : 0 ≤ (x7_1 : Int) := of_decide_eq_true (by first | (with_reducible assumption) | assumption); have q446 : x7_1 < (t435.length : Int) := of_decide_eq_true (by first | (with_reducible assumption) | assumption); obtain ⟨ad446, e446, hx446_0⟩ := Kd.at_int (Kd.R_reads' HO_3.out).2.2 x7_1 p446 q446; obtain rfl : ad439 = ad446 := (by injection e446); replace p446 := eq_true p446; replace q446 := eq_true q446))
                              go_quiet (first | (go_at_call 33; (with_reducible refine (petrinetlaw03_gcd.calls k1 x5_1 ji19 t445 _ A20.out).mono ?_); rintro e w' ⟨rfl, ⟨nd, rfl⟩⟩; (try first | exact ⟨rfl, _, World.drewN_drewN _ _ _⟩ | exact ⟨rfl, _, Eq.trans (World.drewN_drewN _ _ _) (congrArg (World.drewN _) (Nat.add_assoc _ _ _))⟩)))
                              try go_wp2_with (first | (go_at_call 33; (with_reducible refine (petrinetlaw03_gcd.calls k1 x5_1 ji19 t445 _ A20.out).mono ?_); rintro e w' ⟨rfl, ⟨nd, rfl⟩⟩; (try first | exact ⟨rfl, _, World.drewN_drewN _ _ _⟩ | exact ⟨rfl, _, Eq.trans (World.drewN_drewN _ _ _) (congrArg (World.drewN _) (Nat.add_assoc _ _ _))⟩)))
                              have c15b0h := Aside0.mk c15b0
                              clear c15b0
                              have c15b1h := Aside0.mk c15b1
                              clear c15b1
                              have c16b0h := Aside0.mk c16b0
                              clear c16b0
                              have c16b1h := Aside0.mk c16b1
                              clear c16b1
                              go_quiet (first | (go_at_call 33; (with_reducible refine (petrinetlaw03_gcd.calls k1 x5_1 ji19 t445 _ A20.out).mono ?_); rintro e w' ⟨rfl, ⟨nd, rfl⟩⟩; (try first | exact ⟨rfl, _, World.drewN_drewN _ _ _⟩ | exact ⟨rfl, _, Eq.trans (World.drewN_drewN _ _ _) (congrArg (World.drewN _) (Nat.add_assoc _ _ _))⟩)))
                              have p446 : 0 ≤ (x7_1 : Int) := of_decide_eq_true (by first | (with_reducible assumption) | assumption)
                              have q446 : x7_1 < (t435.length : Int) := of_decide_eq_true (by first | (with_reducible assumption) | assumption)
                              obtain ⟨ad446, e446, hx446_0⟩ := Kd.at_int (Kd.R_reads' HO_3.out).2.2 x7_1 p446 q446
                              obtain rfl : ad439 = ad446 := (by injection e446)
                              replace p446 := eq_true p446
                              replace q446 := eq_true q446
                              have c15b0 := c15b0h.out
                              have c15b1 := c15b1h.out
                              have c16b0 := c16b0h.out
                              have c16b1 := c16b1h.out
                              have hx6_ := c21b0.out
                              have hx7_ := c21b1.out
                              try go_wp2_with (first | (go_at_call 33; (with_reducible refine (petrinetlaw03_gcd.calls k1 x5_1 ji19 t445 _ A20.out).mono ?_); rintro e w' ⟨rfl, ⟨nd, rfl⟩⟩; (try first | exact ⟨rfl, _, World.drewN_drewN _ _ _⟩ | exact ⟨rfl, _, Eq.trans (World.drewN_drewN _ _ _) (congrArg (World.drewN _) (Nat.add_assoc _ _ _))⟩)))
                              try (go_quiet (first | (go_at_call 33; (with_reducible refine (petrinetlaw03_gcd.calls k1 x5_1 ji19 t445 _ A20.out).mono ?_); rintro e w' ⟨rfl, ⟨nd, rfl⟩⟩; (try first | exact ⟨rfl, _, World.drewN_drewN _ _ _⟩ | exact ⟨rfl, _, Eq.trans (World.drewN_drewN _ _ _) (congrArg (World.drewN _) (Nat.add_assoc _ _ _))⟩))); try go_wp2_with (first | (go_at_call 33; (with_reducible refine (petrinetlaw03_gcd.calls k1 x5_1 ji19 t445 _ A20.out).mono ?_); rintro e w' ⟨rfl, ⟨nd, rfl⟩⟩; (try first | exact ⟨rfl, _, World.drewN_drewN _ _ _⟩ | exact ⟨rfl, _, Eq.trans (World.drewN_drewN _ _ _) (congrArg (World.drewN _) (Nat.add_assoc _ _ _))⟩))))
                              go_roundg k1
                              case measure => have := HK1.out; omega
                              case rel => exact ⟨(t445), (x6_1), (wrap64 (x7_1 + 1)), (by first | rfl | (simp; done) | (simp [*]; done)), (by first | rfl | (simp; done) | (simp [*]; done)), (by first | rfl | (simp; done) | (simp [*]; done)), H', ⟨by have := HK1.out; omega⟩, ⟨by (with_reducible repeat (first | apply Kd.R_alloc | apply Kd.R_drewN | apply Kd.R_drew)); exact HO_3.out⟩, ⟨by repeat (first | (with_reducible first | exact HB.out | apply below_alloc | apply pw_below_drewN | apply below_drew1) | exact HB.out)⟩⟩
                            · rw [if_neg c21] at H
                              have c21b0 : (x6_1 == 0) = false := beq_eq_false_iff_ne.mpr c21
                              have c21b1 : (x6_1 != 0) = true := bne_iff_ne.mpr c21
                              have H' := Aside0.mk H
                              clear H
                              have p439 : 0 ≤ (x7_1 : Int) := of_decide_eq_true (by first | (with_reducible assumption) | assumption)
                              have q439 : x7_1 < (t435.length : Int) := of_decide_eq_true (by first | (with_reducible assumption) | assumption)
                              obtain ⟨ad439, e439, hx439_0⟩ := Kd.at_int (Kd.R_reads' HO_3.out).2.2 x7_1 p439 q439
                              cases e439
                              replace p439 := eq_true p439
                              replace q439 := eq_true q439
                              have p440 : 0 ≤ (x7_1 : Int) := of_decide_eq_true (by first | (with_reducible assumption) | assumption)
                              have q440 : x7_1 < (l0.length : Int) := of_decide_eq_true (by first | (with_reducible assumption) | assumption)
                              obtain ⟨ad440, e440, hx440_0⟩ := Kd.at_int HR0.out x7_1 p440 q440
                              cases e440
                              replace hx440_0 := (HB.out.cell (World.block_lt_of_cell? w _ hx440_0)).trans hx440_0
                              replace p440 := eq_true p440
                              replace q440 := eq_true q440
                              have p441 : 0 ≤ (x7_1 : Int) := of_decide_eq_true (by first | (with_reducible assumption) | assumption)
                              have q441 : x7_1 < (t435.length : Int) := of_decide_eq_true (by first | (with_reducible assumption) | assumption)
                              obtain ⟨ad441, e441, hx441_0⟩ := Kd.at_int (Kd.R_reads' HO_3.out).2.2 x7_1 p441 q441
                              obtain rfl : ad439 = ad441 := (by injection e441)
                              replace p441 := eq_true p441
                              replace q441 := eq_true q441
                              have p442 : 0 ≤ (x7_1 : Int) := of_decide_eq_true (by first | (with_reducible assumption) | assumption)
                              have q442 : x7_1 < (t435.length : Int) := of_decide_eq_true (by first | (with_reducible assumption) | assumption)
                              obtain ⟨ad442, e442, hx442_0⟩ := Kd.at_int (Kd.R_reads' HO_3.out).2.2 x7_1 p442 q442
                              obtain rfl : ad439 = ad442 := (by injection e442)
                              replace p442 := eq_true p442
                              replace q442 := eq_true q442
                              have p443 : 0 ≤ (x7_1 : Int) := of_decide_eq_true (by first | (with_reducible assumption) | assumption)
                              have q443 : x7_1 < (t435.length : Int) := of_decide_eq_true (by first | (with_reducible assumption) | assumption)
                              obtain ⟨ad443, e443, hx443_0⟩ := Kd.at_int (Kd.R_reads' HO_3.out).2.2 x7_1 p443 q443
                              obtain rfl : ad439 = ad443 := (by injection e443)
                              replace p443 := eq_true p443
                              replace q443 := eq_true q443
                              have p444 : 0 ≤ (x7_1 : Int) := of_decide_eq_true (by first | (with_reducible assumption) | assumption)
                              have q444 : x7_1 < (t435.length : Int) := of_decide_eq_true (by first | (with_reducible assumption) | assumption)
                              obtain ⟨ad444, e444, hx444_0⟩ := Kd.at_int (Kd.R_reads' HO_3.out).2.2 x7_1 p444 q444
                              obtain rfl : ad439 = ad444 := (by injection e444)
                              replace p444 := eq_true p444
                              replace q444 := eq_true q444
                              go_wp2_with (first | (go_at_call 33; (with_reducible refine (petrinetlaw03_gcd.calls k1 x5_1 ji19 t445 _ A20.out).mono ?_); rintro e w' ⟨rfl, ⟨nd, rfl⟩⟩; (try first | exact ⟨rfl, _, World.drewN_drewN _ _ _⟩ | exact ⟨rfl, _, Eq.trans (World.drewN_drewN _ _ _) (congrArg (World.drewN _) (Nat.add_assoc _ _ _))⟩)))
                              go_quiet (first | (go_at_call 33; (with_reducible refine (petrinetlaw03_gcd.calls k1 x5_1 ji19 t445 _ A20.out).mono ?_); rintro e w' ⟨rfl, ⟨nd, rfl⟩⟩; (try first | exact ⟨rfl, _, World.drewN_drewN _ _ _⟩ | exact ⟨rfl, _, Eq.trans (World.drewN_drewN _ _ _) (congrArg (World.drewN _) (Nat.add_assoc _ _ _))⟩)))
                              try go_wp2_with (first | (go_at_call 33; (with_reducible refine (petrinetlaw03_gcd.calls k1 x5_1 ji19 t445 _ A20.out).mono ?_); rintro e w' ⟨rfl, ⟨nd, rfl⟩⟩; (try first | exact ⟨rfl, _, World.drewN_drewN _ _ _⟩ | exact ⟨rfl, _, Eq.trans (World.drewN_drewN _ _ _) (congrArg (World.drewN _) (Nat.add_assoc _ _ _))⟩)))
                              have c15b0h := Aside0.mk c15b0
                              clear c15b0
                              have c15b1h := Aside0.mk c15b1
                              clear c15b1
                              have c16b0h := Aside0.mk c16b0
                              clear c16b0
                              have c16b1h := Aside0.mk c16b1
                              clear c16b1
                              go_quiet (first | (go_at_call 33; (with_reducible refine (petrinetlaw03_gcd.calls k1 x5_1 ji19 t445 _ A20.out).mono ?_); rintro e w' ⟨rfl, ⟨nd, rfl⟩⟩; (try first | exact ⟨rfl, _, World.drewN_drewN _ _ _⟩ | exact ⟨rfl, _, Eq.trans (World.drewN_drewN _ _ _) (congrArg (World.drewN _) (Nat.add_assoc _ _ _))⟩)))
                              have c15b0 := c15b0h.out
                              have c15b1 := c15b1h.out
                              have c16b0 := c16b0h.out
                              have c16b1 := c16b1h.out
                              try go_wp2_with (first | (go_at_call 33; (with_reducible refine (petrinetlaw03_gcd.calls k1 x5_1 ji19 t445 _ A20.out).mono ?_); rintro e w' ⟨rfl, ⟨nd, rfl⟩⟩; (try first | exact ⟨rfl, _, World.drewN_drewN _ _ _⟩ | exact ⟨rfl, _, Eq.trans (World.drewN_drewN _ _ _) (congrArg (World.drewN _) (Nat.add_assoc _ _ _))⟩)))
                              try (go_quiet (first | (go_at_call 33; (with_reducible refine (petrinetlaw03_gcd.calls k1 x5_1 ji19 t445 _ A20.out).mono ?_); rintro e w' ⟨rfl, ⟨nd, rfl⟩⟩; (try first | exact ⟨rfl, _, World.drewN_drewN _ _ _⟩ | exact ⟨rfl, _, Eq.trans (World.drewN_drewN _ _ _) (congrArg (World.drewN _) (Nat.add_assoc _ _ _))⟩))); try go_wp2_with (first | (go_at_call 33; (with_reducible refine (petrinetlaw03_gcd.calls k1 x5_1 ji19 t445 _ A20.out).mono ?_); rintro e w' ⟨rfl, ⟨nd, rfl⟩⟩; (try first | exact ⟨rfl, _, World.drewN_drewN _ _ _⟩ | exact ⟨rfl, _, Eq.trans (World.drewN_drewN _ _ _) (congrArg (World.drewN _) (Nat.add_assoc _ _ _))⟩))))
                              go_roundg k1
                              case measure => have := HK1.out; omega
                              case rel => exact ⟨(t445), (x6_1), (wrap64 (x7_1 + 1)), (by first | rfl | (simp; done) | (simp [*]; done)), (by first | rfl | (simp; done) | (simp [*]; done)), (by first | rfl | (simp; done) | (simp [*]; done)), H', ⟨by have := HK1.out; omega⟩, ⟨by (with_reducible repeat (first | apply Kd.R_alloc | apply Kd.R_drewN | apply Kd.R_drew)); exact HO_3.out⟩, ⟨by repeat (first | (with_reducible first | exact HB.out | apply below_alloc | apply pw_below_drewN | apply below_drew1) | exact HB.out)⟩⟩
                      · rw [if_neg c16] at H
                        exact absurd H (by simp)
                    · rw [if_neg c15] at H
                      have c15b0 : ((rd t435 x7_1) == 0) = false := beq_eq_false_iff_ne.mpr c15
                      have c15b1 : ((rd t435 x7_1) != 0) = true := bne_iff_ne.mpr c15
                      by_cases c22 : (rd l0 x7_1) = 0
                      · rw [if_pos c22] at H
                        exact absurd H (by simp)
                      · rw [if_neg c22] at H
                        have c22b0 : ((rd l0 x7_1) == 0) = false := beq_eq_false_iff_ne.mpr c22
                        have c22b1 : ((rd l0 x7_1) != 0) = true := bne_iff_ne.mpr c22
                        by_cases c23 : (rd t435 x7_1) > 1048576
                        · rw [if_pos c23] at H
                          exact absurd H (by simp)
                        · rw [if_neg c23] at H
                          have c23b0 : decide (1048576 < (rd t435 x7_1)) = false := decide_eq_false c23
                          clear c23
                          by_cases c24 : (rd t435 x7_1) < (-1048576)
                          · rw [if_pos c24] at H
                            exact absurd H (by simp)
                          · rw [if_neg c24] at H
                            have c24b0 : decide ((rd t435 x7_1) < (-1048576)) = false := decide_eq_false c24
                            clear c24
                            obtain ⟨ji25, hji25⟩ : ∃ j_ : Int, (mx (rd t435 x7_1) (wrap64 (-(rd t435 x7_1)))) = j_ := ⟨_, rfl⟩
                            replace H : ((petrinetlaw03_gcd.f k1 x5_1 (ji25)).bind fun t451 => (if x6_1 = 0 then (petrinetlaw03_VectorPrimitive.l0 k1 l0 t435 t451 (wrap64 (Int.tdiv (rd l0 x7_1) (rd t435 x7_1))) (wrap64 (x7_1 + 1))) else (petrinetlaw03_VectorPrimitive.l0 k1 l0 t435 t451 x6_1 (wrap64 (x7_1 + 1))))) = some r := by first | (rw [hji25] at H; exact H) | (simp only [hji25] at H ⊢; exact H)
                            have hji25_ : (if (rd t435 x7_1) < (wrap64 (-(rd t435 x7_1))) then (wrap64 (-(rd t435 x7_1))) else (rd t435 x7_1)) = ji25 := hji25
                            replace H := Option.bind_eq_some_iff.mp H
                            obtain ⟨t451, A260, H⟩ := H
                            replace H : (if x6_1 = 0 then (petrinetlaw03_VectorPrimitive.l0 k1 l0 t435 t451 (wrap64 (Int.tdiv (rd l0 x7_1) (rd t435 x7_1))) (wrap64 (x7_1 + 1))) else (petrinetlaw03_VectorPrimitive.l0 k1 l0 t435 t451 x6_1 (wrap64 (x7_1 + 1)))) = some r := H
                            have A26 := Aside0.mk A260
                            clear A260
                            by_cases c27 : x6_1 = 0
                            · rw [if_pos c27] at H
                              have c27b0 := Aside0.mk (show (x6_1 == 0) = true from beq_iff_eq.mpr c27)
                              have c27b1 := Aside0.mk (show (x6_1 != 0) = false from bne_eq_false_iff_eq.mpr c27)
                              clear c27
                              have H' := Aside0.mk H
                              clear H
                              have p439 : 0 ≤ (x7_1 : Int) := of_decide_eq_true (by first | (with_reducible assumption) | assumption)
                              have q439 : x7_1 < (t435.length : Int) := of_decide_eq_true (by first | (with_reducible assumption) | assumption)
                              obtain ⟨ad439, e439, hx439_0⟩ := Kd.at_int (Kd.R_reads' HO_3.out).2.2 x7_1 p439 q439
                              cases e439
                              replace p439 := eq_true p439
                              replace q439 := eq_true q439
                              have p440 : 0 ≤ (x7_1 : Int) := of_decide_eq_true (by first | (with_reducible assumption) | assumption)
                              have q440 : x7_1 < (l0.length : Int) := of_decide_eq_true (by first | (with_reducible assumption) | assumption)
                              obtain ⟨ad440, e440, hx440_0⟩ := Kd.at_int HR0.out x7_1 p440 q440
                              cases e440
                              replace hx440_0 := (HB.out.cell (World.block_lt_of_cell? w _ hx440_0)).trans hx440_0
                              replace p440 := eq_true p440
                              replace q440 := eq_true q440
                              have p447 : 0 ≤ (x7_1 : Int) := of_decide_eq_true (by first | (with_reducible assumption) | assumption)
                              have q447 : x7_1 < (t435.length : Int) := of_decide_eq_true (by first | (with_reducible assumption) | assumption)
                              obtain ⟨ad447, e447, hx447_0⟩ := Kd.at_int (Kd.R_reads' HO_3.out).2.2 x7_1 p447 q447
                              obtain rfl : ad439 = ad447 := (by injection e447)
                              replace p447 := eq_true p447
                              replace q447 := eq_true q447
                              have p448 : 0 ≤ (x7_1 : Int) := of_decide_eq_true (by first | (with_reducible assumption) | assumption)
                              have q448 : x7_1 < (t435.length : Int) := of_decide_eq_true (by first | (with_reducible assumption) | assumption)
                              obtain ⟨ad448, e448, hx448_0⟩ := Kd.at_int (Kd.R_reads' HO_3.out).2.2 x7_1 p448 q448
                              obtain rfl : ad439 = ad448 := (by injection e448)
                              replace p448 := eq_true p448
                              replace q448 := eq_true q448
                              have p449 : 0 ≤ (x7_1 : Int) := of_decide_eq_true (by first | (with_reducible assumption) | assumption)
                              have q449 : x7_1 < (t435.length : Int) := of_decide_eq_true (by first | (with_reducible assumption) | assumption)
                              obtain ⟨ad449, e449, hx449_0⟩ := Kd.at_int (Kd.R_reads' HO_3.out).2.2 x7_1 p449 q449
                              obtain rfl : ad439 = ad449 := (by injection e449)
                              replace p449 := eq_true p449
                              replace q449 := eq_true q449
                              have p450 : 0 ≤ (x7_1 : Int) := of_decide_eq_true (by first | (with_reducible assumption) | assumption)
                              have q450 : x7_1 < (t435.length : Int) := of_decide_eq_true (by first | (with_reducible assumption) | assumption)
                              obtain ⟨ad450, e450, hx450_0⟩ := Kd.at_int (Kd.R_reads' HO_3.out).2.2 x7_1 p450 q450
                              obtain rfl : ad439 = ad450 := (by injection e450)
                              replace p450 := eq_true p450
                              replace q450 := eq_true q450
                              go_wp2_with (first | (go_at_call 33; (with_reducible refine (petrinetlaw03_gcd.calls k1 x5_1 ji25 t451 _ A26.out).mono ?_); rintro e w' ⟨rfl, ⟨nd, rfl⟩⟩; (try first | exact ⟨rfl, _, World.drewN_drewN _ _ _⟩ | exact ⟨rfl, _, Eq.trans (World.drewN_drewN _ _ _) (congrArg (World.drewN _) (Nat.add_assoc _ _ _))⟩); have p452 : 0 ≤ (x7_1 : Int) := of_decide_eq_true (by first | (with_reducible assumption) | assumption); have q452 : x7_1 < (t435.length : Int) := of_decide_eq_true (by first | (with_reducible assumption) | assumption); obtain ⟨ad452, e452, hx452_0⟩ := Kd.at_int (Kd.R_reads' HO_3.out).2.2 x7_1 p452 q452; obtain rfl : ad439 = ad452 := (by injection e452); replace p452 := eq_true p452; replace q452 := eq_true q452; have p453 : 0 ≤ (x7_1 : Int) := of_decide_eq_true (by first | (with_reducible assumption) | assumption); have q453 : x7_1 < (l0.length : Int) := of_decide_eq_true (by first | (with_reducible assumption) | assumption); obtain ⟨ad453, e453, hx453_0⟩ := Kd.at_int HR0.out x7_1 p453 q453; obtain rfl : ad440 = ad453 := (by injection e453); replace hx453_0 := (HB.out.cell (World.block_lt_of_cell? w _ hx453_0)).trans hx453_0; replace p453 := eq_true p453; replace q453 := eq_true q453; have p454 : 0 ≤ (x7_1 : Int) := of_decide_eq_true (by first | (with_reducible assumption) | assumption); have q454 : x7_1 < (t435.length : Int) := of_decide_eq_true (by first | (with_reducible assumption) | assumption); obtain ⟨ad454, e454, hx454_0⟩ := Kd.at_int (Kd.R_reads' HO_3.out).2.2 x7_1 p454 q454; obtain rfl : ad439 = ad454 := (by injection e454); replace p454 := eq_true p454; replace q454 := eq_true q454))
                              go_quiet (first | (go_at_call 33; (with_reducible refine (petrinetlaw03_gcd.calls k1 x5_1 ji25 t451 _ A26.out).mono ?_); rintro e w' ⟨rfl, ⟨nd, rfl⟩⟩; (try first | exact ⟨rfl, _, World.drewN_drewN _ _ _⟩ | exact ⟨rfl, _, Eq.trans (World.drewN_drewN _ _ _) (congrArg (World.drewN _) (Nat.add_assoc _ _ _))⟩)))
                              try go_wp2_with (first | (go_at_call 33; (with_reducible refine (petrinetlaw03_gcd.calls k1 x5_1 ji25 t451 _ A26.out).mono ?_); rintro e w' ⟨rfl, ⟨nd, rfl⟩⟩; (try first | exact ⟨rfl, _, World.drewN_drewN _ _ _⟩ | exact ⟨rfl, _, Eq.trans (World.drewN_drewN _ _ _) (congrArg (World.drewN _) (Nat.add_assoc _ _ _))⟩)))
                              have c15b0h := Aside0.mk c15b0
                              clear c15b0
                              have c15b1h := Aside0.mk c15b1
                              clear c15b1
                              have c22b0h := Aside0.mk c22b0
                              clear c22b0
                              have c22b1h := Aside0.mk c22b1
                              clear c22b1
                              go_quiet (first | (go_at_call 33; (with_reducible refine (petrinetlaw03_gcd.calls k1 x5_1 ji25 t451 _ A26.out).mono ?_); rintro e w' ⟨rfl, ⟨nd, rfl⟩⟩; (try first | exact ⟨rfl, _, World.drewN_drewN _ _ _⟩ | exact ⟨rfl, _, Eq.trans (World.drewN_drewN _ _ _) (congrArg (World.drewN _) (Nat.add_assoc _ _ _))⟩)))
                              have p452 : 0 ≤ (x7_1 : Int) := of_decide_eq_true (by first | (with_reducible assumption) | assumption)
                              have q452 : x7_1 < (t435.length : Int) := of_decide_eq_true (by first | (with_reducible assumption) | assumption)
                              obtain ⟨ad452, e452, hx452_0⟩ := Kd.at_int (Kd.R_reads' HO_3.out).2.2 x7_1 p452 q452
                              obtain rfl : ad439 = ad452 := (by injection e452)
                              replace p452 := eq_true p452
                              replace q452 := eq_true q452
                              have p453 : 0 ≤ (x7_1 : Int) := of_decide_eq_true (by first | (with_reducible assumption) | assumption)
                              have q453 : x7_1 < (l0.length : Int) := of_decide_eq_true (by first | (with_reducible assumption) | assumption)
                              obtain ⟨ad453, e453, hx453_0⟩ := Kd.at_int HR0.out x7_1 p453 q453
                              obtain rfl : ad440 = ad453 := (by injection e453)
                              replace hx453_0 := (HB.out.cell (World.block_lt_of_cell? w _ hx453_0)).trans hx453_0
                              replace p453 := eq_true p453
                              replace q453 := eq_true q453
                              have p454 : 0 ≤ (x7_1 : Int) := of_decide_eq_true (by first | (with_reducible assumption) | assumption)
                              have q454 : x7_1 < (t435.length : Int) := of_decide_eq_true (by first | (with_reducible assumption) | assumption)
                              obtain ⟨ad454, e454, hx454_0⟩ := Kd.at_int (Kd.R_reads' HO_3.out).2.2 x7_1 p454 q454
                              obtain rfl : ad439 = ad454 := (by injection e454)
                              replace p454 := eq_true p454
                              replace q454 := eq_true q454
                              have c15b0 := c15b0h.out
                              have c15b1 := c15b1h.out
                              have c22b0 := c22b0h.out
                              have c22b1 := c22b1h.out
                              have hx6_ := c27b0.out
                              have hx7_ := c27b1.out
                              try go_wp2_with (first | (go_at_call 33; (with_reducible refine (petrinetlaw03_gcd.calls k1 x5_1 ji25 t451 _ A26.out).mono ?_); rintro e w' ⟨rfl, ⟨nd, rfl⟩⟩; (try first | exact ⟨rfl, _, World.drewN_drewN _ _ _⟩ | exact ⟨rfl, _, Eq.trans (World.drewN_drewN _ _ _) (congrArg (World.drewN _) (Nat.add_assoc _ _ _))⟩)))
                              try (go_quiet (first | (go_at_call 33; (with_reducible refine (petrinetlaw03_gcd.calls k1 x5_1 ji25 t451 _ A26.out).mono ?_); rintro e w' ⟨rfl, ⟨nd, rfl⟩⟩; (try first | exact ⟨rfl, _, World.drewN_drewN _ _ _⟩ | exact ⟨rfl, _, Eq.trans (World.drewN_drewN _ _ _) (congrArg (World.drewN _) (Nat.add_assoc _ _ _))⟩))); try go_wp2_with (first | (go_at_call 33; (with_reducible refine (petrinetlaw03_gcd.calls k1 x5_1 ji25 t451 _ A26.out).mono ?_); rintro e w' ⟨rfl, ⟨nd, rfl⟩⟩; (try first | exact ⟨rfl, _, World.drewN_drewN _ _ _⟩ | exact ⟨rfl, _, Eq.trans (World.drewN_drewN _ _ _) (congrArg (World.drewN _) (Nat.add_assoc _ _ _))⟩))))
                              go_roundg k1
                              case measure => have := HK1.out; omega
                              case rel => exact ⟨(t451), (wrap64 (Int.tdiv (rd l0 x7_1) (rd t435 x7_1))), (wrap64 (x7_1 + 1)), (by first | rfl | (simp; done) | (simp [*]; done)), (by first | rfl | (simp; done) | (simp [*]; done)), (by first | rfl | (simp; done) | (simp [*]; done)), H', ⟨by have := HK1.out; omega⟩, ⟨by (with_reducible repeat (first | apply Kd.R_alloc | apply Kd.R_drewN | apply Kd.R_drew)); exact HO_3.out⟩, ⟨by repeat (first | (with_reducible first | exact HB.out | apply below_alloc | apply pw_below_drewN | apply below_drew1) | exact HB.out)⟩⟩
                            · rw [if_neg c27] at H
                              have c27b0 : (x6_1 == 0) = false := beq_eq_false_iff_ne.mpr c27
                              have c27b1 : (x6_1 != 0) = true := bne_iff_ne.mpr c27
                              have H' := Aside0.mk H
                              clear H
                              have p439 : 0 ≤ (x7_1 : Int) := of_decide_eq_true (by first | (with_reducible assumption) | assumption)
                              have q439 : x7_1 < (t435.length : Int) := of_decide_eq_true (by first | (with_reducible assumption) | assumption)
                              obtain ⟨ad439, e439, hx439_0⟩ := Kd.at_int (Kd.R_reads' HO_3.out).2.2 x7_1 p439 q439
                              cases e439
                              replace p439 := eq_true p439
                              replace q439 := eq_true q439
                              have p440 : 0 ≤ (x7_1 : Int) := of_decide_eq_true (by first | (with_reducible assumption) | assumption)
                              have q440 : x7_1 < (l0.length : Int) := of_decide_eq_true (by first | (with_reducible assumption) | assumption)
                              obtain ⟨ad440, e440, hx440_0⟩ := Kd.at_int HR0.out x7_1 p440 q440
                              cases e440
                              replace hx440_0 := (HB.out.cell (World.block_lt_of_cell? w _ hx440_0)).trans hx440_0
                              replace p440 := eq_true p440
                              replace q440 := eq_true q440
                              have p447 : 0 ≤ (x7_1 : Int) := of_decide_eq_true (by first | (with_reducible assumption) | assumption)
                              have q447 : x7_1 < (t435.length : Int) := of_decide_eq_true (by first | (with_reducible assumption) | assumption)
                              obtain ⟨ad447, e447, hx447_0⟩ := Kd.at_int (Kd.R_reads' HO_3.out).2.2 x7_1 p447 q447
                              obtain rfl : ad439 = ad447 := (by injection e447)
                              replace p447 := eq_true p447
                              replace q447 := eq_true q447
                              have p448 : 0 ≤ (x7_1 : Int) := of_decide_eq_true (by first | (with_reducible assumption) | assumption)
                              have q448 : x7_1 < (t435.length : Int) := of_decide_eq_true (by first | (with_reducible assumption) | assumption)
                              obtain ⟨ad448, e448, hx448_0⟩ := Kd.at_int (Kd.R_reads' HO_3.out).2.2 x7_1 p448 q448
                              obtain rfl : ad439 = ad448 := (by injection e448)
                              replace p448 := eq_true p448
                              replace q448 := eq_true q448
                              have p449 : 0 ≤ (x7_1 : Int) := of_decide_eq_true (by first | (with_reducible assumption) | assumption)
                              have q449 : x7_1 < (t435.length : Int) := of_decide_eq_true (by first | (with_reducible assumption) | assumption)
                              obtain ⟨ad449, e449, hx449_0⟩ := Kd.at_int (Kd.R_reads' HO_3.out).2.2 x7_1 p449 q449
                              obtain rfl : ad439 = ad449 := (by injection e449)
                              replace p449 := eq_true p449
                              replace q449 := eq_true q449
                              have p450 : 0 ≤ (x7_1 : Int) := of_decide_eq_true (by first | (with_reducible assumption) | assumption)
                              have q450 : x7_1 < (t435.length : Int) := of_decide_eq_true (by first | (with_reducible assumption) | assumption)
                              obtain ⟨ad450, e450, hx450_0⟩ := Kd.at_int (Kd.R_reads' HO_3.out).2.2 x7_1 p450 q450
                              obtain rfl : ad439 = ad450 := (by injection e450)
                              replace p450 := eq_true p450
                              replace q450 := eq_true q450
                              go_wp2_with (first | (go_at_call 33; (with_reducible refine (petrinetlaw03_gcd.calls k1 x5_1 ji25 t451 _ A26.out).mono ?_); rintro e w' ⟨rfl, ⟨nd, rfl⟩⟩; (try first | exact ⟨rfl, _, World.drewN_drewN _ _ _⟩ | exact ⟨rfl, _, Eq.trans (World.drewN_drewN _ _ _) (congrArg (World.drewN _) (Nat.add_assoc _ _ _))⟩)))
                              go_quiet (first | (go_at_call 33; (with_reducible refine (petrinetlaw03_gcd.calls k1 x5_1 ji25 t451 _ A26.out).mono ?_); rintro e w' ⟨rfl, ⟨nd, rfl⟩⟩; (try first | exact ⟨rfl, _, World.drewN_drewN _ _ _⟩ | exact ⟨rfl, _, Eq.trans (World.drewN_drewN _ _ _) (congrArg (World.drewN _) (Nat.add_assoc _ _ _))⟩)))
                              try go_wp2_with (first | (go_at_call 33; (with_reducible refine (petrinetlaw03_gcd.calls k1 x5_1 ji25 t451 _ A26.out).mono ?_); rintro e w' ⟨rfl, ⟨nd, rfl⟩⟩; (try first | exact ⟨rfl, _, World.drewN_drewN _ _ _⟩ | exact ⟨rfl, _, Eq.trans (World.drewN_drewN _ _ _) (congrArg (World.drewN _) (Nat.add_assoc _ _ _))⟩)))
                              have c15b0h := Aside0.mk c15b0
                              clear c15b0
                              have c15b1h := Aside0.mk c15b1
                              clear c15b1
                              have c22b0h := Aside0.mk c22b0
                              clear c22b0
                              have c22b1h := Aside0.mk c22b1
                              clear c22b1
                              go_quiet (first | (go_at_call 33; (with_reducible refine (petrinetlaw03_gcd.calls k1 x5_1 ji25 t451 _ A26.out).mono ?_); rintro e w' ⟨rfl, ⟨nd, rfl⟩⟩; (try first | exact ⟨rfl, _, World.drewN_drewN _ _ _⟩ | exact ⟨rfl, _, Eq.trans (World.drewN_drewN _ _ _) (congrArg (World.drewN _) (Nat.add_assoc _ _ _))⟩)))
                              have c15b0 := c15b0h.out
                              have c15b1 := c15b1h.out
                              have c22b0 := c22b0h.out
                              have c22b1 := c22b1h.out
                              try go_wp2_with (first | (go_at_call 33; (with_reducible refine (petrinetlaw03_gcd.calls k1 x5_1 ji25 t451 _ A26.out).mono ?_); rintro e w' ⟨rfl, ⟨nd, rfl⟩⟩; (try first | exact ⟨rfl, _, World.drewN_drewN _ _ _⟩ | exact ⟨rfl, _, Eq.trans (World.drewN_drewN _ _ _) (congrArg (World.drewN _) (Nat.add_assoc _ _ _))⟩)))
                              try (go_quiet (first | (go_at_call 33; (with_reducible refine (petrinetlaw03_gcd.calls k1 x5_1 ji25 t451 _ A26.out).mono ?_); rintro e w' ⟨rfl, ⟨nd, rfl⟩⟩; (try first | exact ⟨rfl, _, World.drewN_drewN _ _ _⟩ | exact ⟨rfl, _, Eq.trans (World.drewN_drewN _ _ _) (congrArg (World.drewN _) (Nat.add_assoc _ _ _))⟩))); try go_wp2_with (first | (go_at_call 33; (with_reducible refine (petrinetlaw03_gcd.calls k1 x5_1 ji25 t451 _ A26.out).mono ?_); rintro e w' ⟨rfl, ⟨nd, rfl⟩⟩; (try first | exact ⟨rfl, _, World.drewN_drewN _ _ _⟩ | exact ⟨rfl, _, Eq.trans (World.drewN_drewN _ _ _) (congrArg (World.drewN _) (Nat.add_assoc _ _ _))⟩))))
                              go_roundg k1
                              case measure => have := HK1.out; omega
                              case rel => exact ⟨(t451), (x6_1), (wrap64 (x7_1 + 1)), (by first | rfl | (simp; done) | (simp [*]; done)), (by first | rfl | (simp; done) | (simp [*]; done)), (by first | rfl | (simp; done) | (simp [*]; done)), H', ⟨by have := HK1.out; omega⟩, ⟨by (with_reducible repeat (first | apply Kd.R_alloc | apply Kd.R_drewN | apply Kd.R_drew)); exact HO_3.out⟩, ⟨by repeat (first | (with_reducible first | exact HB.out | apply below_alloc | apply pw_below_drewN | apply below_drew1) | exact HB.out)⟩⟩
                  · rw [if_neg c14] at H
                    exact absurd H (by simp)
                · rw [if_neg c13] at H
                  exact absurd H (by simp)
              · rw [if_neg c12] at H
                have c12b0 : decide (x7_1 < (l0.length : Int)) = false := decide_eq_false c12
                clear c12
                by_cases c28 : x6_1 < 0
                · rw [if_pos c28] at H
                  exact absurd H (by simp)
                · rw [if_neg c28] at H
                  have c28b0 : decide (x6_1 < 0) = false := decide_eq_false c28
                  clear c28
                  by_cases c29 : x6_1 > 1048576
                  · rw [if_pos c29] at H
                    exact absurd H (by simp)
                  · rw [if_neg c29] at H
                    have c29b0 : decide (1048576 < x6_1) = false := decide_eq_false c29
                    clear c29
                    have H' := Aside0.mk H
                    clear H
                    go_wp2
                    repeat (go_quiet (fail); try go_wp2)
                    go_loopg [8] k1 (fun kq v8 w' => ∃ (x8_2 : Int), v8 = .int .i64 x8_2 ∧ Aside0 (petrinetlaw03_VectorPrimitive.l1 kq l0 t435 x5_1 x6_1 x8_2 = some r) ∧ Aside0 (kq ≤ k1) ∧ Aside0 (Kd.R (Kd.int .i64) 2 w' w.heap.size (fun _ => True) (.slice Ao11 t435.length co11) t435) ∧ Aside0 (Below w.heap.size w w'))
                    case atStart => exact ⟨(0), (by first | rfl | (simp; done) | (simp [*]; done)), H', ⟨Nat.le_refl _⟩, ⟨by (with_reducible repeat (first | apply Kd.R_alloc | apply Kd.R_drewN | apply Kd.R_drew)); exact HO_3.out⟩, ⟨by repeat (first | (with_reducible first | exact HB.out | apply below_alloc | apply pw_below_drewN | apply below_drew1) | exact HB.out)⟩⟩
                    case round =>
                      clear H'
                      try clear c1
                      try clear c2
                      try clear p2
                      try clear c3
                      try clear p4
                      try clear q4
                      try clear hx4
                      try clear c5
                      try clear p6
                      try clear c7
                      try clear c7b0
                      try clear c7b1
                      try clear c8
                      try clear c8b0
                      try clear c8b1
                      try clear c8b2
                      try clear c9
                      try clear c12
                      try clear c12b0
                      try clear c13
                      try clear c13b0
                      try clear c14
                      try clear c14b0
                      try clear c15
                      try clear c15b0
                      try clear c15b1
                      try clear c16
                      try clear c16b0
                      try clear c16b1
                      try clear c17
                      try clear c17b0
                      try clear c18
                      try clear c18b0
                      try clear c21
                      try clear c21b0
                      try clear c21b1
                      try clear c22
                      try clear c22b0
                      try clear c22b1
                      try clear c23
                      try clear c23b0
                      try clear c24
                      try clear c24b0
                      try clear c27
                      try clear c27b0
                      try clear c27b1
                      try clear c28
                      try clear c28b0
                      try clear c29
                      try clear c29b0
                      try clear hx439_0
                      try clear hx440_0
                      try clear hx441_0
                      try clear hx442_0
                      try clear hx443_0
                      try clear hx444_0
                      try clear hx446_0
                      try clear hx447_0
                      try clear hx448_0
                      try clear hx449_0
                      try clear hx450_0
                      try clear hx452_0
                      try clear hx453_0
                      try clear hx454_0
                      try clear p2
                      try clear p439
                      try clear p440
                      try clear p441
                      try clear p442
                      try clear p443
                      try clear p444
                      try clear p446
                      try clear p447
                      try clear p448
                      try clear p449
                      try clear p450
                      try clear p452
                      try clear p453
                      try clear p454
                      try clear q439
                      try clear q440
                      try clear q441
                      try clear q442
                      try clear q443
                      try clear q444
                      try clear q446
                      try clear q447
                      try clear q448
                      try clear q449
                      try clear q450
                      try clear q452
                      try clear q453
                      try clear q454
                      obtain ⟨x8_2, rfl, HA, HK2, HO_3, HB⟩ := hrel
                      cases gk with
                      | zero => exact absurd HA.out (by simp [petrinetlaw03_VectorPrimitive.l1])
                      | succ k2 =>
                        have H := HA.out
                        clear HA
                        simp only [petrinetlaw03_VectorPrimitive.l1] at H
                        by_cases c30 : x8_2 < (l0.length : Int)
                        · rw [if_pos c30] at H
                          have c30b0 : decide (x8_2 < (l0.length : Int)) = true := decide_eq_true c30
                          clear c30
                          by_cases c31 : 0 ≤ x8_2
                          · rw [if_pos c31] at H
                            have c31b0 : decide (0 ≤ x8_2) = true := decide_eq_true c31
                            clear c31
                            by_cases c32 : x8_2 < (t435.length : Int)
                            · rw [if_pos c32] at H
                              have c32b0 : decide (x8_2 < (t435.length : Int)) = true := decide_eq_true c32
                              clear c32
                              by_cases c33 : (wrap64 ((rd t435 x8_2) * x6_1)) = (rd l0 x8_2)
                              · rw [if_pos c33] at H
                                have c33b0 : ((wrap64 ((rd t435 x8_2) * x6_1)) == (rd l0 x8_2)) = true := beq_iff_eq.mpr c33
                                have c33b1 : ((wrap64 ((rd t435 x8_2) * x6_1)) != (rd l0 x8_2)) = false := bne_eq_false_iff_eq.mpr c33
                                clear c33
                                have H' := Aside0.mk H
                                clear H
                                have p455 : 0 ≤ (x8_2 : Int) := of_decide_eq_true (by first | (with_reducible assumption) | assumption)
                                have q455 : x8_2 < (t435.length : Int) := of_decide_eq_true (by first | (with_reducible assumption) | assumption)
                                obtain ⟨ad455, e455, hx455_0⟩ := Kd.at_int (Kd.R_reads' HO_3.out).2.2 x8_2 p455 q455
                                cases e455
                                replace p455 := eq_true p455
                                replace q455 := eq_true q455
                                have p456 : 0 ≤ (x8_2 : Int) := of_decide_eq_true (by first | (with_reducible assumption) | assumption)
                                have q456 : x8_2 < (l0.length : Int) := of_decide_eq_true (by first | (with_reducible assumption) | assumption)
                                obtain ⟨ad456, e456, hx456_0⟩ := Kd.at_int HR0.out x8_2 p456 q456
                                cases e456
                                replace hx456_0 := (HB.out.cell (World.block_lt_of_cell? w _ hx456_0)).trans hx456_0
                                replace p456 := eq_true p456
                                replace q456 := eq_true q456
                                go_wp2
                                repeat (go_quiet (fail); try go_wp2)
                                go_roundg k2
                                case measure => have := HK1.out; have := HK2.out; omega
                                case rel => exact ⟨(wrap64 (x8_2 + 1)), (by first | rfl | (simp; done) | (simp [*]; done)), H', ⟨by have := HK1.out; have := HK2.out; omega⟩, ⟨by (with_reducible repeat (first | apply Kd.R_alloc | apply Kd.R_drewN | apply Kd.R_drew)); exact HO_3.out⟩, ⟨by repeat (first | (with_reducible first | exact HB.out | apply below_alloc | apply pw_below_drewN | apply below_drew1) | exact HB.out)⟩⟩
                              · rw [if_neg c33] at H
                                exact absurd H (by simp)
                            · rw [if_neg c32] at H
                              exact absurd H (by simp)
                          · rw [if_neg c31] at H
                            exact absurd H (by simp)
                        · rw [if_neg c30] at H
                          have c30b0 : decide (x8_2 < (l0.length : Int)) = false := decide_eq_false c30
                          clear c30
                          by_cases c34 : x6_1 = 0
                          · rw [if_pos c34] at H
                            have c34b0 : (x6_1 == 0) = true := beq_iff_eq.mpr c34
                            have c34b1 : (x6_1 != 0) = false := bne_eq_false_iff_eq.mpr c34
                            clear c34
                            by_cases c35 : x5_1 = 0
                            · rw [if_pos c35] at H
                              have c35b0 : (x5_1 == 0) = true := beq_iff_eq.mpr c35
                              have c35b1 : (x5_1 != 0) = false := bne_eq_false_iff_eq.mpr c35
                              clear c35
                              obtain rfl := Option.some.inj H
                              go_wp2
                              repeat (go_quiet (fail); try go_wp2)
                              go_ret
                              exact ⟨by first | rfl | (simp [errW_none, errW_some] <;> rfl) | (simp [*, errW_none, errW_some] <;> rfl), by repeat (first | (with_reducible first | exact HB.out | apply below_alloc | apply pw_below_drewN | apply below_drew1) | exact HB.out)⟩
                            · rw [if_neg c35] at H
                              have c35b0 : (x5_1 == 0) = false := beq_eq_false_iff_ne.mpr c35
                              have c35b1 : (x5_1 != 0) = true := bne_iff_ne.mpr c35
                              by_cases c36 : x6_1 > 0
                              · rw [if_pos c36] at H
                                have c36b0 : decide (0 < x6_1) = true := decide_eq_true c36
                                clear c36
                                obtain rfl := Option.some.inj H
                                go_wp2
                                repeat (go_quiet (fail); try go_wp2)
                                go_ret
                                exact ⟨by first | rfl | (simp [errW_none, errW_some] <;> rfl) | (simp [*, errW_none, errW_some] <;> rfl), by repeat (first | (with_reducible first | exact HB.out | apply below_alloc | apply pw_below_drewN | apply below_drew1) | exact HB.out)⟩
                              · rw [if_neg c36] at H
                                exact absurd H (by simp)
                          · rw [if_neg c34] at H
                            have c34b0 : (x6_1 == 0) = false := beq_eq_false_iff_ne.mpr c34
                            have c34b1 : (x6_1 != 0) = true := bne_iff_ne.mpr c34
                            by_cases c37 : x6_1 > 0
                            · rw [if_pos c37] at H
                              have c37b0 : decide (0 < x6_1) = true := decide_eq_true c37
                              clear c37
                              obtain rfl := Option.some.inj H
                              go_wp2
                              repeat (go_quiet (fail); try go_wp2)
                              go_ret
                              exact ⟨by first | rfl | (simp [errW_none, errW_some] <;> rfl) | (simp [*, errW_none, errW_some] <;> rfl), by repeat (first | (with_reducible first | exact HB.out | apply below_alloc | apply pw_below_drewN | apply below_drew1) | exact HB.out)⟩
                            · rw [if_neg c37] at H
                              exact absurd H (by simp)
        · rw [if_neg c8] at H
          exact absurd H (by simp)
      · rw [if_neg c7] at H
        exact absurd H (by simp)
    · replace c5 := Bool.eq_false_iff.mpr c5
      subst c5
      have H1 : (some true) = some r := by rw [if_neg (show ¬ (false = true) by decide)] at H; exact H
      clear H
      have H := H1
      clear H1
      obtain rfl := Option.some.inj H
      go_enter Try.func9, Try.ntmps9
      go_wp2_with (first | (go_at_call 11; (with_reducible refine (petrinetlaw03_lives.calls k  true _ A2.out).mono ?_); rintro e w38 ⟨rfl, hb⟩; have n0_ := Aside0.mk (below_step (by repeat (first | (with_reducible first | exact HB.out | apply below_alloc | apply pw_below_drewN | apply below_drew1) | exact HB.out)) hb); clear HB; have HB := n0_; clear n0_; (try clear hb); (try clear hb2); (try clear hk); (try clear hi)) | (go_at_call 32; (with_reducible refine (petrinetlaw03_small.calls k _ _ l0 false _ ?side1 ?side2 A4.out).mono ?_); (case side1 => repeat (first | exact (Kd.C_below HR0.out HB.out) | (with_reducible refine Kd.C_alloc ?_ _) | (with_reducible refine Kd.C_drewN ?_ _) | (with_reducible refine Kd.C_drew ?_))); (case side2 => exact HC0.out); rintro e w' ⟨rfl, ⟨nd, rfl⟩⟩; (try first | exact ⟨rfl, _, World.drewN_drewN _ _ _⟩ | exact ⟨rfl, _, Eq.trans (World.drewN_drewN _ _ _) (congrArg (World.drewN _) (Nat.add_assoc _ _ _))⟩)))
      repeat (go_quiet (first | (go_at_call 11; (with_reducible refine (petrinetlaw03_lives.calls k  true _ A2.out).mono ?_); rintro e w38 ⟨rfl, hb⟩; have n0_ := Aside0.mk (below_step (by repeat (first | (with_reducible first | exact HB.out | apply below_alloc | apply pw_below_drewN | apply below_drew1) | exact HB.out)) hb); clear HB; have HB := n0_; clear n0_; (try clear hb); (try clear hb2); (try clear hk); (try clear hi)) | (go_at_call 32; (with_reducible refine (petrinetlaw03_small.calls k _ _ l0 false _ ?side1 ?side2 A4.out).mono ?_); (case side1 => repeat (first | exact (Kd.C_below HR0.out HB.out) | (with_reducible refine Kd.C_alloc ?_ _) | (with_reducible refine Kd.C_drewN ?_ _) | (with_reducible refine Kd.C_drew ?_))); (case side2 => exact HC0.out); rintro e w' ⟨rfl, ⟨nd, rfl⟩⟩; (try first | exact ⟨rfl, _, World.drewN_drewN _ _ _⟩ | exact ⟨rfl, _, Eq.trans (World.drewN_drewN _ _ _) (congrArg (World.drewN _) (Nat.add_assoc _ _ _))⟩))); try go_wp2_with (first | (go_at_call 11; (with_reducible refine (petrinetlaw03_lives.calls k  true _ A2.out).mono ?_); rintro e w38 ⟨rfl, hb⟩; have n0_ := Aside0.mk (below_step (by repeat (first | (with_reducible first | exact HB.out | apply below_alloc | apply pw_below_drewN | apply below_drew1) | exact HB.out)) hb); clear HB; have HB := n0_; clear n0_; (try clear hb); (try clear hb2); (try clear hk); (try clear hi)) | (go_at_call 32; (with_reducible refine (petrinetlaw03_small.calls k _ _ l0 false _ ?side1 ?side2 A4.out).mono ?_); (case side1 => repeat (first | exact (Kd.C_below HR0.out HB.out) | (with_reducible refine Kd.C_alloc ?_ _) | (with_reducible refine Kd.C_drewN ?_ _) | (with_reducible refine Kd.C_drew ?_))); (case side2 => exact HC0.out); rintro e w' ⟨rfl, ⟨nd, rfl⟩⟩; (try first | exact ⟨rfl, _, World.drewN_drewN _ _ _⟩ | exact ⟨rfl, _, Eq.trans (World.drewN_drewN _ _ _) (congrArg (World.drewN _) (Nat.add_assoc _ _ _))⟩))))
      go_ret
      exact ⟨by first | rfl | (simp [errW_none, errW_some] <;> rfl) | (simp [*, errW_none, errW_some] <;> rfl), by repeat (first | (with_reducible first | exact HB.out | apply below_alloc | apply pw_below_drewN | apply below_drew1) | exact HB.out)⟩
  · replace c3 := Bool.eq_false_iff.mpr c3
    subst c3
    have H1 : (none) = some r := by rw [if_neg (show ¬ (false = true) by decide)] at H; exact H
    clear H
    have H := H1
    clear H1
    exact absurd H (by simp)

/-- THE ONE PURE STATEMENT of petrinetlaw03_VectorPrimitive: yours. -/
def petrinetlaw03_VectorPrimitive.Pure : Prop := ∀ (l0 : List Int), l0.length ≤ maxLen → l0.length * 8 ≤ 140737488351232 → (∀ x ∈ l0, (Lit.int .i64 x).wf = true) → ∃ k, petrinetlaw03_VectorPrimitive.f k l0 = some true
theorem petrinetlaw03_VectorPrimitive.walk (P : petrinetlaw03_VectorPrimitive.Pure) (a0 : Option Addr) (len0 cap0 : Nat) (z0 : List Int) (w : World) (w0 : (a0 = none ∧ len0 = 0 ∧ cap0 = 0 ∧ z0 = []) ∨ ∃ x, a0 = some x ∧ len0 ≤ cap0 ∧ cap0 ≤ maxLen ∧ z0.length = cap0 ∧ (∀ i, i < z0.length → w.cell? (x.add i) = some (.int .i64 (z0.getD i 0))) ∧ ∀ n ∈ z0, (Lit.int .i64 n).wf = true) (y0 : len0 * 8 ≤ 140737488351232) :
    Calls Try.prog 9 #[.slice a0 len0 cap0] w fun e w' => e = .returned (.bool true) ∧ Below w.heap.size w w' := by
  obtain ⟨l0, rfl, hr0, hm0, hw0, hc0⟩ := ReadsInt.ofRowC w0
  obtain ⟨k, h⟩ := P l0 hm0 y0 hw0
  refine (petrinetlaw03_VectorPrimitive.calls k _ _ l0 true w (Kd.C_of_reads (d := (0 : Int)) (h1 := fun _ => rfl) hr0) hc0 h).mono ?_
  rintro e w' ⟨rfl, hd⟩
  exact ⟨rfl, hd⟩

end Go.Proofs.Ytojpjknjoikdgaa.Z
