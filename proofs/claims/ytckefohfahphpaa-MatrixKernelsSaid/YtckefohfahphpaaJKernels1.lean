/- Walks of the program's functions and plain laws, for the statement Kernels, for all inputs that each lemma names. -/
import Derived.Test.YtckefohfahphpaaWRepsOne
import Derived.Test.YtckefohfahphpaaJKernels0
section
namespace Go.Proofs.Ytckefohfahphpaa.Z
open Go.RowKit Go.Proofs.YtckefohfahphpaaW.PrintWords Go.Proofs.YtckefohfahphpaaW.PrintLast Go.Proofs.YtckefohfahphpaaW.PrintMore
attribute [local go_sem] max2_int min2_int max_two min_two max_three min_three max_four min_four   -- for this text's walks alone
set_option linter.unusedVariables false
set_option linter.unusedSimpArgs false

/-! ### safeint_Lcm: function 41 -/
def safeint_Lcm.j0 : Nat → Int → Int → Bool → Option (Int × Bool)
 | 0, _, _, _ => none
 | k + 1, x0, x1, x12 => if x12 = true then (some (0, true)) else ((safeint_size.f x0).bind fun t131 => ((safeint_size.f x0).bind fun t132 => ((safeint_size.f x1).bind fun t133 => ((safeint_common.f t132 t133).bind fun t134 => (if t134 = 0 then (none) else ((safeint_size.f x1).bind fun t135 => ((safeint_times.f (IntKind.u64.wrap (Int.tdiv t131 t134)) t135).bind fun bt136 => (if bt136.1 = 0 then ((safeint_signed.f k bt136.2 false).bind fun bt139 => (some (bt139.1, bt139.2))) else (some (0, false))))))))))
def safeint_Lcm.f (k : Nat) (a0 : Int) (a1 : Int) : Option (Int × Bool) := if a0 = 0 then (safeint_Lcm.j0 k a0 a1 true) else (safeint_Lcm.j0 k a0 a1 (a1 == 0))
theorem safeint_Lcm.mono_l : ∀ k, (∀ y0 y1 y2, LeO (safeint_Lcm.j0 k y0 y1 y2) (safeint_Lcm.j0 (k + 1) y0 y1 y2))
 | 0 => fun _ _ _ r h => by simp [safeint_Lcm.j0] at h
 | k + 1 => by
  have ih0 := safeint_Lcm.mono_l k
  ·
   intro y0 y1 y2
   unfold safeint_Lcm.j0
   repeat' first
   | (with_reducible exact ih0 _ _ _)
   | (with_reducible exact safeint_signed.mono _ _ _)
   | (with_reducible exact LeO.refl _)
   | (with_reducible exact LeO.none _)
   | (with_reducible refine LeO.ite ?_ ?_)
   | (with_reducible refine LeO.bind ?_ (fun _ => ?_))
   | exact ih0 _ _ _
   | exact safeint_signed.mono _ _ _
   | exact LeO.none _
   | refine LeO.ite ?_ ?_
   | refine LeO.bind ?_ (fun _ => ?_)
theorem safeint_Lcm.mono : ∀ a0 a1 k, LeO (safeint_Lcm.f k a0 a1) (safeint_Lcm.f (k + 1) a0 a1) := by
 intro a0 a1 k
 have ih0 := safeint_Lcm.mono_l k
 unfold safeint_Lcm.f
 repeat' first
   | (with_reducible exact ih0 _ _ _)
   | (with_reducible exact safeint_signed.mono _ _ _)
   | (with_reducible exact LeO.refl _)
   | (with_reducible exact LeO.none _)
   | (with_reducible refine LeO.ite ?_ ?_)
   | (with_reducible refine LeO.bind ?_ (fun _ => ?_))
   | exact ih0 _ _ _
   | exact safeint_signed.mono _ _ _
   | exact LeO.none _
   | refine LeO.ite ?_ ?_
   | refine LeO.bind ?_ (fun _ => ?_)
def safeint_Lcm.T3 : Bool × List (List Nat × List Nat) := (true, [([], []), ([0], [0]), ([], []), ([2, 1], [2]), ([], []), ([4, 3], [4]), ([3, 5, 5], [3, 5]), ([1, 6], [1, 6]), ([], []), ([8, 6], [8]), ([7, 9, 9], [7, 9]), ([], []), ([11, 10, 10, 0, 1, 2, 3, 4, 5, 6, 7, 8, 9, 10, 11], [10, 11])])
def safeint_Lcm.B3 : List Nat := [0, 1, 0, 7, 0, 31, 63, 127, 0, 383, 1023, 0, 4095]
theorem safeint_Lcm.tab3 : rtab .any (opsOf Try.f41 3) = safeint_Lcm.T3 := by kernel_rfl
theorem safeint_Lcm.bits3 : waitsOk safeint_Lcm.T3.2 safeint_Lcm.B3 = true := by kernel_rfl
set_option maxHeartbeats 8000000 in
set_option maxRecDepth 100000 in
theorem safeint_Lcm.calls (k : Nat) (a0 : Int) (a1 : Int) (r1 : Int) (r2 : Bool) (w : World) (h : safeint_Lcm.f k a0 a1 = some (r1, r2)) :
  Calls Try.prog 41 #[.int .i64 a0, .int .i64 a1] w fun e w' => e = .returned (.tuple #[.int .i64 r1, .bool r2]) ∧ Below w.heap.size w w' := by
 have hu74 := Try.underlying74
 have HB := Aside0.mk (Below.refl w.heap.size w)
 have H : (if a0 = 0 then (safeint_Lcm.j0 k a0 a1 true) else (safeint_Lcm.j0 k a0 a1 (a1 == 0))) = some (r1, r2) := h
 clear h
 have HC3 := Aside0.mk H
 clear H
 go_enter Try.func41, Try.ntmps41
 go_upto_region 1 with (fail)
 go_cut [12] (fun v12 wc => ∃ (kq : Nat) (x12_2 : Bool), v12 = .bool x12_2 ∧ Aside0 (safeint_Lcm.j0 kq a0 a1 x12_2 = some (r1, r2)) ∧ Aside0 (kq ≤ k) ∧ Aside0 (Below w.heap.size w wc))
 case first =>
  have H := HC3.out; clear HC3; by_cases c4 : a0 = 0
  ·
   rw [if_pos c4] at H; have c4b0 : (a0 == 0) = true := beq_iff_eq.mpr c4; have c4b1 : (a0 != 0) = false := bne_eq_false_iff_eq.mpr c4; clear c4; (first | rw [c4b0] | (simp only [i64_w, i32_w]; rw [c4b0]) | skip); have H' := Aside0.mk H; clear H; go_wp2; go_meet
   case rel => exact ⟨_, (true), (by first | rfl | (simp; done) | (simp [*]; done)), H', ⟨by first | omega | exact Nat.le_refl _⟩, ⟨by repeat (first | (with_reducible first | exact HB.out | apply below_alloc | apply pw_below_drewN | apply below_drew1) | exact HB.out)⟩⟩
  ·
   rw [if_neg c4] at H; have c4b0 : (a0 == 0) = false := beq_eq_false_iff_ne.mpr c4; have c4b1 : (a0 != 0) = true := bne_iff_ne.mpr c4; (first | rw [c4b0] | (simp only [i64_w, i32_w]; rw [c4b0]) | skip); have H' := Aside0.mk H; clear H; go_wp2; go_meet
   case rel => exact ⟨_, ((a1 == 0)), (by first | rfl | (simp; done) | (simp [*]; done)), H', ⟨by first | omega | exact Nat.le_refl _⟩, ⟨by repeat (first | (with_reducible first | exact HB.out | apply below_alloc | apply pw_below_drewN | apply below_drew1) | exact HB.out)⟩⟩
 case rest =>
  clear HC3; (try clear p2); (try clear c4); (try clear c4b0); (try clear c4b1); obtain ⟨kq, x12_2, rfl, HA, HJ2, HB⟩ := hcut
  cases kq with
  | zero => exact absurd HA.out (by simp [safeint_Lcm.j0])
  | succ kj2 =>
   have H := HA.out; clear HA; simp only [safeint_Lcm.j0] at H; by_cases c5 : x12_2 = true
   ·
    subst c5; (have H1 : (some (0, true)) = some (r1, r2) := by rw [if_pos rfl] at H; exact H); clear H; have H := H1; clear H1; simp only [Option.some.injEq, Prod.mk.injEq] at H; obtain ⟨rfl, rfl⟩ := H; go_wp2; go_ret2; (exact ⟨by first | rfl | (simp [errW_none, errW_some] <;> rfl) | (simp [*, errW_none, errW_some] <;> rfl), by repeat (first | (with_reducible first | exact HB.out | apply below_alloc | apply pw_below_drewN | apply below_drew1) | exact HB.out)⟩)
   ·
    replace c5 := Bool.eq_false_iff.mpr c5; subst c5; (have H1 : ((safeint_size.f a0).bind fun t131 => ((safeint_size.f a0).bind fun t132 => ((safeint_size.f a1).bind fun t133 => ((safeint_common.f t132 t133).bind fun t134 => (if t134 = 0 then (none) else ((safeint_size.f a1).bind fun t135 => ((safeint_times.f (IntKind.u64.wrap (Int.tdiv t131 t134)) t135).bind fun bt136 => (if bt136.1 = 0 then ((safeint_signed.f kj2 bt136.2 false).bind fun bt139 => (some (bt139.1, bt139.2))) else (some (0, false)))))))))) = some (r1, r2) := by rw [if_neg (show ¬ (false = true) by decide)] at H; exact H); clear H; have H := H1; clear H1; replace H := Option.bind_eq_some_iff.mp H; obtain ⟨t131, A60, H⟩ := H; (replace H : ((safeint_size.f a0).bind fun t132 => ((safeint_size.f a1).bind fun t133 => ((safeint_common.f t132 t133).bind fun t134 => (if t134 = 0 then (none) else ((safeint_size.f a1).bind fun t135 => ((safeint_times.f (IntKind.u64.wrap (Int.tdiv t131 t134)) t135).bind fun bt136 => (if bt136.1 = 0 then ((safeint_signed.f kj2 bt136.2 false).bind fun bt139 => (some (bt139.1, bt139.2))) else (some (0, false))))))))) = some (r1, r2) := H); have A6 := Aside0.mk A60; clear A60; replace H := Option.bind_eq_some_iff.mp H; obtain ⟨t132, A70, H⟩ := H; (replace H : ((safeint_size.f a1).bind fun t133 => ((safeint_common.f t132 t133).bind fun t134 => (if t134 = 0 then (none) else ((safeint_size.f a1).bind fun t135 => ((safeint_times.f (IntKind.u64.wrap (Int.tdiv t131 t134)) t135).bind fun bt136 => (if bt136.1 = 0 then ((safeint_signed.f kj2 bt136.2 false).bind fun bt139 => (some (bt139.1, bt139.2))) else (some (0, false)))))))) = some (r1, r2) := H); have A7 := Aside0.mk A70; clear A70; replace H := Option.bind_eq_some_iff.mp H; obtain ⟨t133, A80, H⟩ := H; (replace H : ((safeint_common.f t132 t133).bind fun t134 => (if t134 = 0 then (none) else ((safeint_size.f a1).bind fun t135 => ((safeint_times.f (IntKind.u64.wrap (Int.tdiv t131 t134)) t135).bind fun bt136 => (if bt136.1 = 0 then ((safeint_signed.f kj2 bt136.2 false).bind fun bt139 => (some (bt139.1, bt139.2))) else (some (0, false))))))) = some (r1, r2) := H); have A8 := Aside0.mk A80; clear A80; replace H := Option.bind_eq_some_iff.mp H; obtain ⟨t134, A90, H⟩ := H; (replace H : (if t134 = 0 then (none) else ((safeint_size.f a1).bind fun t135 => ((safeint_times.f (IntKind.u64.wrap (Int.tdiv t131 t134)) t135).bind fun bt136 => (if bt136.1 = 0 then ((safeint_signed.f kj2 bt136.2 false).bind fun bt139 => (some (bt139.1, bt139.2))) else (some (0, false)))))) = some (r1, r2) := H); have A9 := Aside0.mk A90; clear A90; by_cases c10 : t134 = 0
    ·
     rw [if_pos c10] at H; (exact absurd H (by simp))
    ·
     rw [if_neg c10] at H; have c10b0 : (t134 == 0) = false := beq_eq_false_iff_ne.mpr c10; have c10b1 : (t134 != 0) = true := bne_iff_ne.mpr c10; replace H := Option.bind_eq_some_iff.mp H; obtain ⟨t135, A110, H⟩ := H; (replace H : ((safeint_times.f (IntKind.u64.wrap (Int.tdiv t131 t134)) t135).bind fun bt136 => (if bt136.1 = 0 then ((safeint_signed.f kj2 bt136.2 false).bind fun bt139 => (some (bt139.1, bt139.2))) else (some (0, false)))) = some (r1, r2) := H); have A11 := Aside0.mk A110; clear A110; replace H := Option.bind_eq_some_iff.mp H; obtain ⟨⟨t136, t137⟩, A120, H⟩ := H; (replace H : (if t136 = 0 then ((safeint_signed.f kj2 t137 false).bind fun bt139 => (some (bt139.1, bt139.2))) else (some (0, false))) = some (r1, r2) := H); have A12 := Aside0.mk A120; clear A120; by_cases c13 : t136 = 0
     ·
      rw [if_pos c13] at H; have c13b0 : (t136 == 0) = true := beq_iff_eq.mpr c13; have c13b1 : (t136 != 0) = false := bne_eq_false_iff_eq.mpr c13; clear c13; replace H := Option.bind_eq_some_iff.mp H; obtain ⟨⟨t139, t140⟩, A140, H⟩ := H; replace H : (some (t139, t140)) = some (r1, r2) := H; have A14 := Aside0.mk A140; clear A140; simp only [Option.some.injEq, Prod.mk.injEq] at H; obtain ⟨rfl, rfl⟩ := H; (try go_wp2); have n0_ := Aside0.mk (below_drew1 HB.out); clear HB; have HB := n0_; clear n0_; (refine start_ (n := 13) (S := fun w' => True) (ds := []) #[false, false, false, false, false, false, false, false, false, false, false, false, false] (by kernel_rfl) rfl rfl trivial (fun hHeld => ?_); refine with_tabW safeint_Lcm.tab3 safeint_Lcm.bits3 (fun HT_ HW_ => ?_)); generalize wc.drew = w15 at HB hHeld ⊢; (refine pure_ (i := 0) (N := some 13) (v := ?_) (a' := ?_) #[true, false, false, false, false, false, false, false, false, false, false, false, false] rfl rfl (any_of HT_.out (by kernel_rfl)) (fun _ _ _ h => h) (Or.inl ⟨by rfl, ?_⟩) ?_ ?_); rotate_left
      ·
       intro w'; go_simp; (with_reducible rfl)
      rotate_left
      ·
       simp only [Act.put, List.setIfInBounds_toArray, List.set_cons_zero, List.set_cons_succ, i64_w, i32_w]; rfl
      (refine pure_ (i := 2) (N := some 15) (v := ?_) (a' := ?_) #[true, false, true, false, false, false, false, false, false, false, false, false, false] rfl rfl (any_of HT_.out (by kernel_rfl)) (fun _ _ _ h => h) (Or.inl ⟨by rfl, ?_⟩) ?_ ?_); rotate_left
      ·
       intro w'; go_simp; (with_reducible rfl)
      rotate_left
      ·
       simp only [Act.put, List.setIfInBounds_toArray, List.set_cons_zero, List.set_cons_succ, i64_w, i32_w]; rfl
      (refine pure_ (i := 4) (N := some 17) (v := ?_) (a' := ?_) #[true, false, true, false, true, false, false, false, false, false, false, false, false] rfl rfl (any_of HT_.out (by kernel_rfl)) (fun _ _ _ h => h) (Or.inl ⟨by rfl, ?_⟩) ?_ ?_); rotate_left
      ·
       intro w'; go_simp; (with_reducible rfl)
      rotate_left
      ·
       simp only [Act.put, List.setIfInBounds_toArray, List.set_cons_zero, List.set_cons_succ, i64_w, i32_w]; rfl
      (refine pure_ (i := 8) (N := some 21) (v := ?_) (a' := ?_) #[true, false, true, false, true, false, false, false, true, false, false, false, false] rfl rfl (any_of HT_.out (by kernel_rfl)) (fun _ _ _ h => h) (Or.inl ⟨by rfl, ?_⟩) ?_ ?_); rotate_left
      ·
       intro w'; go_simp; (with_reducible rfl)
      rotate_left
      ·
       simp only [Act.put, List.setIfInBounds_toArray, List.set_cons_zero, List.set_cons_succ, i64_w, i32_w]; rfl
      (refine join_ (σ := Nat) 1 #[true, true, true, true, true, true, true, true, true, true, true, true, false] (fun s_ => [(14, .int .u64 t131), (16, .int .u64 t132), (18, .int .u64 t133), (19, .int .u64 t134), (22, .int .u64 t135), (23, .agg #[.int .u64 t136, .int .u64 t137]), (6, .pointer (some ⟨s_, 0, none⟩)), (20, .int .u64 (IntKind.u64.wrap (Int.tdiv t131 t134)))]) (fun s_ w' => (w'.heap[s_]? = some (.cells #[.int .u64 0, .int .u64 0] 74 (0, 0))) ∧ (w.heap.size ≤ s_) ∧ (w.heap.size ≤ s_) ∧ (Below w.heap.size w w')) ?_ ?_); rotate_left
      ·
       intro hJ1_3_5_6_9_10_11; (refine join_ (σ := Unit) 2 #[true, true, true, true, true, true, true, true, true, true, true, false, false] (fun s_ => [(14, .int .u64 t131), (16, .int .u64 t132), (18, .int .u64 t133), (19, .int .u64 t134), (22, .int .u64 t135), (23, .agg #[.int .u64 t136, .int .u64 t137]), (20, .int .u64 (IntKind.u64.wrap (Int.tdiv t131 t134)))]) (fun s_ w' => (Below w.heap.size w w')) ?_ ?_); rotate_left
       ·
        intro hJ1_3_5_6_9_10; (refine join_ (σ := Nat) 2 #[true, true, true, true, true, true, true, true, true, true, false, true, false] (fun s_ => [(14, .int .u64 t131), (16, .int .u64 t132), (18, .int .u64 t133), (19, .int .u64 t134), (22, .int .u64 t135), (6, .pointer (some ⟨s_, 0, none⟩)), (20, .int .u64 (IntKind.u64.wrap (Int.tdiv t131 t134)))]) (fun s_ w' => (w'.heap[s_]? = some (.cells #[.int .u64 0, .int .u64 0] 74 (0, 0))) ∧ (w.heap.size ≤ s_) ∧ (w.heap.size ≤ s_) ∧ (Below w.heap.size w w')) ?_ ?_); rotate_left
        ·
         intro hJ1_3_5_6_9_11; (refine join_ (σ := Unit) 3 #[true, true, true, true, true, true, true, true, true, true, false, false, false] (fun s_ => [(14, .int .u64 t131), (16, .int .u64 t132), (18, .int .u64 t133), (19, .int .u64 t134), (22, .int .u64 t135), (20, .int .u64 (IntKind.u64.wrap (Int.tdiv t131 t134)))]) (fun s_ w' => (Below w.heap.size w w')) ?_ ?_); rotate_left
         ·
          intro hJ1_3_5_6_9; (refine join_ (σ := Nat) 3 #[true, true, true, true, true, true, true, true, true, false, false, true, false] (fun s_ => [(14, .int .u64 t131), (16, .int .u64 t132), (18, .int .u64 t133), (19, .int .u64 t134), (6, .pointer (some ⟨s_, 0, none⟩)), (20, .int .u64 (IntKind.u64.wrap (Int.tdiv t131 t134)))]) (fun s_ w' => (w'.heap[s_]? = some (.cells #[.int .u64 0, .int .u64 0] 74 (0, 0))) ∧ (w.heap.size ≤ s_) ∧ (w.heap.size ≤ s_) ∧ (Below w.heap.size w w')) ?_ ?_); rotate_left
          ·
           intro hJ1_3_5_6_11; (refine join_ (σ := Unit) 4 #[true, true, true, true, true, true, true, true, true, false, false, false, false] (fun s_ => [(14, .int .u64 t131), (16, .int .u64 t132), (18, .int .u64 t133), (19, .int .u64 t134), (20, .int .u64 (IntKind.u64.wrap (Int.tdiv t131 t134)))]) (fun s_ w' => (Below w.heap.size w w')) ?_ ?_); rotate_left
           ·
            intro hJ1_3_5_6; (refine join_ (σ := Nat) 5 #[true, true, true, true, true, true, false, false, true, false, false, true, false] (fun s_ => [(14, .int .u64 t131), (16, .int .u64 t132), (18, .int .u64 t133), (6, .pointer (some ⟨s_, 0, none⟩))]) (fun s_ w' => (w'.heap[s_]? = some (.cells #[.int .u64 0, .int .u64 0] 74 (0, 0))) ∧ (w.heap.size ≤ s_) ∧ (w.heap.size ≤ s_) ∧ (Below w.heap.size w w')) ?_ ?_); rotate_left
            ·
             intro hJ1_3_5_11; (refine join_ (σ := Unit) 6 #[true, true, true, true, true, true, false, false, true, false, false, false, false] (fun s_ => [(14, .int .u64 t131), (16, .int .u64 t132), (18, .int .u64 t133)]) (fun s_ w' => (Below w.heap.size w w')) ?_ ?_); rotate_left
             ·
              intro hJ1_3_5; (refine join_ (σ := Nat) 6 #[true, true, true, true, true, false, false, false, true, false, false, true, false] (fun s_ => [(14, .int .u64 t131), (16, .int .u64 t132), (6, .pointer (some ⟨s_, 0, none⟩))]) (fun s_ w' => (w'.heap[s_]? = some (.cells #[.int .u64 0, .int .u64 0] 74 (0, 0))) ∧ (w.heap.size ≤ s_) ∧ (w.heap.size ≤ s_) ∧ (Below w.heap.size w w')) ?_ ?_); rotate_left
              ·
               intro hJ1_3_11; (refine join_ (σ := Unit) 7 #[true, true, true, true, true, false, false, false, true, false, false, false, false] (fun s_ => [(14, .int .u64 t131), (16, .int .u64 t132)]) (fun s_ w' => (Below w.heap.size w w')) ?_ ?_); rotate_left
               ·
                intro hJ1_3; (refine join_ (σ := Nat) 7 #[true, true, true, false, true, false, false, false, true, false, false, true, false] (fun s_ => [(14, .int .u64 t131), (6, .pointer (some ⟨s_, 0, none⟩))]) (fun s_ w' => (w'.heap[s_]? = some (.cells #[.int .u64 0, .int .u64 0] 74 (0, 0))) ∧ (w.heap.size ≤ s_) ∧ (w.heap.size ≤ s_) ∧ (Below w.heap.size w w')) ?_ ?_); rotate_left
                ·
                 intro hJ1_11; (refine join_ (σ := Unit) 8 #[true, true, true, false, true, false, false, false, true, false, false, false, false] (fun s_ => [(14, .int .u64 t131)]) (fun s_ w' => (Below w.heap.size w w')) ?_ ?_); rotate_left
                 ·
                  intro hJ1; (refine join_ (σ := Nat) 8 #[true, false, true, false, true, false, false, false, true, false, false, true, false] (fun s_ => [(6, .pointer (some ⟨s_, 0, none⟩))]) (fun s_ w' => (w'.heap[s_]? = some (.cells #[.int .u64 0, .int .u64 0] 74 (0, 0))) ∧ (w.heap.size ≤ s_) ∧ (w.heap.size ≤ s_) ∧ (Below w.heap.size w w')) ?_ ?_); rotate_left
                  ·
                   intro hJ11; (refine two_ (i := 1) (j := 11) (Ni := some 14) (Nj := some 6) #[true, true, true, false, true, false, false, false, true, false, false, false, false] #[true, false, true, false, true, false, false, false, true, false, false, true, false] rfl rfl rfl rfl (two_of HT_.out (by kernel_rfl)) (by decide) (by decide) (fun K hK => ?_) (fun K hK => ?_))
                   ·
                    skip; (refine goes_ Try.func51 (by kernel_rfl) rfl #[.int .i64 a0] (by rfl) rfl rfl (by (try simp only [List.map_toArray, List.map_cons, List.map_nil]); first | done | rfl | (simp only [List.length_drop, List.length_take]; rfl)) ?_); (with_reducible refine (safeint_size.calls a0 t131 _ A6.out).mono ?_); rintro e w' ⟨rfl, ⟨nd, rfl⟩⟩; refine ⟨_, rfl, ?_⟩; (refine hK.out _ _ trivial (fun hHeld => ?_)); clear hK K; refine norm_ (a' := ?_) ?_ ?_; rotate_left
                    ·
                     show Act.put _ (some 14) _ = _
                     simp only [Act.put, List.setIfInBounds_toArray, List.set_cons_zero, List.set_cons_succ, i64_w, i32_w]; rfl
                    exact norm_ (by first | (simp only [putAll, Act.put, List.setIfInBounds_toArray, List.set_cons_zero, List.set_cons_succ]; done) | (simp only [putAll, Act.put, List.setIfInBounds_toArray, List.set_cons_zero, List.set_cons_succ]; rfl)) (hJ1 () _ (by repeat (first | (with_reducible first | exact HB.out | apply below_alloc | apply pw_below_drewN | apply below_drew1) | exact HB.out)))
                   ·
                    skip; (refine box_step ?hg (N := 6) ?hd (cs := #[.int .u64 0, .int .u64 0]) (t := 74) ?hr ?_; (case hd => rfl); (case hg => rfl); (case hr => first | (go_simp; done) | (go_simp; rfl))); intro gb138 hg w16 hbox hb; (have n0_ := Aside0.mk (below_step (by repeat (first | (with_reducible first | exact HB.out | apply below_alloc | apply pw_below_drewN | apply below_drew1) | exact HB.out)) hb)); have n1_ := Aside0.mk (hbox); (have n2_ := Aside0.mk ((by rw [hg]; exact (below_size (by repeat (first | (with_reducible first | exact HB.out | apply below_alloc | apply pw_below_drewN | apply below_drew1) | exact HB.out))) : w.heap.size ≤ gb138))); (have n3_ := Aside0.mk ((by rw [hg]; exact (below_size (by repeat (first | (with_reducible first | exact HB.out | apply below_alloc | apply pw_below_drewN | apply below_drew1) | exact HB.out))) : w.heap.size ≤ gb138))); clear HB; have HB := n0_; have BK138 := n1_; have GW138 := n2_; have GE138 := n3_; clear n0_ n1_ n2_ n3_; clear hb hbox hg; (refine hK.out _ _ trivial (fun hHeld => ?_)); clear hK K; refine norm_ (a' := ?_) ?_ ?_; rotate_left
                    ·
                     show Act.put _ (some 6) _ = _
                     simp only [Act.put, List.setIfInBounds_toArray, List.set_cons_zero, List.set_cons_succ, i64_w, i32_w]; rfl
                    exact norm_ (by first | (simp only [putAll, Act.put, List.setIfInBounds_toArray, List.set_cons_zero, List.set_cons_succ]; done) | (simp only [putAll, Act.put, List.setIfInBounds_toArray, List.set_cons_zero, List.set_cons_succ]; rfl)) (hJ11 (gb138) _ ⟨(by (with_reducible repeat (first | refine blk_drewN ?_ _ | refine blk_drew ?_ | refine blk_alloc ?_ _)); exact BK138.out), GW138.out, GE138.out, (by repeat (first | (with_reducible first | exact HB.out | apply below_alloc | apply pw_below_drewN | apply below_drew1 | refine below_set ?_ GE138.out) | exact HB.out))⟩)
                  ·
                   skip; rintro gb138 w17 ⟨h0_, h1_, h2_, h3_⟩; have n0_ : Aside0 (w17.heap[gb138]? = some (.cells #[.int .u64 0, .int .u64 0] 74 (0, 0))) := ⟨h0_⟩; have n1_ : Aside0 (w.heap.size ≤ gb138) := ⟨h1_⟩; have n2_ : Aside0 (w.heap.size ≤ gb138) := ⟨h2_⟩; have n3_ : Aside0 (Below w.heap.size w w17) := ⟨h3_⟩; clear HB; clear h0_ h1_ h2_ h3_; have BK138 := n0_; have GW138 := n1_; have GE138 := n2_; have HB := n3_; clear n0_ n1_ n2_ n3_; have hHeld := trivial; refine norm_ (a' := ?_) ?_ ?_; rotate_left
                   ·
                    simp only [putAll, Act.put, List.setIfInBounds_toArray, List.set_cons_zero, List.set_cons_succ]; rfl
                   (refine one_ (i := 1) (N := some 14) #[true, true, true, false, true, false, false, false, true, false, false, true, false] rfl rfl (one_of HT_.out (by kernel_rfl)) (by decide) (fun K hK => ?_)); (refine goes_ Try.func51 (by kernel_rfl) rfl #[.int .i64 a0] (by rfl) rfl rfl (by (try simp only [List.map_toArray, List.map_cons, List.map_nil]); first | done | rfl | (simp only [List.length_drop, List.length_take]; rfl)) ?_); (with_reducible refine (safeint_size.calls a0 t131 _ A6.out).mono ?_); rintro e w' ⟨rfl, ⟨nd, rfl⟩⟩; refine ⟨_, rfl, ?_⟩; (refine hK.out _ _ trivial (fun hHeld => ?_)); clear hK K; refine norm_ (a' := ?_) ?_ ?_; rotate_left
                   ·
                    show Act.put _ (some 14) _ = _
                    simp only [Act.put, List.setIfInBounds_toArray, List.set_cons_zero, List.set_cons_succ, i64_w, i32_w]; rfl
                   exact norm_ (by first | (simp only [putAll, Act.put, List.setIfInBounds_toArray, List.set_cons_zero, List.set_cons_succ]; done) | (simp only [putAll, Act.put, List.setIfInBounds_toArray, List.set_cons_zero, List.set_cons_succ]; rfl)) (hJ1_11 (gb138) _ ⟨(by (with_reducible repeat (first | refine blk_drewN ?_ _ | refine blk_drew ?_ | refine blk_alloc ?_ _)); exact BK138.out), GW138.out, GE138.out, (by repeat (first | (with_reducible first | exact HB.out | apply below_alloc | apply pw_below_drewN | apply below_drew1 | refine below_set ?_ GE138.out) | exact HB.out))⟩)
                 ·
                  skip; rintro _ w16 h0_; have n0_ : Aside0 (Below w.heap.size w w16) := ⟨h0_⟩; clear HB; clear h0_; have HB := n0_; clear n0_; have hHeld := trivial; refine norm_ (a' := ?_) ?_ ?_; rotate_left
                  ·
                   simp only [putAll, Act.put, List.setIfInBounds_toArray, List.set_cons_zero, List.set_cons_succ]; rfl
                  refine two_ (i := 3) (j := 11) (Ni := some 16) (Nj := some 6) #[true, true, true, true, true, false, false, false, true, false, false, false, false] #[true, true, true, false, true, false, false, false, true, false, false, true, false] rfl rfl rfl rfl (two_of HT_.out (by kernel_rfl)) (by decide) (by decide) (fun K hK => ?_) (fun K hK => ?_)
                  ·
                   skip; (refine goes_ Try.func51 (by kernel_rfl) rfl #[.int .i64 a0] (by rfl) rfl rfl (by (try simp only [List.map_toArray, List.map_cons, List.map_nil]); first | done | rfl | (simp only [List.length_drop, List.length_take]; rfl)) ?_); (with_reducible refine (safeint_size.calls a0 t132 _ A7.out).mono ?_); rintro e w' ⟨rfl, ⟨nd, rfl⟩⟩; refine ⟨_, rfl, ?_⟩; (refine hK.out _ _ trivial (fun hHeld => ?_)); clear hK K; refine norm_ (a' := ?_) ?_ ?_; rotate_left
                   ·
                    show Act.put _ (some 16) _ = _
                    simp only [Act.put, List.setIfInBounds_toArray, List.set_cons_zero, List.set_cons_succ, i64_w, i32_w]; rfl
                   exact norm_ (by first | (simp only [putAll, Act.put, List.setIfInBounds_toArray, List.set_cons_zero, List.set_cons_succ]; done) | (simp only [putAll, Act.put, List.setIfInBounds_toArray, List.set_cons_zero, List.set_cons_succ]; rfl)) (hJ1_3 () _ (by repeat (first | (with_reducible first | exact HB.out | apply below_alloc | apply pw_below_drewN | apply below_drew1) | exact HB.out)))
                  ·
                   skip; (refine box_step ?hg (N := 6) ?hd (cs := #[.int .u64 0, .int .u64 0]) (t := 74) ?hr ?_; (case hd => rfl); (case hg => rfl); (case hr => first | (go_simp; done) | (go_simp; rfl))); intro gb138 hg w17 hbox hb; (have n0_ := Aside0.mk (below_step (by repeat (first | (with_reducible first | exact HB.out | apply below_alloc | apply pw_below_drewN | apply below_drew1) | exact HB.out)) hb)); have n1_ := Aside0.mk (hbox); (have n2_ := Aside0.mk ((by rw [hg]; exact (below_size (by repeat (first | (with_reducible first | exact HB.out | apply below_alloc | apply pw_below_drewN | apply below_drew1) | exact HB.out))) : w.heap.size ≤ gb138))); (have n3_ := Aside0.mk ((by rw [hg]; exact (below_size (by repeat (first | (with_reducible first | exact HB.out | apply below_alloc | apply pw_below_drewN | apply below_drew1) | exact HB.out))) : w.heap.size ≤ gb138))); clear HB; have HB := n0_; have BK138 := n1_; have GW138 := n2_; have GE138 := n3_; clear n0_ n1_ n2_ n3_; clear hb hbox hg; (refine hK.out _ _ trivial (fun hHeld => ?_)); clear hK K; refine norm_ (a' := ?_) ?_ ?_; rotate_left
                   ·
                    show Act.put _ (some 6) _ = _
                    simp only [Act.put, List.setIfInBounds_toArray, List.set_cons_zero, List.set_cons_succ, i64_w, i32_w]; rfl
                   exact norm_ (by first | (simp only [putAll, Act.put, List.setIfInBounds_toArray, List.set_cons_zero, List.set_cons_succ]; done) | (simp only [putAll, Act.put, List.setIfInBounds_toArray, List.set_cons_zero, List.set_cons_succ]; rfl)) (hJ1_11 (gb138) _ ⟨(by (with_reducible repeat (first | refine blk_drewN ?_ _ | refine blk_drew ?_ | refine blk_alloc ?_ _)); exact BK138.out), GW138.out, GE138.out, (by repeat (first | (with_reducible first | exact HB.out | apply below_alloc | apply pw_below_drewN | apply below_drew1 | refine below_set ?_ GE138.out) | exact HB.out))⟩)
                ·
                 skip; rintro gb138 w17 ⟨h0_, h1_, h2_, h3_⟩; have n0_ : Aside0 (w17.heap[gb138]? = some (.cells #[.int .u64 0, .int .u64 0] 74 (0, 0))) := ⟨h0_⟩; have n1_ : Aside0 (w.heap.size ≤ gb138) := ⟨h1_⟩; have n2_ : Aside0 (w.heap.size ≤ gb138) := ⟨h2_⟩; have n3_ : Aside0 (Below w.heap.size w w17) := ⟨h3_⟩; clear HB; clear h0_ h1_ h2_ h3_; have BK138 := n0_; have GW138 := n1_; have GE138 := n2_; have HB := n3_; clear n0_ n1_ n2_ n3_; have hHeld := trivial; refine norm_ (a' := ?_) ?_ ?_; rotate_left
                 ·
                  simp only [putAll, Act.put, List.setIfInBounds_toArray, List.set_cons_zero, List.set_cons_succ]; rfl
                 (refine one_ (i := 3) (N := some 16) #[true, true, true, true, true, false, false, false, true, false, false, true, false] rfl rfl (one_of HT_.out (by kernel_rfl)) (by decide) (fun K hK => ?_)); (refine goes_ Try.func51 (by kernel_rfl) rfl #[.int .i64 a0] (by rfl) rfl rfl (by (try simp only [List.map_toArray, List.map_cons, List.map_nil]); first | done | rfl | (simp only [List.length_drop, List.length_take]; rfl)) ?_); (with_reducible refine (safeint_size.calls a0 t132 _ A7.out).mono ?_); rintro e w' ⟨rfl, ⟨nd, rfl⟩⟩; refine ⟨_, rfl, ?_⟩; (refine hK.out _ _ trivial (fun hHeld => ?_)); clear hK K; refine norm_ (a' := ?_) ?_ ?_; rotate_left
                 ·
                  show Act.put _ (some 16) _ = _
                  simp only [Act.put, List.setIfInBounds_toArray, List.set_cons_zero, List.set_cons_succ, i64_w, i32_w]; rfl
                 exact norm_ (by first | (simp only [putAll, Act.put, List.setIfInBounds_toArray, List.set_cons_zero, List.set_cons_succ]; done) | (simp only [putAll, Act.put, List.setIfInBounds_toArray, List.set_cons_zero, List.set_cons_succ]; rfl)) (hJ1_3_11 (gb138) _ ⟨(by (with_reducible repeat (first | refine blk_drewN ?_ _ | refine blk_drew ?_ | refine blk_alloc ?_ _)); exact BK138.out), GW138.out, GE138.out, (by repeat (first | (with_reducible first | exact HB.out | apply below_alloc | apply pw_below_drewN | apply below_drew1 | refine below_set ?_ GE138.out) | exact HB.out))⟩)
               ·
                skip; rintro _ w16 h0_; have n0_ : Aside0 (Below w.heap.size w w16) := ⟨h0_⟩; clear HB; clear h0_; have HB := n0_; clear n0_; have hHeld := trivial; refine norm_ (a' := ?_) ?_ ?_; rotate_left
                ·
                 simp only [putAll, Act.put, List.setIfInBounds_toArray, List.set_cons_zero, List.set_cons_succ]; rfl
                refine two_ (i := 5) (j := 11) (Ni := some 18) (Nj := some 6) #[true, true, true, true, true, true, false, false, true, false, false, false, false] #[true, true, true, true, true, false, false, false, true, false, false, true, false] rfl rfl rfl rfl (two_of HT_.out (by kernel_rfl)) (by decide) (by decide) (fun K hK => ?_) (fun K hK => ?_)
                ·
                 skip; (refine goes_ Try.func51 (by kernel_rfl) rfl #[.int .i64 a1] (by rfl) rfl rfl (by (try simp only [List.map_toArray, List.map_cons, List.map_nil]); first | done | rfl | (simp only [List.length_drop, List.length_take]; rfl)) ?_); (with_reducible refine (safeint_size.calls a1 t133 _ A8.out).mono ?_); rintro e w' ⟨rfl, ⟨nd, rfl⟩⟩; refine ⟨_, rfl, ?_⟩; (refine hK.out _ _ trivial (fun hHeld => ?_)); clear hK K; refine norm_ (a' := ?_) ?_ ?_; rotate_left
                 ·
                  show Act.put _ (some 18) _ = _
                  simp only [Act.put, List.setIfInBounds_toArray, List.set_cons_zero, List.set_cons_succ, i64_w, i32_w]; rfl
                 exact norm_ (by first | (simp only [putAll, Act.put, List.setIfInBounds_toArray, List.set_cons_zero, List.set_cons_succ]; done) | (simp only [putAll, Act.put, List.setIfInBounds_toArray, List.set_cons_zero, List.set_cons_succ]; rfl)) (hJ1_3_5 () _ (by repeat (first | (with_reducible first | exact HB.out | apply below_alloc | apply pw_below_drewN | apply below_drew1) | exact HB.out)))
                ·
                 skip; (refine box_step ?hg (N := 6) ?hd (cs := #[.int .u64 0, .int .u64 0]) (t := 74) ?hr ?_; (case hd => rfl); (case hg => rfl); (case hr => first | (go_simp; done) | (go_simp; rfl))); intro gb138 hg w17 hbox hb; (have n0_ := Aside0.mk (below_step (by repeat (first | (with_reducible first | exact HB.out | apply below_alloc | apply pw_below_drewN | apply below_drew1) | exact HB.out)) hb)); have n1_ := Aside0.mk (hbox); (have n2_ := Aside0.mk ((by rw [hg]; exact (below_size (by repeat (first | (with_reducible first | exact HB.out | apply below_alloc | apply pw_below_drewN | apply below_drew1) | exact HB.out))) : w.heap.size ≤ gb138))); (have n3_ := Aside0.mk ((by rw [hg]; exact (below_size (by repeat (first | (with_reducible first | exact HB.out | apply below_alloc | apply pw_below_drewN | apply below_drew1) | exact HB.out))) : w.heap.size ≤ gb138))); clear HB; have HB := n0_; have BK138 := n1_; have GW138 := n2_; have GE138 := n3_; clear n0_ n1_ n2_ n3_; clear hb hbox hg; (refine hK.out _ _ trivial (fun hHeld => ?_)); clear hK K; refine norm_ (a' := ?_) ?_ ?_; rotate_left
                 ·
                  show Act.put _ (some 6) _ = _
                  simp only [Act.put, List.setIfInBounds_toArray, List.set_cons_zero, List.set_cons_succ, i64_w, i32_w]; rfl
                 exact norm_ (by first | (simp only [putAll, Act.put, List.setIfInBounds_toArray, List.set_cons_zero, List.set_cons_succ]; done) | (simp only [putAll, Act.put, List.setIfInBounds_toArray, List.set_cons_zero, List.set_cons_succ]; rfl)) (hJ1_3_11 (gb138) _ ⟨(by (with_reducible repeat (first | refine blk_drewN ?_ _ | refine blk_drew ?_ | refine blk_alloc ?_ _)); exact BK138.out), GW138.out, GE138.out, (by repeat (first | (with_reducible first | exact HB.out | apply below_alloc | apply pw_below_drewN | apply below_drew1 | refine below_set ?_ GE138.out) | exact HB.out))⟩)
              ·
               skip; rintro gb138 w17 ⟨h0_, h1_, h2_, h3_⟩; have n0_ : Aside0 (w17.heap[gb138]? = some (.cells #[.int .u64 0, .int .u64 0] 74 (0, 0))) := ⟨h0_⟩; have n1_ : Aside0 (w.heap.size ≤ gb138) := ⟨h1_⟩; have n2_ : Aside0 (w.heap.size ≤ gb138) := ⟨h2_⟩; have n3_ : Aside0 (Below w.heap.size w w17) := ⟨h3_⟩; clear HB; clear h0_ h1_ h2_ h3_; have BK138 := n0_; have GW138 := n1_; have GE138 := n2_; have HB := n3_; clear n0_ n1_ n2_ n3_; have hHeld := trivial; refine norm_ (a' := ?_) ?_ ?_; rotate_left
               ·
                simp only [putAll, Act.put, List.setIfInBounds_toArray, List.set_cons_zero, List.set_cons_succ]; rfl
               (refine one_ (i := 5) (N := some 18) #[true, true, true, true, true, true, false, false, true, false, false, true, false] rfl rfl (one_of HT_.out (by kernel_rfl)) (by decide) (fun K hK => ?_)); (refine goes_ Try.func51 (by kernel_rfl) rfl #[.int .i64 a1] (by rfl) rfl rfl (by (try simp only [List.map_toArray, List.map_cons, List.map_nil]); first | done | rfl | (simp only [List.length_drop, List.length_take]; rfl)) ?_); (with_reducible refine (safeint_size.calls a1 t133 _ A8.out).mono ?_); rintro e w' ⟨rfl, ⟨nd, rfl⟩⟩; refine ⟨_, rfl, ?_⟩; (refine hK.out _ _ trivial (fun hHeld => ?_)); clear hK K; refine norm_ (a' := ?_) ?_ ?_; rotate_left
               ·
                show Act.put _ (some 18) _ = _
                simp only [Act.put, List.setIfInBounds_toArray, List.set_cons_zero, List.set_cons_succ, i64_w, i32_w]; rfl
               exact norm_ (by first | (simp only [putAll, Act.put, List.setIfInBounds_toArray, List.set_cons_zero, List.set_cons_succ]; done) | (simp only [putAll, Act.put, List.setIfInBounds_toArray, List.set_cons_zero, List.set_cons_succ]; rfl)) (hJ1_3_5_11 (gb138) _ ⟨(by (with_reducible repeat (first | refine blk_drewN ?_ _ | refine blk_drew ?_ | refine blk_alloc ?_ _)); exact BK138.out), GW138.out, GE138.out, (by repeat (first | (with_reducible first | exact HB.out | apply below_alloc | apply pw_below_drewN | apply below_drew1 | refine below_set ?_ GE138.out) | exact HB.out))⟩)
             ·
              skip; rintro _ w16 h0_; have n0_ : Aside0 (Below w.heap.size w w16) := ⟨h0_⟩; clear HB; clear h0_; have HB := n0_; clear n0_; have hHeld := trivial; refine norm_ (a' := ?_) ?_ ?_; rotate_left
              ·
               simp only [putAll, Act.put, List.setIfInBounds_toArray, List.set_cons_zero, List.set_cons_succ]; rfl
              refine two_ (i := 6) (j := 11) (Ni := some 19) (Nj := some 6) #[true, true, true, true, true, true, true, false, true, false, false, false, false] #[true, true, true, true, true, true, false, false, true, false, false, true, false] rfl rfl rfl rfl (two_of HT_.out (by kernel_rfl)) (by decide) (by decide) (fun K hK => ?_) (fun K hK => ?_)
              ·
               skip; (refine goes_ Try.func50 (by kernel_rfl) rfl #[.int .u64 t132, .int .u64 t133] (by rfl) rfl rfl (by (try simp only [List.map_toArray, List.map_cons, List.map_nil]); first | done | rfl | (simp only [List.length_drop, List.length_take]; rfl)) ?_); (with_reducible refine (safeint_common.calls t132 t133 t134 _ A9.out).mono ?_); rintro e w' ⟨rfl, ⟨nd, rfl⟩⟩; refine ⟨_, rfl, ?_⟩; (refine hK.out _ _ trivial (fun hHeld => ?_)); clear hK K; refine norm_ (a' := ?_) ?_ ?_; rotate_left
               ·
                show Act.put _ (some 19) _ = _
                simp only [Act.put, List.setIfInBounds_toArray, List.set_cons_zero, List.set_cons_succ, i64_w, i32_w]; rfl
               (refine pure_ (i := 7) (N := some 20) (v := ?_) (a' := ?_) #[true, true, true, true, true, true, true, true, true, false, false, false, false] rfl rfl (any_of HT_.out (by kernel_rfl)) (fun _ _ _ h => h) (Or.inl ⟨by rfl, ?_⟩) ?_ ?_); rotate_left
               ·
                intro w'; go_simp; (with_reducible rfl)
               rotate_left
               ·
                simp only [Act.put, List.setIfInBounds_toArray, List.set_cons_zero, List.set_cons_succ, i64_w, i32_w]; rfl
               exact norm_ (by first | (simp only [putAll, Act.put, List.setIfInBounds_toArray, List.set_cons_zero, List.set_cons_succ]; done) | (simp only [putAll, Act.put, List.setIfInBounds_toArray, List.set_cons_zero, List.set_cons_succ]; rfl)) (hJ1_3_5_6 () _ (by repeat (first | (with_reducible first | exact HB.out | apply below_alloc | apply pw_below_drewN | apply below_drew1) | exact HB.out)))
              ·
               skip; (refine box_step ?hg (N := 6) ?hd (cs := #[.int .u64 0, .int .u64 0]) (t := 74) ?hr ?_; (case hd => rfl); (case hg => rfl); (case hr => first | (go_simp; done) | (go_simp; rfl))); intro gb138 hg w17 hbox hb; (have n0_ := Aside0.mk (below_step (by repeat (first | (with_reducible first | exact HB.out | apply below_alloc | apply pw_below_drewN | apply below_drew1) | exact HB.out)) hb)); have n1_ := Aside0.mk (hbox); (have n2_ := Aside0.mk ((by rw [hg]; exact (below_size (by repeat (first | (with_reducible first | exact HB.out | apply below_alloc | apply pw_below_drewN | apply below_drew1) | exact HB.out))) : w.heap.size ≤ gb138))); (have n3_ := Aside0.mk ((by rw [hg]; exact (below_size (by repeat (first | (with_reducible first | exact HB.out | apply below_alloc | apply pw_below_drewN | apply below_drew1) | exact HB.out))) : w.heap.size ≤ gb138))); clear HB; have HB := n0_; have BK138 := n1_; have GW138 := n2_; have GE138 := n3_; clear n0_ n1_ n2_ n3_; clear hb hbox hg; (refine hK.out _ _ trivial (fun hHeld => ?_)); clear hK K; refine norm_ (a' := ?_) ?_ ?_; rotate_left
               ·
                show Act.put _ (some 6) _ = _
                simp only [Act.put, List.setIfInBounds_toArray, List.set_cons_zero, List.set_cons_succ, i64_w, i32_w]; rfl
               exact norm_ (by first | (simp only [putAll, Act.put, List.setIfInBounds_toArray, List.set_cons_zero, List.set_cons_succ]; done) | (simp only [putAll, Act.put, List.setIfInBounds_toArray, List.set_cons_zero, List.set_cons_succ]; rfl)) (hJ1_3_5_11 (gb138) _ ⟨(by (with_reducible repeat (first | refine blk_drewN ?_ _ | refine blk_drew ?_ | refine blk_alloc ?_ _)); exact BK138.out), GW138.out, GE138.out, (by repeat (first | (with_reducible first | exact HB.out | apply below_alloc | apply pw_below_drewN | apply below_drew1 | refine below_set ?_ GE138.out) | exact HB.out))⟩)
            ·
             skip; rintro gb138 w17 ⟨h0_, h1_, h2_, h3_⟩; have n0_ : Aside0 (w17.heap[gb138]? = some (.cells #[.int .u64 0, .int .u64 0] 74 (0, 0))) := ⟨h0_⟩; have n1_ : Aside0 (w.heap.size ≤ gb138) := ⟨h1_⟩; have n2_ : Aside0 (w.heap.size ≤ gb138) := ⟨h2_⟩; have n3_ : Aside0 (Below w.heap.size w w17) := ⟨h3_⟩; clear HB; clear h0_ h1_ h2_ h3_; have BK138 := n0_; have GW138 := n1_; have GE138 := n2_; have HB := n3_; clear n0_ n1_ n2_ n3_; have hHeld := trivial; refine norm_ (a' := ?_) ?_ ?_; rotate_left
             ·
              simp only [putAll, Act.put, List.setIfInBounds_toArray, List.set_cons_zero, List.set_cons_succ]; rfl
             (refine one_ (i := 6) (N := some 19) #[true, true, true, true, true, true, true, false, true, false, false, true, false] rfl rfl (one_of HT_.out (by kernel_rfl)) (by decide) (fun K hK => ?_)); (refine goes_ Try.func50 (by kernel_rfl) rfl #[.int .u64 t132, .int .u64 t133] (by rfl) rfl rfl (by (try simp only [List.map_toArray, List.map_cons, List.map_nil]); first | done | rfl | (simp only [List.length_drop, List.length_take]; rfl)) ?_); (with_reducible refine (safeint_common.calls t132 t133 t134 _ A9.out).mono ?_); rintro e w' ⟨rfl, ⟨nd, rfl⟩⟩; refine ⟨_, rfl, ?_⟩; (refine hK.out _ _ trivial (fun hHeld => ?_)); clear hK K; refine norm_ (a' := ?_) ?_ ?_; rotate_left
             ·
              show Act.put _ (some 19) _ = _
              simp only [Act.put, List.setIfInBounds_toArray, List.set_cons_zero, List.set_cons_succ, i64_w, i32_w]; rfl
             (refine pure_ (i := 7) (N := some 20) (v := ?_) (a' := ?_) #[true, true, true, true, true, true, true, true, true, false, false, true, false] rfl rfl (any_of HT_.out (by kernel_rfl)) (fun _ _ _ h => h) (Or.inl ⟨by rfl, ?_⟩) ?_ ?_); rotate_left
             ·
              intro w'; go_simp; (with_reducible rfl)
             rotate_left
             ·
              simp only [Act.put, List.setIfInBounds_toArray, List.set_cons_zero, List.set_cons_succ, i64_w, i32_w]; rfl
             exact norm_ (by first | (simp only [putAll, Act.put, List.setIfInBounds_toArray, List.set_cons_zero, List.set_cons_succ]; done) | (simp only [putAll, Act.put, List.setIfInBounds_toArray, List.set_cons_zero, List.set_cons_succ]; rfl)) (hJ1_3_5_6_11 (gb138) _ ⟨(by (with_reducible repeat (first | refine blk_drewN ?_ _ | refine blk_drew ?_ | refine blk_alloc ?_ _)); exact BK138.out), GW138.out, GE138.out, (by repeat (first | (with_reducible first | exact HB.out | apply below_alloc | apply pw_below_drewN | apply below_drew1 | refine below_set ?_ GE138.out) | exact HB.out))⟩)
           ·
            skip; rintro _ w16 h0_; have n0_ : Aside0 (Below w.heap.size w w16) := ⟨h0_⟩; clear HB; clear h0_; have HB := n0_; clear n0_; have hHeld := trivial; refine norm_ (a' := ?_) ?_ ?_; rotate_left
            ·
             simp only [putAll, Act.put, List.setIfInBounds_toArray, List.set_cons_zero, List.set_cons_succ]; rfl
            refine two_ (i := 9) (j := 11) (Ni := some 22) (Nj := some 6) #[true, true, true, true, true, true, true, true, true, true, false, false, false] #[true, true, true, true, true, true, true, true, true, false, false, true, false] rfl rfl rfl rfl (two_of HT_.out (by kernel_rfl)) (by decide) (by decide) (fun K hK => ?_) (fun K hK => ?_)
            ·
             skip; (refine goes_ Try.func51 (by kernel_rfl) rfl #[.int .i64 a1] (by rfl) rfl rfl (by (try simp only [List.map_toArray, List.map_cons, List.map_nil]); first | done | rfl | (simp only [List.length_drop, List.length_take]; rfl)) ?_); (with_reducible refine (safeint_size.calls a1 t135 _ A11.out).mono ?_); rintro e w' ⟨rfl, ⟨nd, rfl⟩⟩; refine ⟨_, rfl, ?_⟩; (refine hK.out _ _ trivial (fun hHeld => ?_)); clear hK K; refine norm_ (a' := ?_) ?_ ?_; rotate_left
             ·
              show Act.put _ (some 22) _ = _
              simp only [Act.put, List.setIfInBounds_toArray, List.set_cons_zero, List.set_cons_succ, i64_w, i32_w]; rfl
             exact norm_ (by first | (simp only [putAll, Act.put, List.setIfInBounds_toArray, List.set_cons_zero, List.set_cons_succ]; done) | (simp only [putAll, Act.put, List.setIfInBounds_toArray, List.set_cons_zero, List.set_cons_succ]; rfl)) (hJ1_3_5_6_9 () _ (by repeat (first | (with_reducible first | exact HB.out | apply below_alloc | apply pw_below_drewN | apply below_drew1) | exact HB.out)))
            ·
             skip; (refine box_step ?hg (N := 6) ?hd (cs := #[.int .u64 0, .int .u64 0]) (t := 74) ?hr ?_; (case hd => rfl); (case hg => rfl); (case hr => first | (go_simp; done) | (go_simp; rfl))); intro gb138 hg w17 hbox hb; (have n0_ := Aside0.mk (below_step (by repeat (first | (with_reducible first | exact HB.out | apply below_alloc | apply pw_below_drewN | apply below_drew1) | exact HB.out)) hb)); have n1_ := Aside0.mk (hbox); (have n2_ := Aside0.mk ((by rw [hg]; exact (below_size (by repeat (first | (with_reducible first | exact HB.out | apply below_alloc | apply pw_below_drewN | apply below_drew1) | exact HB.out))) : w.heap.size ≤ gb138))); (have n3_ := Aside0.mk ((by rw [hg]; exact (below_size (by repeat (first | (with_reducible first | exact HB.out | apply below_alloc | apply pw_below_drewN | apply below_drew1) | exact HB.out))) : w.heap.size ≤ gb138))); clear HB; have HB := n0_; have BK138 := n1_; have GW138 := n2_; have GE138 := n3_; clear n0_ n1_ n2_ n3_; clear hb hbox hg; (refine hK.out _ _ trivial (fun hHeld => ?_)); clear hK K; refine norm_ (a' := ?_) ?_ ?_; rotate_left
             ·
              show Act.put _ (some 6) _ = _
              simp only [Act.put, List.setIfInBounds_toArray, List.set_cons_zero, List.set_cons_succ, i64_w, i32_w]; rfl
             exact norm_ (by first | (simp only [putAll, Act.put, List.setIfInBounds_toArray, List.set_cons_zero, List.set_cons_succ]; done) | (simp only [putAll, Act.put, List.setIfInBounds_toArray, List.set_cons_zero, List.set_cons_succ]; rfl)) (hJ1_3_5_6_11 (gb138) _ ⟨(by (with_reducible repeat (first | refine blk_drewN ?_ _ | refine blk_drew ?_ | refine blk_alloc ?_ _)); exact BK138.out), GW138.out, GE138.out, (by repeat (first | (with_reducible first | exact HB.out | apply below_alloc | apply pw_below_drewN | apply below_drew1 | refine below_set ?_ GE138.out) | exact HB.out))⟩)
          ·
           skip; rintro gb138 w17 ⟨h0_, h1_, h2_, h3_⟩; have n0_ : Aside0 (w17.heap[gb138]? = some (.cells #[.int .u64 0, .int .u64 0] 74 (0, 0))) := ⟨h0_⟩; have n1_ : Aside0 (w.heap.size ≤ gb138) := ⟨h1_⟩; have n2_ : Aside0 (w.heap.size ≤ gb138) := ⟨h2_⟩; have n3_ : Aside0 (Below w.heap.size w w17) := ⟨h3_⟩; clear HB; clear h0_ h1_ h2_ h3_; have BK138 := n0_; have GW138 := n1_; have GE138 := n2_; have HB := n3_; clear n0_ n1_ n2_ n3_; have hHeld := trivial; refine norm_ (a' := ?_) ?_ ?_; rotate_left
           ·
            simp only [putAll, Act.put, List.setIfInBounds_toArray, List.set_cons_zero, List.set_cons_succ]; rfl
           (refine one_ (i := 9) (N := some 22) #[true, true, true, true, true, true, true, true, true, true, false, true, false] rfl rfl (one_of HT_.out (by kernel_rfl)) (by decide) (fun K hK => ?_)); (refine goes_ Try.func51 (by kernel_rfl) rfl #[.int .i64 a1] (by rfl) rfl rfl (by (try simp only [List.map_toArray, List.map_cons, List.map_nil]); first | done | rfl | (simp only [List.length_drop, List.length_take]; rfl)) ?_); (with_reducible refine (safeint_size.calls a1 t135 _ A11.out).mono ?_); rintro e w' ⟨rfl, ⟨nd, rfl⟩⟩; refine ⟨_, rfl, ?_⟩; (refine hK.out _ _ trivial (fun hHeld => ?_)); clear hK K; refine norm_ (a' := ?_) ?_ ?_; rotate_left
           ·
            show Act.put _ (some 22) _ = _
            simp only [Act.put, List.setIfInBounds_toArray, List.set_cons_zero, List.set_cons_succ, i64_w, i32_w]; rfl
           exact norm_ (by first | (simp only [putAll, Act.put, List.setIfInBounds_toArray, List.set_cons_zero, List.set_cons_succ]; done) | (simp only [putAll, Act.put, List.setIfInBounds_toArray, List.set_cons_zero, List.set_cons_succ]; rfl)) (hJ1_3_5_6_9_11 (gb138) _ ⟨(by (with_reducible repeat (first | refine blk_drewN ?_ _ | refine blk_drew ?_ | refine blk_alloc ?_ _)); exact BK138.out), GW138.out, GE138.out, (by repeat (first | (with_reducible first | exact HB.out | apply below_alloc | apply pw_below_drewN | apply below_drew1 | refine below_set ?_ GE138.out) | exact HB.out))⟩)
         ·
          skip; rintro _ w16 h0_; have n0_ : Aside0 (Below w.heap.size w w16) := ⟨h0_⟩; clear HB; clear h0_; have HB := n0_; clear n0_; have hHeld := trivial; refine norm_ (a' := ?_) ?_ ?_; rotate_left
          ·
           simp only [putAll, Act.put, List.setIfInBounds_toArray, List.set_cons_zero, List.set_cons_succ]; rfl
          refine two_ (i := 10) (j := 11) (Ni := some 23) (Nj := some 6) #[true, true, true, true, true, true, true, true, true, true, true, false, false] #[true, true, true, true, true, true, true, true, true, true, false, true, false] rfl rfl rfl rfl (two_of HT_.out (by kernel_rfl)) (by decide) (by decide) (fun K hK => ?_) (fun K hK => ?_)
          ·
           skip; (refine goes_ Try.func52 (by kernel_rfl) rfl #[.int .u64 (IntKind.u64.wrap (Int.tdiv t131 t134)), .int .u64 t135] (by rfl) rfl rfl (by (try simp only [List.map_toArray, List.map_cons, List.map_nil]); first | done | rfl | (simp only [List.length_drop, List.length_take]; rfl)) ?_); (with_reducible refine (safeint_times.calls (IntKind.u64.wrap (Int.tdiv t131 t134)) t135 t136 t137 _ A12.out).mono ?_); rintro e w17 ⟨rfl, hb⟩; refine ⟨_, rfl, ?_⟩; (have n0_ := Aside0.mk (below_step (by repeat (first | (with_reducible first | exact HB.out | apply below_alloc | apply pw_below_drewN | apply below_drew1) | exact HB.out)) hb)); clear HB; have HB := n0_; clear n0_; (try clear hb); (try clear hb2); (try clear hk); (try clear hi); (refine hK.out _ _ trivial (fun hHeld => ?_)); clear hK K; refine norm_ (a' := ?_) ?_ ?_; rotate_left
           ·
            show Act.put _ (some 23) _ = _
            simp only [Act.put, List.setIfInBounds_toArray, List.set_cons_zero, List.set_cons_succ, i64_w, i32_w]; rfl
           exact norm_ (by first | (simp only [putAll, Act.put, List.setIfInBounds_toArray, List.set_cons_zero, List.set_cons_succ]; done) | (simp only [putAll, Act.put, List.setIfInBounds_toArray, List.set_cons_zero, List.set_cons_succ]; rfl)) (hJ1_3_5_6_9_10 () _ (by repeat (first | (with_reducible first | exact HB.out | apply below_alloc | apply pw_below_drewN | apply below_drew1) | exact HB.out)))
          ·
           skip; (refine box_step ?hg (N := 6) ?hd (cs := #[.int .u64 0, .int .u64 0]) (t := 74) ?hr ?_; (case hd => rfl); (case hg => rfl); (case hr => first | (go_simp; done) | (go_simp; rfl))); intro gb138 hg w17 hbox hb; (have n0_ := Aside0.mk (below_step (by repeat (first | (with_reducible first | exact HB.out | apply below_alloc | apply pw_below_drewN | apply below_drew1) | exact HB.out)) hb)); have n1_ := Aside0.mk (hbox); (have n2_ := Aside0.mk ((by rw [hg]; exact (below_size (by repeat (first | (with_reducible first | exact HB.out | apply below_alloc | apply pw_below_drewN | apply below_drew1) | exact HB.out))) : w.heap.size ≤ gb138))); (have n3_ := Aside0.mk ((by rw [hg]; exact (below_size (by repeat (first | (with_reducible first | exact HB.out | apply below_alloc | apply pw_below_drewN | apply below_drew1) | exact HB.out))) : w.heap.size ≤ gb138))); clear HB; have HB := n0_; have BK138 := n1_; have GW138 := n2_; have GE138 := n3_; clear n0_ n1_ n2_ n3_; clear hb hbox hg; (refine hK.out _ _ trivial (fun hHeld => ?_)); clear hK K; refine norm_ (a' := ?_) ?_ ?_; rotate_left
           ·
            show Act.put _ (some 6) _ = _
            simp only [Act.put, List.setIfInBounds_toArray, List.set_cons_zero, List.set_cons_succ, i64_w, i32_w]; rfl
           exact norm_ (by first | (simp only [putAll, Act.put, List.setIfInBounds_toArray, List.set_cons_zero, List.set_cons_succ]; done) | (simp only [putAll, Act.put, List.setIfInBounds_toArray, List.set_cons_zero, List.set_cons_succ]; rfl)) (hJ1_3_5_6_9_11 (gb138) _ ⟨(by (with_reducible repeat (first | refine blk_drewN ?_ _ | refine blk_drew ?_ | refine blk_alloc ?_ _)); exact BK138.out), GW138.out, GE138.out, (by repeat (first | (with_reducible first | exact HB.out | apply below_alloc | apply pw_below_drewN | apply below_drew1 | refine below_set ?_ GE138.out) | exact HB.out))⟩)
        ·
         skip; rintro gb138 w17 ⟨h0_, h1_, h2_, h3_⟩; have n0_ : Aside0 (w17.heap[gb138]? = some (.cells #[.int .u64 0, .int .u64 0] 74 (0, 0))) := ⟨h0_⟩; have n1_ : Aside0 (w.heap.size ≤ gb138) := ⟨h1_⟩; have n2_ : Aside0 (w.heap.size ≤ gb138) := ⟨h2_⟩; have n3_ : Aside0 (Below w.heap.size w w17) := ⟨h3_⟩; clear HB; clear h0_ h1_ h2_ h3_; have BK138 := n0_; have GW138 := n1_; have GE138 := n2_; have HB := n3_; clear n0_ n1_ n2_ n3_; have hHeld := trivial; refine norm_ (a' := ?_) ?_ ?_; rotate_left
         ·
          simp only [putAll, Act.put, List.setIfInBounds_toArray, List.set_cons_zero, List.set_cons_succ]; rfl
         (refine one_ (i := 10) (N := some 23) #[true, true, true, true, true, true, true, true, true, true, true, true, false] rfl rfl (one_of HT_.out (by kernel_rfl)) (by decide) (fun K hK => ?_)); (refine goes_ Try.func52 (by kernel_rfl) rfl #[.int .u64 (IntKind.u64.wrap (Int.tdiv t131 t134)), .int .u64 t135] (by rfl) rfl rfl (by (try simp only [List.map_toArray, List.map_cons, List.map_nil]); first | done | rfl | (simp only [List.length_drop, List.length_take]; rfl)) ?_); (with_reducible refine (safeint_times.calls (IntKind.u64.wrap (Int.tdiv t131 t134)) t135 t136 t137 _ A12.out).mono ?_); rintro e w18 ⟨rfl, hb⟩; refine ⟨_, rfl, ?_⟩; (have n0_ := Aside0.mk (blk_below (g := gb138) (o := .cells #[.int .u64 0, .int .u64 0] 74 (0, 0)) (by (with_reducible repeat (first | refine blk_drewN ?_ _ | refine blk_drew ?_ | refine blk_alloc ?_ _)); exact BK138.out) hb)); (have n1_ := Aside0.mk (below_step (by repeat (first | (with_reducible first | exact HB.out | apply below_alloc | apply pw_below_drewN | apply below_drew1 | refine below_set ?_ GE138.out) | exact HB.out)) hb)); clear BK138; clear HB; have BK138 := n0_; have HB := n1_; clear n0_ n1_; (try clear hb); (try clear hb2); (try clear hk); (try clear hi); (refine hK.out _ _ trivial (fun hHeld => ?_)); clear hK K; refine norm_ (a' := ?_) ?_ ?_; rotate_left
         ·
          show Act.put _ (some 23) _ = _
          simp only [Act.put, List.setIfInBounds_toArray, List.set_cons_zero, List.set_cons_succ, i64_w, i32_w]; rfl
         exact norm_ (by first | (simp only [putAll, Act.put, List.setIfInBounds_toArray, List.set_cons_zero, List.set_cons_succ]; done) | (simp only [putAll, Act.put, List.setIfInBounds_toArray, List.set_cons_zero, List.set_cons_succ]; rfl)) (hJ1_3_5_6_9_10_11 (gb138) _ ⟨(by (with_reducible repeat (first | refine blk_drewN ?_ _ | refine blk_drew ?_ | refine blk_alloc ?_ _)); exact BK138.out), GW138.out, GE138.out, (by repeat (first | (with_reducible first | exact HB.out | apply below_alloc | apply pw_below_drewN | apply below_drew1 | refine below_set ?_ GE138.out) | exact HB.out))⟩)
       ·
        skip; rintro _ w17 h0_; have n0_ : Aside0 (Below w.heap.size w w17) := ⟨h0_⟩; clear HB; clear h0_; have HB := n0_; clear n0_; have hHeld := trivial; refine norm_ (a' := ?_) ?_ ?_; rotate_left
        ·
         simp only [putAll, Act.put, List.setIfInBounds_toArray, List.set_cons_zero, List.set_cons_succ]; rfl
        (refine one_ (i := 11) (N := some 6) #[true, true, true, true, true, true, true, true, true, true, true, true, false] rfl rfl (one_of HT_.out (by kernel_rfl)) (by decide) (fun K hK => ?_)); (refine box_step ?hg (N := 6) ?hd (cs := #[.int .u64 0, .int .u64 0]) (t := 74) ?hr ?_; (case hd => rfl); (case hg => rfl); (case hr => first | (go_simp; done) | (go_simp; rfl))); intro gb138 hg w18 hbox hb; (have n0_ := Aside0.mk (below_step (by repeat (first | (with_reducible first | exact HB.out | apply below_alloc | apply pw_below_drewN | apply below_drew1) | exact HB.out)) hb)); have n1_ := Aside0.mk (hbox); (have n2_ := Aside0.mk ((by rw [hg]; exact (below_size (by repeat (first | (with_reducible first | exact HB.out | apply below_alloc | apply pw_below_drewN | apply below_drew1) | exact HB.out))) : w.heap.size ≤ gb138))); (have n3_ := Aside0.mk ((by rw [hg]; exact (below_size (by repeat (first | (with_reducible first | exact HB.out | apply below_alloc | apply pw_below_drewN | apply below_drew1) | exact HB.out))) : w.heap.size ≤ gb138))); clear HB; have HB := n0_; have BK138 := n1_; have GW138 := n2_; have GE138 := n3_; clear n0_ n1_ n2_ n3_; clear hb hbox hg; (refine hK.out _ _ trivial (fun hHeld => ?_)); clear hK K; refine norm_ (a' := ?_) ?_ ?_; rotate_left
        ·
         show Act.put _ (some 6) _ = _
         simp only [Act.put, List.setIfInBounds_toArray, List.set_cons_zero, List.set_cons_succ, i64_w, i32_w]; rfl
        exact norm_ (by first | (simp only [putAll, Act.put, List.setIfInBounds_toArray, List.set_cons_zero, List.set_cons_succ]; done) | (simp only [putAll, Act.put, List.setIfInBounds_toArray, List.set_cons_zero, List.set_cons_succ]; rfl)) (hJ1_3_5_6_9_10_11 (gb138) _ ⟨(by (with_reducible repeat (first | refine blk_drewN ?_ _ | refine blk_drew ?_ | refine blk_alloc ?_ _)); exact BK138.out), GW138.out, GE138.out, (by repeat (first | (with_reducible first | exact HB.out | apply below_alloc | apply pw_below_drewN | apply below_drew1 | refine below_set ?_ GE138.out) | exact HB.out))⟩)
      rintro gb138 w18 ⟨h0_, h1_, h2_, h3_⟩; have n0_ : Aside0 (w18.heap[gb138]? = some (.cells #[.int .u64 0, .int .u64 0] 74 (0, 0))) := ⟨h0_⟩; have n1_ : Aside0 (w.heap.size ≤ gb138) := ⟨h1_⟩; have n2_ : Aside0 (w.heap.size ≤ gb138) := ⟨h2_⟩; have n3_ : Aside0 (Below w.heap.size w w18) := ⟨h3_⟩; clear HB; clear h0_ h1_ h2_ h3_; have BK138 := n0_; have GW138 := n1_; have GE138 := n2_; have HB := n3_; clear n0_ n1_ n2_ n3_; have hHeld := trivial; refine norm_ (a' := ?_) ?_ ?_; rotate_left
      ·
       simp only [putAll, Act.put, List.setIfInBounds_toArray, List.set_cons_zero, List.set_cons_succ]; rfl
      (refine one_ (i := 12) (N := none) #[true, true, true, true, true, true, true, true, true, true, true, true, true] rfl rfl (one_of HT_.out (by kernel_rfl)) (by decide) (fun K hK => ?_)); have hs19 : w18.cell? ⟨gb138, 0, none⟩ = some (.int .u64 0) := (blk_cell BK138.out 0).trans rfl; have hfs19 := blk_frozen BK138.out 0; have hs20 : w18.cell? ⟨gb138, 1, none⟩ = some (.int .u64 0) := (blk_cell BK138.out 1).trans rfl; have hfs20 := blk_frozen BK138.out 1; (refine skip_ (w1 := ?_) (by rfl) rfl ?_ ?_); rotate_left
      ·
       go_simp; rfl
      (refine hK.out _ _ trivial (fun hHeld => ?_)); clear hK K; (refine done_ (done_of HT_.out (by kernel_rfl)) ?_); have hcz21_0 : w18.cell? ⟨gb138, 0, none⟩ = some (.int .u64 0) := (blk_cell BK138.out 0).trans rfl; have hcz21_1 : w18.cell? ⟨gb138, 1, none⟩ = some (.int .u64 0) := (blk_cell BK138.out 1).trans rfl; have hfz21_0 := blk_frozen BK138.out 0; have hfz21_1 := blk_frozen BK138.out 1; (try go_wp2_with (first | ((with_reducible refine gate_callee (f := 49) rfl ?_); refine goesL_ (some 29) rfl rfl Try.func49 (by kernel_rfl) rfl #[.int .u64 t137, .bool false] rfl (by (try simp only [List.map_toArray, List.map_cons, List.map_nil]); first | done | rfl | (simp only [List.length_drop, List.length_take]; rfl)) ?_; (with_reducible refine (safeint_signed.calls kj2 t137 false t139 t140 _ A14.out).mono ?_); rintro e w' ⟨rfl, ⟨nd, rfl⟩⟩; refine ⟨_, rfl, ?_⟩))); go_ret2; (exact ⟨by first | rfl | (simp [errW_none, errW_some] <;> rfl) | (simp [*, errW_none, errW_some] <;> rfl), by repeat (first | (with_reducible first | exact HB.out | apply below_alloc | apply pw_below_drewN | apply below_drew1 | refine below_set ?_ GE138.out) | exact HB.out)⟩)
     ·
      rw [if_neg c13] at H; have c13b0 : (t136 == 0) = false := beq_eq_false_iff_ne.mpr c13; have c13b1 : (t136 != 0) = true := bne_iff_ne.mpr c13; simp only [Option.some.injEq, Prod.mk.injEq] at H; obtain ⟨rfl, rfl⟩ := H; (try go_wp2); have n0_ := Aside0.mk (below_drew1 HB.out); clear HB; have HB := n0_; clear n0_; (refine start_ (n := 13) (S := fun w' => True) (ds := []) #[false, false, false, false, false, false, false, false, false, false, false, false, false] (by kernel_rfl) rfl rfl trivial (fun hHeld => ?_); refine with_tabW safeint_Lcm.tab3 safeint_Lcm.bits3 (fun HT_ HW_ => ?_)); generalize wc.drew = w22 at HB hHeld ⊢; (refine pure_ (i := 0) (N := some 13) (v := ?_) (a' := ?_) #[true, false, false, false, false, false, false, false, false, false, false, false, false] rfl rfl (any_of HT_.out (by kernel_rfl)) (fun _ _ _ h => h) (Or.inl ⟨by rfl, ?_⟩) ?_ ?_); rotate_left
      ·
       intro w'; go_simp; (with_reducible rfl)
      rotate_left
      ·
       simp only [Act.put, List.setIfInBounds_toArray, List.set_cons_zero, List.set_cons_succ, i64_w, i32_w]; rfl
      (refine pure_ (i := 2) (N := some 15) (v := ?_) (a' := ?_) #[true, false, true, false, false, false, false, false, false, false, false, false, false] rfl rfl (any_of HT_.out (by kernel_rfl)) (fun _ _ _ h => h) (Or.inl ⟨by rfl, ?_⟩) ?_ ?_); rotate_left
      ·
       intro w'; go_simp; (with_reducible rfl)
      rotate_left
      ·
       simp only [Act.put, List.setIfInBounds_toArray, List.set_cons_zero, List.set_cons_succ, i64_w, i32_w]; rfl
      (refine pure_ (i := 4) (N := some 17) (v := ?_) (a' := ?_) #[true, false, true, false, true, false, false, false, false, false, false, false, false] rfl rfl (any_of HT_.out (by kernel_rfl)) (fun _ _ _ h => h) (Or.inl ⟨by rfl, ?_⟩) ?_ ?_); rotate_left
      ·
       intro w'; go_simp; (with_reducible rfl)
      rotate_left
      ·
       simp only [Act.put, List.setIfInBounds_toArray, List.set_cons_zero, List.set_cons_succ, i64_w, i32_w]; rfl
      (refine pure_ (i := 8) (N := some 21) (v := ?_) (a' := ?_) #[true, false, true, false, true, false, false, false, true, false, false, false, false] rfl rfl (any_of HT_.out (by kernel_rfl)) (fun _ _ _ h => h) (Or.inl ⟨by rfl, ?_⟩) ?_ ?_); rotate_left
      ·
       intro w'; go_simp; (with_reducible rfl)
      rotate_left
      ·
       simp only [Act.put, List.setIfInBounds_toArray, List.set_cons_zero, List.set_cons_succ, i64_w, i32_w]; rfl
      (refine join_ (σ := Nat) 1 #[true, true, true, true, true, true, true, true, true, true, true, true, false] (fun s_ => [(14, .int .u64 t131), (16, .int .u64 t132), (18, .int .u64 t133), (19, .int .u64 t134), (22, .int .u64 t135), (23, .agg #[.int .u64 t136, .int .u64 t137]), (6, .pointer (some ⟨s_, 0, none⟩)), (20, .int .u64 (IntKind.u64.wrap (Int.tdiv t131 t134)))]) (fun s_ w' => (w'.heap[s_]? = some (.cells #[.int .u64 0, .int .u64 0] 74 (0, 0))) ∧ (w.heap.size ≤ s_) ∧ (w.heap.size ≤ s_) ∧ (Below w.heap.size w w')) ?_ ?_); rotate_left
      ·
       intro hJ1_3_5_6_9_10_11; (refine join_ (σ := Unit) 2 #[true, true, true, true, true, true, true, true, true, true, true, false, false] (fun s_ => [(14, .int .u64 t131), (16, .int .u64 t132), (18, .int .u64 t133), (19, .int .u64 t134), (22, .int .u64 t135), (23, .agg #[.int .u64 t136, .int .u64 t137]), (20, .int .u64 (IntKind.u64.wrap (Int.tdiv t131 t134)))]) (fun s_ w' => (Below w.heap.size w w')) ?_ ?_); rotate_left
       ·
        intro hJ1_3_5_6_9_10; (refine join_ (σ := Nat) 2 #[true, true, true, true, true, true, true, true, true, true, false, true, false] (fun s_ => [(14, .int .u64 t131), (16, .int .u64 t132), (18, .int .u64 t133), (19, .int .u64 t134), (22, .int .u64 t135), (6, .pointer (some ⟨s_, 0, none⟩)), (20, .int .u64 (IntKind.u64.wrap (Int.tdiv t131 t134)))]) (fun s_ w' => (w'.heap[s_]? = some (.cells #[.int .u64 0, .int .u64 0] 74 (0, 0))) ∧ (w.heap.size ≤ s_) ∧ (w.heap.size ≤ s_) ∧ (Below w.heap.size w w')) ?_ ?_); rotate_left
        ·
         intro hJ1_3_5_6_9_11; (refine join_ (σ := Unit) 3 #[true, true, true, true, true, true, true, true, true, true, false, false, false] (fun s_ => [(14, .int .u64 t131), (16, .int .u64 t132), (18, .int .u64 t133), (19, .int .u64 t134), (22, .int .u64 t135), (20, .int .u64 (IntKind.u64.wrap (Int.tdiv t131 t134)))]) (fun s_ w' => (Below w.heap.size w w')) ?_ ?_); rotate_left
         ·
          intro hJ1_3_5_6_9; (refine join_ (σ := Nat) 3 #[true, true, true, true, true, true, true, true, true, false, false, true, false] (fun s_ => [(14, .int .u64 t131), (16, .int .u64 t132), (18, .int .u64 t133), (19, .int .u64 t134), (6, .pointer (some ⟨s_, 0, none⟩)), (20, .int .u64 (IntKind.u64.wrap (Int.tdiv t131 t134)))]) (fun s_ w' => (w'.heap[s_]? = some (.cells #[.int .u64 0, .int .u64 0] 74 (0, 0))) ∧ (w.heap.size ≤ s_) ∧ (w.heap.size ≤ s_) ∧ (Below w.heap.size w w')) ?_ ?_); rotate_left
          ·
           intro hJ1_3_5_6_11; (refine join_ (σ := Unit) 4 #[true, true, true, true, true, true, true, true, true, false, false, false, false] (fun s_ => [(14, .int .u64 t131), (16, .int .u64 t132), (18, .int .u64 t133), (19, .int .u64 t134), (20, .int .u64 (IntKind.u64.wrap (Int.tdiv t131 t134)))]) (fun s_ w' => (Below w.heap.size w w')) ?_ ?_); rotate_left
           ·
            intro hJ1_3_5_6; (refine join_ (σ := Nat) 5 #[true, true, true, true, true, true, false, false, true, false, false, true, false] (fun s_ => [(14, .int .u64 t131), (16, .int .u64 t132), (18, .int .u64 t133), (6, .pointer (some ⟨s_, 0, none⟩))]) (fun s_ w' => (w'.heap[s_]? = some (.cells #[.int .u64 0, .int .u64 0] 74 (0, 0))) ∧ (w.heap.size ≤ s_) ∧ (w.heap.size ≤ s_) ∧ (Below w.heap.size w w')) ?_ ?_); rotate_left
            ·
             intro hJ1_3_5_11; (refine join_ (σ := Unit) 6 #[true, true, true, true, true, true, false, false, true, false, false, false, false] (fun s_ => [(14, .int .u64 t131), (16, .int .u64 t132), (18, .int .u64 t133)]) (fun s_ w' => (Below w.heap.size w w')) ?_ ?_); rotate_left
             ·
              intro hJ1_3_5; (refine join_ (σ := Nat) 6 #[true, true, true, true, true, false, false, false, true, false, false, true, false] (fun s_ => [(14, .int .u64 t131), (16, .int .u64 t132), (6, .pointer (some ⟨s_, 0, none⟩))]) (fun s_ w' => (w'.heap[s_]? = some (.cells #[.int .u64 0, .int .u64 0] 74 (0, 0))) ∧ (w.heap.size ≤ s_) ∧ (w.heap.size ≤ s_) ∧ (Below w.heap.size w w')) ?_ ?_); rotate_left
              ·
               intro hJ1_3_11; (refine join_ (σ := Unit) 7 #[true, true, true, true, true, false, false, false, true, false, false, false, false] (fun s_ => [(14, .int .u64 t131), (16, .int .u64 t132)]) (fun s_ w' => (Below w.heap.size w w')) ?_ ?_); rotate_left
               ·
                intro hJ1_3; (refine join_ (σ := Nat) 7 #[true, true, true, false, true, false, false, false, true, false, false, true, false] (fun s_ => [(14, .int .u64 t131), (6, .pointer (some ⟨s_, 0, none⟩))]) (fun s_ w' => (w'.heap[s_]? = some (.cells #[.int .u64 0, .int .u64 0] 74 (0, 0))) ∧ (w.heap.size ≤ s_) ∧ (w.heap.size ≤ s_) ∧ (Below w.heap.size w w')) ?_ ?_); rotate_left
                ·
                 intro hJ1_11; (refine join_ (σ := Unit) 8 #[true, true, true, false, true, false, false, false, true, false, false, false, false] (fun s_ => [(14, .int .u64 t131)]) (fun s_ w' => (Below w.heap.size w w')) ?_ ?_); rotate_left
                 ·
                  intro hJ1; (refine join_ (σ := Nat) 8 #[true, false, true, false, true, false, false, false, true, false, false, true, false] (fun s_ => [(6, .pointer (some ⟨s_, 0, none⟩))]) (fun s_ w' => (w'.heap[s_]? = some (.cells #[.int .u64 0, .int .u64 0] 74 (0, 0))) ∧ (w.heap.size ≤ s_) ∧ (w.heap.size ≤ s_) ∧ (Below w.heap.size w w')) ?_ ?_); rotate_left
                  ·
                   intro hJ11; (refine two_ (i := 1) (j := 11) (Ni := some 14) (Nj := some 6) #[true, true, true, false, true, false, false, false, true, false, false, false, false] #[true, false, true, false, true, false, false, false, true, false, false, true, false] rfl rfl rfl rfl (two_of HT_.out (by kernel_rfl)) (by decide) (by decide) (fun K hK => ?_) (fun K hK => ?_))
                   ·
                    skip; (refine goes_ Try.func51 (by kernel_rfl) rfl #[.int .i64 a0] (by rfl) rfl rfl (by (try simp only [List.map_toArray, List.map_cons, List.map_nil]); first | done | rfl | (simp only [List.length_drop, List.length_take]; rfl)) ?_); (with_reducible refine (safeint_size.calls a0 t131 _ A6.out).mono ?_); rintro e w' ⟨rfl, ⟨nd, rfl⟩⟩; refine ⟨_, rfl, ?_⟩; (refine hK.out _ _ trivial (fun hHeld => ?_)); clear hK K; refine norm_ (a' := ?_) ?_ ?_; rotate_left
                    ·
                     show Act.put _ (some 14) _ = _
                     simp only [Act.put, List.setIfInBounds_toArray, List.set_cons_zero, List.set_cons_succ, i64_w, i32_w]; rfl
                    exact norm_ (by first | (simp only [putAll, Act.put, List.setIfInBounds_toArray, List.set_cons_zero, List.set_cons_succ]; done) | (simp only [putAll, Act.put, List.setIfInBounds_toArray, List.set_cons_zero, List.set_cons_succ]; rfl)) (hJ1 () _ (by repeat (first | (with_reducible first | exact HB.out | apply below_alloc | apply pw_below_drewN | apply below_drew1) | exact HB.out)))
                   ·
                    skip; (refine box_step ?hg (N := 6) ?hd (cs := #[.int .u64 0, .int .u64 0]) (t := 74) ?hr ?_; (case hd => rfl); (case hg => rfl); (case hr => first | (go_simp; done) | (go_simp; rfl))); intro gb138 hg w23 hbox hb; (have n0_ := Aside0.mk (below_step (by repeat (first | (with_reducible first | exact HB.out | apply below_alloc | apply pw_below_drewN | apply below_drew1) | exact HB.out)) hb)); have n1_ := Aside0.mk (hbox); (have n2_ := Aside0.mk ((by rw [hg]; exact (below_size (by repeat (first | (with_reducible first | exact HB.out | apply below_alloc | apply pw_below_drewN | apply below_drew1) | exact HB.out))) : w.heap.size ≤ gb138))); (have n3_ := Aside0.mk ((by rw [hg]; exact (below_size (by repeat (first | (with_reducible first | exact HB.out | apply below_alloc | apply pw_below_drewN | apply below_drew1) | exact HB.out))) : w.heap.size ≤ gb138))); clear HB; have HB := n0_; have BK138 := n1_; have GW138 := n2_; have GE138 := n3_; clear n0_ n1_ n2_ n3_; clear hb hbox hg; (refine hK.out _ _ trivial (fun hHeld => ?_)); clear hK K; refine norm_ (a' := ?_) ?_ ?_; rotate_left
                    ·
                     show Act.put _ (some 6) _ = _
                     simp only [Act.put, List.setIfInBounds_toArray, List.set_cons_zero, List.set_cons_succ, i64_w, i32_w]; rfl
                    exact norm_ (by first | (simp only [putAll, Act.put, List.setIfInBounds_toArray, List.set_cons_zero, List.set_cons_succ]; done) | (simp only [putAll, Act.put, List.setIfInBounds_toArray, List.set_cons_zero, List.set_cons_succ]; rfl)) (hJ11 (gb138) _ ⟨(by (with_reducible repeat (first | refine blk_drewN ?_ _ | refine blk_drew ?_ | refine blk_alloc ?_ _)); exact BK138.out), GW138.out, GE138.out, (by repeat (first | (with_reducible first | exact HB.out | apply below_alloc | apply pw_below_drewN | apply below_drew1 | refine below_set ?_ GE138.out) | exact HB.out))⟩)
                  ·
                   skip; rintro gb138 w24 ⟨h0_, h1_, h2_, h3_⟩; have n0_ : Aside0 (w24.heap[gb138]? = some (.cells #[.int .u64 0, .int .u64 0] 74 (0, 0))) := ⟨h0_⟩; have n1_ : Aside0 (w.heap.size ≤ gb138) := ⟨h1_⟩; have n2_ : Aside0 (w.heap.size ≤ gb138) := ⟨h2_⟩; have n3_ : Aside0 (Below w.heap.size w w24) := ⟨h3_⟩; clear HB; clear h0_ h1_ h2_ h3_; have BK138 := n0_; have GW138 := n1_; have GE138 := n2_; have HB := n3_; clear n0_ n1_ n2_ n3_; have hHeld := trivial; refine norm_ (a' := ?_) ?_ ?_; rotate_left
                   ·
                    simp only [putAll, Act.put, List.setIfInBounds_toArray, List.set_cons_zero, List.set_cons_succ]; rfl
                   (refine one_ (i := 1) (N := some 14) #[true, true, true, false, true, false, false, false, true, false, false, true, false] rfl rfl (one_of HT_.out (by kernel_rfl)) (by decide) (fun K hK => ?_)); (refine goes_ Try.func51 (by kernel_rfl) rfl #[.int .i64 a0] (by rfl) rfl rfl (by (try simp only [List.map_toArray, List.map_cons, List.map_nil]); first | done | rfl | (simp only [List.length_drop, List.length_take]; rfl)) ?_); (with_reducible refine (safeint_size.calls a0 t131 _ A6.out).mono ?_); rintro e w' ⟨rfl, ⟨nd, rfl⟩⟩; refine ⟨_, rfl, ?_⟩; (refine hK.out _ _ trivial (fun hHeld => ?_)); clear hK K; refine norm_ (a' := ?_) ?_ ?_; rotate_left
                   ·
                    show Act.put _ (some 14) _ = _
                    simp only [Act.put, List.setIfInBounds_toArray, List.set_cons_zero, List.set_cons_succ, i64_w, i32_w]; rfl
                   exact norm_ (by first | (simp only [putAll, Act.put, List.setIfInBounds_toArray, List.set_cons_zero, List.set_cons_succ]; done) | (simp only [putAll, Act.put, List.setIfInBounds_toArray, List.set_cons_zero, List.set_cons_succ]; rfl)) (hJ1_11 (gb138) _ ⟨(by (with_reducible repeat (first | refine blk_drewN ?_ _ | refine blk_drew ?_ | refine blk_alloc ?_ _)); exact BK138.out), GW138.out, GE138.out, (by repeat (first | (with_reducible first | exact HB.out | apply below_alloc | apply pw_below_drewN | apply below_drew1 | refine below_set ?_ GE138.out) | exact HB.out))⟩)
                 ·
                  skip; rintro _ w23 h0_; have n0_ : Aside0 (Below w.heap.size w w23) := ⟨h0_⟩; clear HB; clear h0_; have HB := n0_; clear n0_; have hHeld := trivial; refine norm_ (a' := ?_) ?_ ?_; rotate_left
                  ·
                   simp only [putAll, Act.put, List.setIfInBounds_toArray, List.set_cons_zero, List.set_cons_succ]; rfl
                  refine two_ (i := 3) (j := 11) (Ni := some 16) (Nj := some 6) #[true, true, true, true, true, false, false, false, true, false, false, false, false] #[true, true, true, false, true, false, false, false, true, false, false, true, false] rfl rfl rfl rfl (two_of HT_.out (by kernel_rfl)) (by decide) (by decide) (fun K hK => ?_) (fun K hK => ?_)
                  ·
                   skip; (refine goes_ Try.func51 (by kernel_rfl) rfl #[.int .i64 a0] (by rfl) rfl rfl (by (try simp only [List.map_toArray, List.map_cons, List.map_nil]); first | done | rfl | (simp only [List.length_drop, List.length_take]; rfl)) ?_); (with_reducible refine (safeint_size.calls a0 t132 _ A7.out).mono ?_); rintro e w' ⟨rfl, ⟨nd, rfl⟩⟩; refine ⟨_, rfl, ?_⟩; (refine hK.out _ _ trivial (fun hHeld => ?_)); clear hK K; refine norm_ (a' := ?_) ?_ ?_; rotate_left
                   ·
                    show Act.put _ (some 16) _ = _
                    simp only [Act.put, List.setIfInBounds_toArray, List.set_cons_zero, List.set_cons_succ, i64_w, i32_w]; rfl
                   exact norm_ (by first | (simp only [putAll, Act.put, List.setIfInBounds_toArray, List.set_cons_zero, List.set_cons_succ]; done) | (simp only [putAll, Act.put, List.setIfInBounds_toArray, List.set_cons_zero, List.set_cons_succ]; rfl)) (hJ1_3 () _ (by repeat (first | (with_reducible first | exact HB.out | apply below_alloc | apply pw_below_drewN | apply below_drew1) | exact HB.out)))
                  ·
                   skip; (refine box_step ?hg (N := 6) ?hd (cs := #[.int .u64 0, .int .u64 0]) (t := 74) ?hr ?_; (case hd => rfl); (case hg => rfl); (case hr => first | (go_simp; done) | (go_simp; rfl))); intro gb138 hg w24 hbox hb; (have n0_ := Aside0.mk (below_step (by repeat (first | (with_reducible first | exact HB.out | apply below_alloc | apply pw_below_drewN | apply below_drew1) | exact HB.out)) hb)); have n1_ := Aside0.mk (hbox); (have n2_ := Aside0.mk ((by rw [hg]; exact (below_size (by repeat (first | (with_reducible first | exact HB.out | apply below_alloc | apply pw_below_drewN | apply below_drew1) | exact HB.out))) : w.heap.size ≤ gb138))); (have n3_ := Aside0.mk ((by rw [hg]; exact (below_size (by repeat (first | (with_reducible first | exact HB.out | apply below_alloc | apply pw_below_drewN | apply below_drew1) | exact HB.out))) : w.heap.size ≤ gb138))); clear HB; have HB := n0_; have BK138 := n1_; have GW138 := n2_; have GE138 := n3_; clear n0_ n1_ n2_ n3_; clear hb hbox hg; (refine hK.out _ _ trivial (fun hHeld => ?_)); clear hK K; refine norm_ (a' := ?_) ?_ ?_; rotate_left
                   ·
                    show Act.put _ (some 6) _ = _
                    simp only [Act.put, List.setIfInBounds_toArray, List.set_cons_zero, List.set_cons_succ, i64_w, i32_w]; rfl
                   exact norm_ (by first | (simp only [putAll, Act.put, List.setIfInBounds_toArray, List.set_cons_zero, List.set_cons_succ]; done) | (simp only [putAll, Act.put, List.setIfInBounds_toArray, List.set_cons_zero, List.set_cons_succ]; rfl)) (hJ1_11 (gb138) _ ⟨(by (with_reducible repeat (first | refine blk_drewN ?_ _ | refine blk_drew ?_ | refine blk_alloc ?_ _)); exact BK138.out), GW138.out, GE138.out, (by repeat (first | (with_reducible first | exact HB.out | apply below_alloc | apply pw_below_drewN | apply below_drew1 | refine below_set ?_ GE138.out) | exact HB.out))⟩)
                ·
                 skip; rintro gb138 w24 ⟨h0_, h1_, h2_, h3_⟩; have n0_ : Aside0 (w24.heap[gb138]? = some (.cells #[.int .u64 0, .int .u64 0] 74 (0, 0))) := ⟨h0_⟩; have n1_ : Aside0 (w.heap.size ≤ gb138) := ⟨h1_⟩; have n2_ : Aside0 (w.heap.size ≤ gb138) := ⟨h2_⟩; have n3_ : Aside0 (Below w.heap.size w w24) := ⟨h3_⟩; clear HB; clear h0_ h1_ h2_ h3_; have BK138 := n0_; have GW138 := n1_; have GE138 := n2_; have HB := n3_; clear n0_ n1_ n2_ n3_; have hHeld := trivial; refine norm_ (a' := ?_) ?_ ?_; rotate_left
                 ·
                  simp only [putAll, Act.put, List.setIfInBounds_toArray, List.set_cons_zero, List.set_cons_succ]; rfl
                 (refine one_ (i := 3) (N := some 16) #[true, true, true, true, true, false, false, false, true, false, false, true, false] rfl rfl (one_of HT_.out (by kernel_rfl)) (by decide) (fun K hK => ?_)); (refine goes_ Try.func51 (by kernel_rfl) rfl #[.int .i64 a0] (by rfl) rfl rfl (by (try simp only [List.map_toArray, List.map_cons, List.map_nil]); first | done | rfl | (simp only [List.length_drop, List.length_take]; rfl)) ?_); (with_reducible refine (safeint_size.calls a0 t132 _ A7.out).mono ?_); rintro e w' ⟨rfl, ⟨nd, rfl⟩⟩; refine ⟨_, rfl, ?_⟩; (refine hK.out _ _ trivial (fun hHeld => ?_)); clear hK K; refine norm_ (a' := ?_) ?_ ?_; rotate_left
                 ·
                  show Act.put _ (some 16) _ = _
                  simp only [Act.put, List.setIfInBounds_toArray, List.set_cons_zero, List.set_cons_succ, i64_w, i32_w]; rfl
                 exact norm_ (by first | (simp only [putAll, Act.put, List.setIfInBounds_toArray, List.set_cons_zero, List.set_cons_succ]; done) | (simp only [putAll, Act.put, List.setIfInBounds_toArray, List.set_cons_zero, List.set_cons_succ]; rfl)) (hJ1_3_11 (gb138) _ ⟨(by (with_reducible repeat (first | refine blk_drewN ?_ _ | refine blk_drew ?_ | refine blk_alloc ?_ _)); exact BK138.out), GW138.out, GE138.out, (by repeat (first | (with_reducible first | exact HB.out | apply below_alloc | apply pw_below_drewN | apply below_drew1 | refine below_set ?_ GE138.out) | exact HB.out))⟩)
               ·
                skip; rintro _ w23 h0_; have n0_ : Aside0 (Below w.heap.size w w23) := ⟨h0_⟩; clear HB; clear h0_; have HB := n0_; clear n0_; have hHeld := trivial; refine norm_ (a' := ?_) ?_ ?_; rotate_left
                ·
                 simp only [putAll, Act.put, List.setIfInBounds_toArray, List.set_cons_zero, List.set_cons_succ]; rfl
                refine two_ (i := 5) (j := 11) (Ni := some 18) (Nj := some 6) #[true, true, true, true, true, true, false, false, true, false, false, false, false] #[true, true, true, true, true, false, false, false, true, false, false, true, false] rfl rfl rfl rfl (two_of HT_.out (by kernel_rfl)) (by decide) (by decide) (fun K hK => ?_) (fun K hK => ?_)
                ·
                 skip; (refine goes_ Try.func51 (by kernel_rfl) rfl #[.int .i64 a1] (by rfl) rfl rfl (by (try simp only [List.map_toArray, List.map_cons, List.map_nil]); first | done | rfl | (simp only [List.length_drop, List.length_take]; rfl)) ?_); (with_reducible refine (safeint_size.calls a1 t133 _ A8.out).mono ?_); rintro e w' ⟨rfl, ⟨nd, rfl⟩⟩; refine ⟨_, rfl, ?_⟩; (refine hK.out _ _ trivial (fun hHeld => ?_)); clear hK K; refine norm_ (a' := ?_) ?_ ?_; rotate_left
                 ·
                  show Act.put _ (some 18) _ = _
                  simp only [Act.put, List.setIfInBounds_toArray, List.set_cons_zero, List.set_cons_succ, i64_w, i32_w]; rfl
                 exact norm_ (by first | (simp only [putAll, Act.put, List.setIfInBounds_toArray, List.set_cons_zero, List.set_cons_succ]; done) | (simp only [putAll, Act.put, List.setIfInBounds_toArray, List.set_cons_zero, List.set_cons_succ]; rfl)) (hJ1_3_5 () _ (by repeat (first | (with_reducible first | exact HB.out | apply below_alloc | apply pw_below_drewN | apply below_drew1) | exact HB.out)))
                ·
                 skip; (refine box_step ?hg (N := 6) ?hd (cs := #[.int .u64 0, .int .u64 0]) (t := 74) ?hr ?_; (case hd => rfl); (case hg => rfl); (case hr => first | (go_simp; done) | (go_simp; rfl))); intro gb138 hg w24 hbox hb; (have n0_ := Aside0.mk (below_step (by repeat (first | (with_reducible first | exact HB.out | apply below_alloc | apply pw_below_drewN | apply below_drew1) | exact HB.out)) hb)); have n1_ := Aside0.mk (hbox); (have n2_ := Aside0.mk ((by rw [hg]; exact (below_size (by repeat (first | (with_reducible first | exact HB.out | apply below_alloc | apply pw_below_drewN | apply below_drew1) | exact HB.out))) : w.heap.size ≤ gb138))); (have n3_ := Aside0.mk ((by rw [hg]; exact (below_size (by repeat (first | (with_reducible first | exact HB.out | apply below_alloc | apply pw_below_drewN | apply below_drew1) | exact HB.out))) : w.heap.size ≤ gb138))); clear HB; have HB := n0_; have BK138 := n1_; have GW138 := n2_; have GE138 := n3_; clear n0_ n1_ n2_ n3_; clear hb hbox hg; (refine hK.out _ _ trivial (fun hHeld => ?_)); clear hK K; refine norm_ (a' := ?_) ?_ ?_; rotate_left
                 ·
                  show Act.put _ (some 6) _ = _
                  simp only [Act.put, List.setIfInBounds_toArray, List.set_cons_zero, List.set_cons_succ, i64_w, i32_w]; rfl
                 exact norm_ (by first | (simp only [putAll, Act.put, List.setIfInBounds_toArray, List.set_cons_zero, List.set_cons_succ]; done) | (simp only [putAll, Act.put, List.setIfInBounds_toArray, List.set_cons_zero, List.set_cons_succ]; rfl)) (hJ1_3_11 (gb138) _ ⟨(by (with_reducible repeat (first | refine blk_drewN ?_ _ | refine blk_drew ?_ | refine blk_alloc ?_ _)); exact BK138.out), GW138.out, GE138.out, (by repeat (first | (with_reducible first | exact HB.out | apply below_alloc | apply pw_below_drewN | apply below_drew1 | refine below_set ?_ GE138.out) | exact HB.out))⟩)
              ·
               skip; rintro gb138 w24 ⟨h0_, h1_, h2_, h3_⟩; have n0_ : Aside0 (w24.heap[gb138]? = some (.cells #[.int .u64 0, .int .u64 0] 74 (0, 0))) := ⟨h0_⟩; have n1_ : Aside0 (w.heap.size ≤ gb138) := ⟨h1_⟩; have n2_ : Aside0 (w.heap.size ≤ gb138) := ⟨h2_⟩; have n3_ : Aside0 (Below w.heap.size w w24) := ⟨h3_⟩; clear HB; clear h0_ h1_ h2_ h3_; have BK138 := n0_; have GW138 := n1_; have GE138 := n2_; have HB := n3_; clear n0_ n1_ n2_ n3_; have hHeld := trivial; refine norm_ (a' := ?_) ?_ ?_; rotate_left
               ·
                simp only [putAll, Act.put, List.setIfInBounds_toArray, List.set_cons_zero, List.set_cons_succ]; rfl
               (refine one_ (i := 5) (N := some 18) #[true, true, true, true, true, true, false, false, true, false, false, true, false] rfl rfl (one_of HT_.out (by kernel_rfl)) (by decide) (fun K hK => ?_)); (refine goes_ Try.func51 (by kernel_rfl) rfl #[.int .i64 a1] (by rfl) rfl rfl (by (try simp only [List.map_toArray, List.map_cons, List.map_nil]); first | done | rfl | (simp only [List.length_drop, List.length_take]; rfl)) ?_); (with_reducible refine (safeint_size.calls a1 t133 _ A8.out).mono ?_); rintro e w' ⟨rfl, ⟨nd, rfl⟩⟩; refine ⟨_, rfl, ?_⟩; (refine hK.out _ _ trivial (fun hHeld => ?_)); clear hK K; refine norm_ (a' := ?_) ?_ ?_; rotate_left
               ·
                show Act.put _ (some 18) _ = _
                simp only [Act.put, List.setIfInBounds_toArray, List.set_cons_zero, List.set_cons_succ, i64_w, i32_w]; rfl
               exact norm_ (by first | (simp only [putAll, Act.put, List.setIfInBounds_toArray, List.set_cons_zero, List.set_cons_succ]; done) | (simp only [putAll, Act.put, List.setIfInBounds_toArray, List.set_cons_zero, List.set_cons_succ]; rfl)) (hJ1_3_5_11 (gb138) _ ⟨(by (with_reducible repeat (first | refine blk_drewN ?_ _ | refine blk_drew ?_ | refine blk_alloc ?_ _)); exact BK138.out), GW138.out, GE138.out, (by repeat (first | (with_reducible first | exact HB.out | apply below_alloc | apply pw_below_drewN | apply below_drew1 | refine below_set ?_ GE138.out) | exact HB.out))⟩)
             ·
              skip; rintro _ w23 h0_; have n0_ : Aside0 (Below w.heap.size w w23) := ⟨h0_⟩; clear HB; clear h0_; have HB := n0_; clear n0_; have hHeld := trivial; refine norm_ (a' := ?_) ?_ ?_; rotate_left
              ·
               simp only [putAll, Act.put, List.setIfInBounds_toArray, List.set_cons_zero, List.set_cons_succ]; rfl
              refine two_ (i := 6) (j := 11) (Ni := some 19) (Nj := some 6) #[true, true, true, true, true, true, true, false, true, false, false, false, false] #[true, true, true, true, true, true, false, false, true, false, false, true, false] rfl rfl rfl rfl (two_of HT_.out (by kernel_rfl)) (by decide) (by decide) (fun K hK => ?_) (fun K hK => ?_)
              ·
               skip; (refine goes_ Try.func50 (by kernel_rfl) rfl #[.int .u64 t132, .int .u64 t133] (by rfl) rfl rfl (by (try simp only [List.map_toArray, List.map_cons, List.map_nil]); first | done | rfl | (simp only [List.length_drop, List.length_take]; rfl)) ?_); (with_reducible refine (safeint_common.calls t132 t133 t134 _ A9.out).mono ?_); rintro e w' ⟨rfl, ⟨nd, rfl⟩⟩; refine ⟨_, rfl, ?_⟩; (refine hK.out _ _ trivial (fun hHeld => ?_)); clear hK K; refine norm_ (a' := ?_) ?_ ?_; rotate_left
               ·
                show Act.put _ (some 19) _ = _
                simp only [Act.put, List.setIfInBounds_toArray, List.set_cons_zero, List.set_cons_succ, i64_w, i32_w]; rfl
               (refine pure_ (i := 7) (N := some 20) (v := ?_) (a' := ?_) #[true, true, true, true, true, true, true, true, true, false, false, false, false] rfl rfl (any_of HT_.out (by kernel_rfl)) (fun _ _ _ h => h) (Or.inl ⟨by rfl, ?_⟩) ?_ ?_); rotate_left
               ·
                intro w'; go_simp; (with_reducible rfl)
               rotate_left
               ·
                simp only [Act.put, List.setIfInBounds_toArray, List.set_cons_zero, List.set_cons_succ, i64_w, i32_w]; rfl
               exact norm_ (by first | (simp only [putAll, Act.put, List.setIfInBounds_toArray, List.set_cons_zero, List.set_cons_succ]; done) | (simp only [putAll, Act.put, List.setIfInBounds_toArray, List.set_cons_zero, List.set_cons_succ]; rfl)) (hJ1_3_5_6 () _ (by repeat (first | (with_reducible first | exact HB.out | apply below_alloc | apply pw_below_drewN | apply below_drew1) | exact HB.out)))
              ·
               skip; (refine box_step ?hg (N := 6) ?hd (cs := #[.int .u64 0, .int .u64 0]) (t := 74) ?hr ?_; (case hd => rfl); (case hg => rfl); (case hr => first | (go_simp; done) | (go_simp; rfl))); intro gb138 hg w24 hbox hb; (have n0_ := Aside0.mk (below_step (by repeat (first | (with_reducible first | exact HB.out | apply below_alloc | apply pw_below_drewN | apply below_drew1) | exact HB.out)) hb)); have n1_ := Aside0.mk (hbox); (have n2_ := Aside0.mk ((by rw [hg]; exact (below_size (by repeat (first | (with_reducible first | exact HB.out | apply below_alloc | apply pw_below_drewN | apply below_drew1) | exact HB.out))) : w.heap.size ≤ gb138))); (have n3_ := Aside0.mk ((by rw [hg]; exact (below_size (by repeat (first | (with_reducible first | exact HB.out | apply below_alloc | apply pw_below_drewN | apply below_drew1) | exact HB.out))) : w.heap.size ≤ gb138))); clear HB; have HB := n0_; have BK138 := n1_; have GW138 := n2_; have GE138 := n3_; clear n0_ n1_ n2_ n3_; clear hb hbox hg; (refine hK.out _ _ trivial (fun hHeld => ?_)); clear hK K; refine norm_ (a' := ?_) ?_ ?_; rotate_left
               ·
                show Act.put _ (some 6) _ = _
                simp only [Act.put, List.setIfInBounds_toArray, List.set_cons_zero, List.set_cons_succ, i64_w, i32_w]; rfl
               exact norm_ (by first | (simp only [putAll, Act.put, List.setIfInBounds_toArray, List.set_cons_zero, List.set_cons_succ]; done) | (simp only [putAll, Act.put, List.setIfInBounds_toArray, List.set_cons_zero, List.set_cons_succ]; rfl)) (hJ1_3_5_11 (gb138) _ ⟨(by (with_reducible repeat (first | refine blk_drewN ?_ _ | refine blk_drew ?_ | refine blk_alloc ?_ _)); exact BK138.out), GW138.out, GE138.out, (by repeat (first | (with_reducible first | exact HB.out | apply below_alloc | apply pw_below_drewN | apply below_drew1 | refine below_set ?_ GE138.out) | exact HB.out))⟩)
            ·
             skip; rintro gb138 w24 ⟨h0_, h1_, h2_, h3_⟩; have n0_ : Aside0 (w24.heap[gb138]? = some (.cells #[.int .u64 0, .int .u64 0] 74 (0, 0))) := ⟨h0_⟩; have n1_ : Aside0 (w.heap.size ≤ gb138) := ⟨h1_⟩; have n2_ : Aside0 (w.heap.size ≤ gb138) := ⟨h2_⟩; have n3_ : Aside0 (Below w.heap.size w w24) := ⟨h3_⟩; clear HB; clear h0_ h1_ h2_ h3_; have BK138 := n0_; have GW138 := n1_; have GE138 := n2_; have HB := n3_; clear n0_ n1_ n2_ n3_; have hHeld := trivial; refine norm_ (a' := ?_) ?_ ?_; rotate_left
             ·
              simp only [putAll, Act.put, List.setIfInBounds_toArray, List.set_cons_zero, List.set_cons_succ]; rfl
             (refine one_ (i := 6) (N := some 19) #[true, true, true, true, true, true, true, false, true, false, false, true, false] rfl rfl (one_of HT_.out (by kernel_rfl)) (by decide) (fun K hK => ?_)); (refine goes_ Try.func50 (by kernel_rfl) rfl #[.int .u64 t132, .int .u64 t133] (by rfl) rfl rfl (by (try simp only [List.map_toArray, List.map_cons, List.map_nil]); first | done | rfl | (simp only [List.length_drop, List.length_take]; rfl)) ?_); (with_reducible refine (safeint_common.calls t132 t133 t134 _ A9.out).mono ?_); rintro e w' ⟨rfl, ⟨nd, rfl⟩⟩; refine ⟨_, rfl, ?_⟩; (refine hK.out _ _ trivial (fun hHeld => ?_)); clear hK K; refine norm_ (a' := ?_) ?_ ?_; rotate_left
             ·
              show Act.put _ (some 19) _ = _
              simp only [Act.put, List.setIfInBounds_toArray, List.set_cons_zero, List.set_cons_succ, i64_w, i32_w]; rfl
             (refine pure_ (i := 7) (N := some 20) (v := ?_) (a' := ?_) #[true, true, true, true, true, true, true, true, true, false, false, true, false] rfl rfl (any_of HT_.out (by kernel_rfl)) (fun _ _ _ h => h) (Or.inl ⟨by rfl, ?_⟩) ?_ ?_); rotate_left
             ·
              intro w'; go_simp; (with_reducible rfl)
             rotate_left
             ·
              simp only [Act.put, List.setIfInBounds_toArray, List.set_cons_zero, List.set_cons_succ, i64_w, i32_w]; rfl
             exact norm_ (by first | (simp only [putAll, Act.put, List.setIfInBounds_toArray, List.set_cons_zero, List.set_cons_succ]; done) | (simp only [putAll, Act.put, List.setIfInBounds_toArray, List.set_cons_zero, List.set_cons_succ]; rfl)) (hJ1_3_5_6_11 (gb138) _ ⟨(by (with_reducible repeat (first | refine blk_drewN ?_ _ | refine blk_drew ?_ | refine blk_alloc ?_ _)); exact BK138.out), GW138.out, GE138.out, (by repeat (first | (with_reducible first | exact HB.out | apply below_alloc | apply pw_below_drewN | apply below_drew1 | refine below_set ?_ GE138.out) | exact HB.out))⟩)
           ·
            skip; rintro _ w23 h0_; have n0_ : Aside0 (Below w.heap.size w w23) := ⟨h0_⟩; clear HB; clear h0_; have HB := n0_; clear n0_; have hHeld := trivial; refine norm_ (a' := ?_) ?_ ?_; rotate_left
            ·
             simp only [putAll, Act.put, List.setIfInBounds_toArray, List.set_cons_zero, List.set_cons_succ]; rfl
            refine two_ (i := 9) (j := 11) (Ni := some 22) (Nj := some 6) #[true, true, true, true, true, true, true, true, true, true, false, false, false] #[true, true, true, true, true, true, true, true, true, false, false, true, false] rfl rfl rfl rfl (two_of HT_.out (by kernel_rfl)) (by decide) (by decide) (fun K hK => ?_) (fun K hK => ?_)
            ·
             skip; (refine goes_ Try.func51 (by kernel_rfl) rfl #[.int .i64 a1] (by rfl) rfl rfl (by (try simp only [List.map_toArray, List.map_cons, List.map_nil]); first | done | rfl | (simp only [List.length_drop, List.length_take]; rfl)) ?_); (with_reducible refine (safeint_size.calls a1 t135 _ A11.out).mono ?_); rintro e w' ⟨rfl, ⟨nd, rfl⟩⟩; refine ⟨_, rfl, ?_⟩; (refine hK.out _ _ trivial (fun hHeld => ?_)); clear hK K; refine norm_ (a' := ?_) ?_ ?_; rotate_left
             ·
              show Act.put _ (some 22) _ = _
              simp only [Act.put, List.setIfInBounds_toArray, List.set_cons_zero, List.set_cons_succ, i64_w, i32_w]; rfl
             exact norm_ (by first | (simp only [putAll, Act.put, List.setIfInBounds_toArray, List.set_cons_zero, List.set_cons_succ]; done) | (simp only [putAll, Act.put, List.setIfInBounds_toArray, List.set_cons_zero, List.set_cons_succ]; rfl)) (hJ1_3_5_6_9 () _ (by repeat (first | (with_reducible first | exact HB.out | apply below_alloc | apply pw_below_drewN | apply below_drew1) | exact HB.out)))
            ·
             skip; (refine box_step ?hg (N := 6) ?hd (cs := #[.int .u64 0, .int .u64 0]) (t := 74) ?hr ?_; (case hd => rfl); (case hg => rfl); (case hr => first | (go_simp; done) | (go_simp; rfl))); intro gb138 hg w24 hbox hb; (have n0_ := Aside0.mk (below_step (by repeat (first | (with_reducible first | exact HB.out | apply below_alloc | apply pw_below_drewN | apply below_drew1) | exact HB.out)) hb)); have n1_ := Aside0.mk (hbox); (have n2_ := Aside0.mk ((by rw [hg]; exact (below_size (by repeat (first | (with_reducible first | exact HB.out | apply below_alloc | apply pw_below_drewN | apply below_drew1) | exact HB.out))) : w.heap.size ≤ gb138))); (have n3_ := Aside0.mk ((by rw [hg]; exact (below_size (by repeat (first | (with_reducible first | exact HB.out | apply below_alloc | apply pw_below_drewN | apply below_drew1) | exact HB.out))) : w.heap.size ≤ gb138))); clear HB; have HB := n0_; have BK138 := n1_; have GW138 := n2_; have GE138 := n3_; clear n0_ n1_ n2_ n3_; clear hb hbox hg; (refine hK.out _ _ trivial (fun hHeld => ?_)); clear hK K; refine norm_ (a' := ?_) ?_ ?_; rotate_left
             ·
              show Act.put _ (some 6) _ = _
              simp only [Act.put, List.setIfInBounds_toArray, List.set_cons_zero, List.set_cons_succ, i64_w, i32_w]; rfl
             exact norm_ (by first | (simp only [putAll, Act.put, List.setIfInBounds_toArray, List.set_cons_zero, List.set_cons_succ]; done) | (simp only [putAll, Act.put, List.setIfInBounds_toArray, List.set_cons_zero, List.set_cons_succ]; rfl)) (hJ1_3_5_6_11 (gb138) _ ⟨(by (with_reducible repeat (first | refine blk_drewN ?_ _ | refine blk_drew ?_ | refine blk_alloc ?_ _)); exact BK138.out), GW138.out, GE138.out, (by repeat (first | (with_reducible first | exact HB.out | apply below_alloc | apply pw_below_drewN | apply below_drew1 | refine below_set ?_ GE138.out) | exact HB.out))⟩)
          ·
           skip; rintro gb138 w24 ⟨h0_, h1_, h2_, h3_⟩; have n0_ : Aside0 (w24.heap[gb138]? = some (.cells #[.int .u64 0, .int .u64 0] 74 (0, 0))) := ⟨h0_⟩; have n1_ : Aside0 (w.heap.size ≤ gb138) := ⟨h1_⟩; have n2_ : Aside0 (w.heap.size ≤ gb138) := ⟨h2_⟩; have n3_ : Aside0 (Below w.heap.size w w24) := ⟨h3_⟩; clear HB; clear h0_ h1_ h2_ h3_; have BK138 := n0_; have GW138 := n1_; have GE138 := n2_; have HB := n3_; clear n0_ n1_ n2_ n3_; have hHeld := trivial; refine norm_ (a' := ?_) ?_ ?_; rotate_left
           ·
            simp only [putAll, Act.put, List.setIfInBounds_toArray, List.set_cons_zero, List.set_cons_succ]; rfl
           (refine one_ (i := 9) (N := some 22) #[true, true, true, true, true, true, true, true, true, true, false, true, false] rfl rfl (one_of HT_.out (by kernel_rfl)) (by decide) (fun K hK => ?_)); (refine goes_ Try.func51 (by kernel_rfl) rfl #[.int .i64 a1] (by rfl) rfl rfl (by (try simp only [List.map_toArray, List.map_cons, List.map_nil]); first | done | rfl | (simp only [List.length_drop, List.length_take]; rfl)) ?_); (with_reducible refine (safeint_size.calls a1 t135 _ A11.out).mono ?_); rintro e w' ⟨rfl, ⟨nd, rfl⟩⟩; refine ⟨_, rfl, ?_⟩; (refine hK.out _ _ trivial (fun hHeld => ?_)); clear hK K; refine norm_ (a' := ?_) ?_ ?_; rotate_left
           ·
            show Act.put _ (some 22) _ = _
            simp only [Act.put, List.setIfInBounds_toArray, List.set_cons_zero, List.set_cons_succ, i64_w, i32_w]; rfl
           exact norm_ (by first | (simp only [putAll, Act.put, List.setIfInBounds_toArray, List.set_cons_zero, List.set_cons_succ]; done) | (simp only [putAll, Act.put, List.setIfInBounds_toArray, List.set_cons_zero, List.set_cons_succ]; rfl)) (hJ1_3_5_6_9_11 (gb138) _ ⟨(by (with_reducible repeat (first | refine blk_drewN ?_ _ | refine blk_drew ?_ | refine blk_alloc ?_ _)); exact BK138.out), GW138.out, GE138.out, (by repeat (first | (with_reducible first | exact HB.out | apply below_alloc | apply pw_below_drewN | apply below_drew1 | refine below_set ?_ GE138.out) | exact HB.out))⟩)
         ·
          skip; rintro _ w23 h0_; have n0_ : Aside0 (Below w.heap.size w w23) := ⟨h0_⟩; clear HB; clear h0_; have HB := n0_; clear n0_; have hHeld := trivial; refine norm_ (a' := ?_) ?_ ?_; rotate_left
          ·
           simp only [putAll, Act.put, List.setIfInBounds_toArray, List.set_cons_zero, List.set_cons_succ]; rfl
          refine two_ (i := 10) (j := 11) (Ni := some 23) (Nj := some 6) #[true, true, true, true, true, true, true, true, true, true, true, false, false] #[true, true, true, true, true, true, true, true, true, true, false, true, false] rfl rfl rfl rfl (two_of HT_.out (by kernel_rfl)) (by decide) (by decide) (fun K hK => ?_) (fun K hK => ?_)
          ·
           skip; (refine goes_ Try.func52 (by kernel_rfl) rfl #[.int .u64 (IntKind.u64.wrap (Int.tdiv t131 t134)), .int .u64 t135] (by rfl) rfl rfl (by (try simp only [List.map_toArray, List.map_cons, List.map_nil]); first | done | rfl | (simp only [List.length_drop, List.length_take]; rfl)) ?_); (with_reducible refine (safeint_times.calls (IntKind.u64.wrap (Int.tdiv t131 t134)) t135 t136 t137 _ A12.out).mono ?_); rintro e w24 ⟨rfl, hb⟩; refine ⟨_, rfl, ?_⟩; (have n0_ := Aside0.mk (below_step (by repeat (first | (with_reducible first | exact HB.out | apply below_alloc | apply pw_below_drewN | apply below_drew1) | exact HB.out)) hb)); clear HB; have HB := n0_; clear n0_; (try clear hb); (try clear hb2); (try clear hk); (try clear hi); (refine hK.out _ _ trivial (fun hHeld => ?_)); clear hK K; refine norm_ (a' := ?_) ?_ ?_; rotate_left
           ·
            show Act.put _ (some 23) _ = _
            simp only [Act.put, List.setIfInBounds_toArray, List.set_cons_zero, List.set_cons_succ, i64_w, i32_w]; rfl
           exact norm_ (by first | (simp only [putAll, Act.put, List.setIfInBounds_toArray, List.set_cons_zero, List.set_cons_succ]; done) | (simp only [putAll, Act.put, List.setIfInBounds_toArray, List.set_cons_zero, List.set_cons_succ]; rfl)) (hJ1_3_5_6_9_10 () _ (by repeat (first | (with_reducible first | exact HB.out | apply below_alloc | apply pw_below_drewN | apply below_drew1) | exact HB.out)))
          ·
           skip; (refine box_step ?hg (N := 6) ?hd (cs := #[.int .u64 0, .int .u64 0]) (t := 74) ?hr ?_; (case hd => rfl); (case hg => rfl); (case hr => first | (go_simp; done) | (go_simp; rfl))); intro gb138 hg w24 hbox hb; (have n0_ := Aside0.mk (below_step (by repeat (first | (with_reducible first | exact HB.out | apply below_alloc | apply pw_below_drewN | apply below_drew1) | exact HB.out)) hb)); have n1_ := Aside0.mk (hbox); (have n2_ := Aside0.mk ((by rw [hg]; exact (below_size (by repeat (first | (with_reducible first | exact HB.out | apply below_alloc | apply pw_below_drewN | apply below_drew1) | exact HB.out))) : w.heap.size ≤ gb138))); (have n3_ := Aside0.mk ((by rw [hg]; exact (below_size (by repeat (first | (with_reducible first | exact HB.out | apply below_alloc | apply pw_below_drewN | apply below_drew1) | exact HB.out))) : w.heap.size ≤ gb138))); clear HB; have HB := n0_; have BK138 := n1_; have GW138 := n2_; have GE138 := n3_; clear n0_ n1_ n2_ n3_; clear hb hbox hg; (refine hK.out _ _ trivial (fun hHeld => ?_)); clear hK K; refine norm_ (a' := ?_) ?_ ?_; rotate_left
           ·
            show Act.put _ (some 6) _ = _
            simp only [Act.put, List.setIfInBounds_toArray, List.set_cons_zero, List.set_cons_succ, i64_w, i32_w]; rfl
           exact norm_ (by first | (simp only [putAll, Act.put, List.setIfInBounds_toArray, List.set_cons_zero, List.set_cons_succ]; done) | (simp only [putAll, Act.put, List.setIfInBounds_toArray, List.set_cons_zero, List.set_cons_succ]; rfl)) (hJ1_3_5_6_9_11 (gb138) _ ⟨(by (with_reducible repeat (first | refine blk_drewN ?_ _ | refine blk_drew ?_ | refine blk_alloc ?_ _)); exact BK138.out), GW138.out, GE138.out, (by repeat (first | (with_reducible first | exact HB.out | apply below_alloc | apply pw_below_drewN | apply below_drew1 | refine below_set ?_ GE138.out) | exact HB.out))⟩)
        ·
         skip; rintro gb138 w24 ⟨h0_, h1_, h2_, h3_⟩; have n0_ : Aside0 (w24.heap[gb138]? = some (.cells #[.int .u64 0, .int .u64 0] 74 (0, 0))) := ⟨h0_⟩; have n1_ : Aside0 (w.heap.size ≤ gb138) := ⟨h1_⟩; have n2_ : Aside0 (w.heap.size ≤ gb138) := ⟨h2_⟩; have n3_ : Aside0 (Below w.heap.size w w24) := ⟨h3_⟩; clear HB; clear h0_ h1_ h2_ h3_; have BK138 := n0_; have GW138 := n1_; have GE138 := n2_; have HB := n3_; clear n0_ n1_ n2_ n3_; have hHeld := trivial; refine norm_ (a' := ?_) ?_ ?_; rotate_left
         ·
          simp only [putAll, Act.put, List.setIfInBounds_toArray, List.set_cons_zero, List.set_cons_succ]; rfl
         (refine one_ (i := 10) (N := some 23) #[true, true, true, true, true, true, true, true, true, true, true, true, false] rfl rfl (one_of HT_.out (by kernel_rfl)) (by decide) (fun K hK => ?_)); (refine goes_ Try.func52 (by kernel_rfl) rfl #[.int .u64 (IntKind.u64.wrap (Int.tdiv t131 t134)), .int .u64 t135] (by rfl) rfl rfl (by (try simp only [List.map_toArray, List.map_cons, List.map_nil]); first | done | rfl | (simp only [List.length_drop, List.length_take]; rfl)) ?_); (with_reducible refine (safeint_times.calls (IntKind.u64.wrap (Int.tdiv t131 t134)) t135 t136 t137 _ A12.out).mono ?_); rintro e w25 ⟨rfl, hb⟩; refine ⟨_, rfl, ?_⟩; (have n0_ := Aside0.mk (blk_below (g := gb138) (o := .cells #[.int .u64 0, .int .u64 0] 74 (0, 0)) (by (with_reducible repeat (first | refine blk_drewN ?_ _ | refine blk_drew ?_ | refine blk_alloc ?_ _)); exact BK138.out) hb)); (have n1_ := Aside0.mk (below_step (by repeat (first | (with_reducible first | exact HB.out | apply below_alloc | apply pw_below_drewN | apply below_drew1 | refine below_set ?_ GE138.out) | exact HB.out)) hb)); clear BK138; clear HB; have BK138 := n0_; have HB := n1_; clear n0_ n1_; (try clear hb); (try clear hb2); (try clear hk); (try clear hi); (refine hK.out _ _ trivial (fun hHeld => ?_)); clear hK K; refine norm_ (a' := ?_) ?_ ?_; rotate_left
         ·
          show Act.put _ (some 23) _ = _
          simp only [Act.put, List.setIfInBounds_toArray, List.set_cons_zero, List.set_cons_succ, i64_w, i32_w]; rfl
         exact norm_ (by first | (simp only [putAll, Act.put, List.setIfInBounds_toArray, List.set_cons_zero, List.set_cons_succ]; done) | (simp only [putAll, Act.put, List.setIfInBounds_toArray, List.set_cons_zero, List.set_cons_succ]; rfl)) (hJ1_3_5_6_9_10_11 (gb138) _ ⟨(by (with_reducible repeat (first | refine blk_drewN ?_ _ | refine blk_drew ?_ | refine blk_alloc ?_ _)); exact BK138.out), GW138.out, GE138.out, (by repeat (first | (with_reducible first | exact HB.out | apply below_alloc | apply pw_below_drewN | apply below_drew1 | refine below_set ?_ GE138.out) | exact HB.out))⟩)
       ·
        skip; rintro _ w24 h0_; have n0_ : Aside0 (Below w.heap.size w w24) := ⟨h0_⟩; clear HB; clear h0_; have HB := n0_; clear n0_; have hHeld := trivial; refine norm_ (a' := ?_) ?_ ?_; rotate_left
        ·
         simp only [putAll, Act.put, List.setIfInBounds_toArray, List.set_cons_zero, List.set_cons_succ]; rfl
        (refine one_ (i := 11) (N := some 6) #[true, true, true, true, true, true, true, true, true, true, true, true, false] rfl rfl (one_of HT_.out (by kernel_rfl)) (by decide) (fun K hK => ?_)); (refine box_step ?hg (N := 6) ?hd (cs := #[.int .u64 0, .int .u64 0]) (t := 74) ?hr ?_; (case hd => rfl); (case hg => rfl); (case hr => first | (go_simp; done) | (go_simp; rfl))); intro gb138 hg w25 hbox hb; (have n0_ := Aside0.mk (below_step (by repeat (first | (with_reducible first | exact HB.out | apply below_alloc | apply pw_below_drewN | apply below_drew1) | exact HB.out)) hb)); have n1_ := Aside0.mk (hbox); (have n2_ := Aside0.mk ((by rw [hg]; exact (below_size (by repeat (first | (with_reducible first | exact HB.out | apply below_alloc | apply pw_below_drewN | apply below_drew1) | exact HB.out))) : w.heap.size ≤ gb138))); (have n3_ := Aside0.mk ((by rw [hg]; exact (below_size (by repeat (first | (with_reducible first | exact HB.out | apply below_alloc | apply pw_below_drewN | apply below_drew1) | exact HB.out))) : w.heap.size ≤ gb138))); clear HB; have HB := n0_; have BK138 := n1_; have GW138 := n2_; have GE138 := n3_; clear n0_ n1_ n2_ n3_; clear hb hbox hg; (refine hK.out _ _ trivial (fun hHeld => ?_)); clear hK K; refine norm_ (a' := ?_) ?_ ?_; rotate_left
        ·
         show Act.put _ (some 6) _ = _
         simp only [Act.put, List.setIfInBounds_toArray, List.set_cons_zero, List.set_cons_succ, i64_w, i32_w]; rfl
        exact norm_ (by first | (simp only [putAll, Act.put, List.setIfInBounds_toArray, List.set_cons_zero, List.set_cons_succ]; done) | (simp only [putAll, Act.put, List.setIfInBounds_toArray, List.set_cons_zero, List.set_cons_succ]; rfl)) (hJ1_3_5_6_9_10_11 (gb138) _ ⟨(by (with_reducible repeat (first | refine blk_drewN ?_ _ | refine blk_drew ?_ | refine blk_alloc ?_ _)); exact BK138.out), GW138.out, GE138.out, (by repeat (first | (with_reducible first | exact HB.out | apply below_alloc | apply pw_below_drewN | apply below_drew1 | refine below_set ?_ GE138.out) | exact HB.out))⟩)
      rintro gb138 w25 ⟨h0_, h1_, h2_, h3_⟩; have n0_ : Aside0 (w25.heap[gb138]? = some (.cells #[.int .u64 0, .int .u64 0] 74 (0, 0))) := ⟨h0_⟩; have n1_ : Aside0 (w.heap.size ≤ gb138) := ⟨h1_⟩; have n2_ : Aside0 (w.heap.size ≤ gb138) := ⟨h2_⟩; have n3_ : Aside0 (Below w.heap.size w w25) := ⟨h3_⟩; clear HB; clear h0_ h1_ h2_ h3_; have BK138 := n0_; have GW138 := n1_; have GE138 := n2_; have HB := n3_; clear n0_ n1_ n2_ n3_; have hHeld := trivial; refine norm_ (a' := ?_) ?_ ?_; rotate_left
      ·
       simp only [putAll, Act.put, List.setIfInBounds_toArray, List.set_cons_zero, List.set_cons_succ]; rfl
      (refine one_ (i := 12) (N := none) #[true, true, true, true, true, true, true, true, true, true, true, true, true] rfl rfl (one_of HT_.out (by kernel_rfl)) (by decide) (fun K hK => ?_)); have hs26 : w25.cell? ⟨gb138, 0, none⟩ = some (.int .u64 0) := (blk_cell BK138.out 0).trans rfl; have hfs26 := blk_frozen BK138.out 0; have hs27 : w25.cell? ⟨gb138, 1, none⟩ = some (.int .u64 0) := (blk_cell BK138.out 1).trans rfl; have hfs27 := blk_frozen BK138.out 1; (refine skip_ (w1 := ?_) (by rfl) rfl ?_ ?_); rotate_left
      ·
       go_simp; rfl
      (refine hK.out _ _ trivial (fun hHeld => ?_)); clear hK K; (refine done_ (done_of HT_.out (by kernel_rfl)) ?_); have hcz28_0 : w25.cell? ⟨gb138, 0, none⟩ = some (.int .u64 0) := (blk_cell BK138.out 0).trans rfl; have hcz28_1 : w25.cell? ⟨gb138, 1, none⟩ = some (.int .u64 0) := (blk_cell BK138.out 1).trans rfl; have hfz28_0 := blk_frozen BK138.out 0; have hfz28_1 := blk_frozen BK138.out 1; (try go_wp2); go_ret2; (exact ⟨by first | rfl | (simp [errW_none, errW_some] <;> rfl) | (simp [*, errW_none, errW_some] <;> rfl), by repeat (first | (with_reducible first | exact HB.out | apply below_alloc | apply pw_below_drewN | apply below_drew1 | refine below_set ?_ GE138.out) | exact HB.out)⟩)

end Go.Proofs.Ytckefohfahphpaa.Z
end
section
namespace Go.Proofs.Ytckefohfahphpaa.Z
open Go.RowKit Go.Proofs.YtckefohfahphpaaW.PrintWords Go.Proofs.YtckefohfahphpaaW.PrintLast Go.Proofs.YtckefohfahphpaaW.PrintMore
attribute [local go_sem] max2_int min2_int max_two min_two max_three min_three max_four min_four   -- for this text's walks alone
set_option linter.unusedVariables false
set_option linter.unusedSimpArgs false

/-! ### matrix_table_solution: function 28, by hand -/
def sol_scale (k : Nat) (rows : List (List Int)) (f : Int) : List Int → Nat → Int → Option (Option Int)
 | [], _, s => some (some s)
 | c :: cs, i, s => if i < rows.length ∧ 0 ≤ c ∧ c < ((rd_L1 rows i).length : Int) ∧ 0 ≤ f ∧ f < ((rd_L1 rows i).length : Int) then
   (safeint_Gcd.f (rd (rd_L1 rows i) c) (rd (rd_L1 rows i) f)).bind fun g => if g.2 = true then (if g.1 = 0 then none else
    (safeint_Lcm.f k s (wrap64 (Int.tdiv (rd (rd_L1 rows i) c) g.1))).bind fun q => if q.2 = true then sol_scale k rows f cs (i + 1) q.1 else some none) else some none else none
def sol_fill (rows : List (List Int)) (f scale : Int) : List Int → Nat → List Int → Option (Option (List Int))
 | [], _, out => some (some out)
 | c :: cs, i, out => if i < rows.length ∧ 0 ≤ c ∧ c < ((rd_L1 rows i).length : Int) ∧ 0 ≤ f ∧ f < ((rd_L1 rows i).length : Int) ∧ c < (out.length : Int) then
   (safeint_Gcd.f (rd (rd_L1 rows i) c) (rd (rd_L1 rows i) f)).bind fun g => if g.1 = 0 then none else if wrap64 (Int.tdiv (rd (rd_L1 rows i) c) g.1) = 0 then none else
    (safeint_Mul.f (wrap64 (-(wrap64 (Int.tdiv (rd (rd_L1 rows i) f) g.1)))) (wrap64 (Int.tdiv scale (wrap64 (Int.tdiv (rd (rd_L1 rows i) c) g.1))))).bind fun v => if v.2 = true then sol_fill rows f scale cs (i + 1) (out.set c.toNat v.1) else some none else none
def table_solution.f (k : Nat) (rows : List (List Int)) (cols : List Int) (f size : Int) : Option (List Int × Int) :=
 if 0 ≤ f ∧ f < size ∧ size ≤ 1000000 ∧ cols.length ≤ 1000000 then (sol_scale k rows f cols 0 1).bind fun s => match s with
  | none => some ([], 3)
  | some s => (sol_fill rows f s cols 0 ((List.replicate size.toNat 0).set f.toNat s)).bind fun o => match o with
   | none => some ([], 3)
   | some o => vector_Prim.f k o
 else none
theorem drop_rd1 {l : List Int} {i : Nat} (h : i < l.length) : l.drop i = rd l (i : Int) :: l.drop (i + 1) := by
 rw [List.drop_eq_getElem_cons h]
 simp [rd, List.getD_eq_getElem?_getD, h]
set_option maxHeartbeats 2000000 in
set_option maxRecDepth 100000 in
theorem table_solution.calls (k : Nat) (f size : Int) (base g : Nat) (cols : List Int) (rows : List (List Int)) (cv rv : Value) (out : List Int) (e : Int) (w : World) (hT : TB w base g cols rows cv rv) (h : table_solution.f k rows cols f size = some (out, e)) :
  Calls Try.prog 28 #[.pointer (some ⟨g, 0, none⟩), .int .i64 f, .int .i64 size] w fun e' w' => ∃ v0_ : Value, e' = .returned (.tuple #[v0_, .int .i64 e]) ∧ Kd.R (Kd.int .i64) 2 w' w.heap.size (fun _ => True) v0_ out ∧ Below w.heap.size w w' := by
 unfold table_solution.f at h
 split at h
 case isFalse => cases h
 rename_i hb
 obtain ⟨hf0, hf1, hsz, hcl⟩ := hb
 obtain ⟨s0, hsc, h⟩ := Option.bind_eq_some_iff.mp h
 obtain ⟨Ac, cc, rfl⟩ := Kd.R_slice hT.col
 obtain ⟨Ar, cr, rfl⟩ := Kd.R_slice hT.row
 obtain ⟨_, _, hCc⟩ := Kd.R_reads' hT.col
 obtain ⟨_, _, hCr⟩ := Kd.R_reads' hT.row
 have HT := Aside0.mk hT
 have HSC := Aside0.mk hsc
 have HH := Aside0.mk h
 have HCC := Aside0.mk hCc
 have HCR := Aside0.mk hCr
 have HCL := Aside0.mk hcl
 have hc0 := hT.c0
 have hbg : g < w.heap.size := hT.lt
 have HC1 := Aside0.mk hT.c1
 clear hT hsc h hCc hCr hcl
 go_enter Try.func28, Try.ntmps28
 go_wp2
 go_loopw [8, 28] (fun s8 s28 W => ∃ (i : Nat) (s : Int), i ≤ cols.length ∧ s8 = .int .i64 s ∧ s28 = .int .i64 (i : Int) ∧ Aside0 (sol_scale k rows f (cols.drop i) i s = some s0) ∧ Aside0 (Below w.heap.size w W)) (fun s8 s28 _ => cols.length - (intOf s28).toNat)
 case atStart => exact ⟨0, 1, Nat.zero_le _, rfl, rfl, HSC, ⟨Below.refl _ _⟩⟩
 case round =>
  obtain ⟨i, s, hi, rfl, rfl, HS, HB⟩ := hrel
  by_cases hlt : i < cols.length
  ·
   have hlt1 : (i : Int) < (cols.length : Int) := by omega
   have hd1 : decide ((i : Int) < (cols.length : Int)) = true := decide_eq_true hlt1
   have hclb : cols.length ≤ 1000000 := HCL.out
   have hs := HS.out
   rw [drop_rd1 hlt, sol_scale] at hs
   by_cases hcc : i < rows.length ∧ 0 ≤ rd cols (i : Int) ∧ rd cols (i : Int) < ((rd_L1 rows i).length : Int) ∧ 0 ≤ f ∧ f < ((rd_L1 rows i).length : Int)
   case neg => rw [if_neg hcc] at hs; cases hs
   rw [if_pos hcc] at hs
   obtain ⟨hir, hc1', hc2', hf1', hf2'⟩ := hcc
   have hir1 : (i : Int) < (rows.length : Int) := by omega
   have hX1 := (HB.out.cell (World.block_lt_of_cell? _ _ HC1.out)).trans HC1.out
   obtain ⟨adc, eac, hxc⟩ := Kd.at_int HCC.out (i : Int) (by omega) hlt1
   cases eac
   rw [Int.toNat_natCast] at hxc
   replace hxc := (HB.out.cell (World.block_lt_of_cell? _ _ hxc)).trans hxc
   obtain ⟨adr, Aa, ca, ead, hx, hl, hin⟩ := at_L1 HCR.out (i : Int) (by omega) hir1
   cases ead
   rw [Int.toNat_natCast] at hx
   replace hx := (HB.out.cell (World.block_lt_of_cell? _ _ hx)).trans hx
   obtain ⟨aa, eaa, hx1⟩ := Kd.at_int hin (rd cols (i : Int)) hc1' hc2'
   cases eaa
   obtain ⟨ab, eab, hx2⟩ := Kd.at_int hin f hf1' hf2'
   obtain rfl : aa = ab := (by injection eab)
   have HX1' := Aside0.mk hx1
   replace hx1 := (HB.out.cell (World.block_lt_of_cell? _ _ hx1)).trans hx1
   replace hx2 := (HB.out.cell (World.block_lt_of_cell? _ _ hx2)).trans hx2

   obtain ⟨⟨gg, ok⟩, hg, hs⟩ := Option.bind_eq_some_iff.mp hs
   have HG := Aside0.mk hg
   have HS2 := Aside0.mk hs
   clear hg hs HS hl hin hc0
   cases ok
   ·
    have he : s0 = none := by
     have := HS2.out
     simp at this
     exact this.symm
    subst he
    have hh := HH.out
    simp at hh
    obtain ⟨rfl, rfl⟩ := hh
    go_wp2
    go_quiet ((go_at_call 40; (with_reducible refine (safeint_Gcd.calls _ _ gg false _ HG.out).mono ?_); rintro e w' ⟨rfl, ⟨nd, rfl⟩⟩; exact ⟨rfl, _, World.drewN_drewN _ _ _⟩))
    go_wp2
    try rw [Exit.noGoto_ret]
    go_ret2
    exact ⟨_, rfl, Kd.R_nil _ _ _ _ _, pw_below_drewN HB.out _⟩
   ·
    have hgn : gg ≠ 0 := by
     intro h0
     have := HS2.out
     simp [h0] at this
    have hgb : (gg == 0) = false := beq_eq_false_iff_ne.mpr hgn
    obtain ⟨⟨q1, q2⟩, hq, hs⟩ : ∃ q, safeint_Lcm.f k s (wrap64 (Int.tdiv (rd (rd_L1 rows i) (rd cols (i : Int))) gg)) = some q ∧ (if q.2 = true then sol_scale k rows f (cols.drop (i + 1)) (i + 1) q.1 else some none) = some s0 := by
     have := HS2.out
     simp only [if_true, if_neg hgn] at this
     exact Option.bind_eq_some_iff.mp this
    have HQ := Aside0.mk hq
    have HS3 := Aside0.mk hs
    clear hq hs HS2
    cases q2
    ·
     have he : s0 = none := by
      have := HS3.out
      simp at this
      exact this.symm
     subst he
     have hh := HH.out
     simp at hh
     obtain ⟨rfl, rfl⟩ := hh
     go_wp2
     go_quiet ((go_at_call 40; (with_reducible refine (safeint_Gcd.calls _ _ gg true _ HG.out).mono ?_); rintro e w' ⟨rfl, ⟨nd, rfl⟩⟩; exact ⟨rfl, _, World.drewN_drewN _ _ _⟩))
     go_wp2_with (fail)
     refine (safeint_Lcm.calls k _ _ q1 false _ HQ.out).mono ?_
     rintro e3 w3 ⟨rfl, hb⟩
     have HB3 := Aside0.mk (below_step (pw_below_drewN HB.out _) hb)
     clear hb hx hx1 hx2 hxc hX1
     go_wp2
     try rw [Exit.noGoto_ret]
     go_ret2
     exact ⟨_, rfl, Kd.R_nil _ _ _ _ _, HB3.out⟩
    ·
     have HS4 : Aside0 (sol_scale k rows f (cols.drop (i + 1)) (i + 1) q1 = some s0) := ⟨by simpa using HS3.out⟩
     clear HS3
     go_wp2
     go_quiet ((go_at_call 40; (with_reducible refine (safeint_Gcd.calls _ _ gg true _ HG.out).mono ?_); rintro e w' ⟨rfl, ⟨nd, rfl⟩⟩; exact ⟨rfl, _, World.drewN_drewN _ _ _⟩))
     go_wp2_with (fail)
     refine (safeint_Lcm.calls k _ _ q1 true _ HQ.out).mono ?_
     rintro e3 w3 ⟨rfl, hb⟩
     have HB3 := Aside0.mk (below_step (pw_below_drewN HB.out _) hb)
     clear hb hx hx1 hx2 hxc hX1
     go_wp2
     go_roundw
     case measure => simp [intOf]; omega
     case rel => exact ⟨i + 1, q1, by omega, rfl, by go_num, HS4, HB3⟩
  ·
   obtain rfl : i = cols.length := by omega
   have hs := HS.out
   rw [List.drop_of_length_le (Nat.le_refl _), sol_scale] at hs
   cases hs
   have hh := HH.out
   simp only at hh
   obtain ⟨o0, hfill, hh⟩ := Option.bind_eq_some_iff.mp hh
   have HFILL := Aside0.mk hfill
   have HH2 := Aside0.mk hh
   have hfs : f < ((size.toNat : Nat) : Int) := by omega
   have hcl0 : cols.length ≤ 1000000 := HCL.out
   have hX0 := (HB.out.cell hbg).trans hc0
   clear hh hfill HH HSC hlt
   go_wp2_with (first
    | ((with_reducible refine gate_dst (N := 69) rfl ?_); refine Kd.R_make (Kd.int .i64) (w0 := w) w.heap.size 2 rfl (N := 69) rfl 33 _ _ rfl size rfl rfl Try.underlying33 (.int .i64 0) 8 tinfo2 rfl (by decide) (by omega) 0 (ok := fun _ => True) (okp := fun _ => True) rfl (fun _ hk => hk) trivial (by omega) (by omega) HB.out HB.out.size ?_; intro v1 w1 ho1 hb1 hg1 hat1; obtain ⟨g1, c1, ev, hbg1, _, _⟩ := Kd.R_form ho1 (by simp; omega); subst ev; rw [List.length_replicate] at ho1; have HO1 := Aside0.mk ho1; have HB1 := Aside0.mk hb1; have HBG := Aside0.mk hbg1; have hX01 := (hb1.cell hbg).trans hc0; obtain ⟨hy, hz⟩ := RI_cell ho1 f.toNat (by simp; omega); have hX02 : (w1.setCell ⟨g1, f.toNat, none⟩ (.int .i64 s)).cell? ⟨g, 0, none⟩ = some (.slice Ac cols.length cc) := (World.cell?_of_block (Below.heap_setCell _ _ _ _ (by show g ≠ g1; omega))).trans hX01; clear ho1 hb1 hg1 hat1 hbg1 hX0))
   have HO2 := Aside0.mk (RI_put HO1.out f.toNat s)
   have HB2 := Aside0.mk (HB1.out.setCell HBG.out (Value.int .i64 s) (p := ⟨g1, f.toNat, none⟩))
   clear hy hz hX01 hX02 HB
   go_loopw [80] (fun s80 W => ∃ (i : Nat) (out1 : List Int), i ≤ cols.length ∧ s80 = .int .i64 (i : Int) ∧ Aside0 (out1.length = size.toNat) ∧ Aside0 (sol_fill rows f s (cols.drop i) i out1 = some o0) ∧ Aside0 (Kd.R (Kd.int .i64) 2 W w.heap.size (fun _ => True) (.slice (some ⟨g1, 0, none⟩) size.toNat c1) out1) ∧ Aside0 (Below w.heap.size w W)) (fun s80 _ => cols.length - (intOf s80).toNat)
   case atStart => exact ⟨0, _, Nat.zero_le _, rfl, ⟨by simp⟩, HFILL, HO2, HB2⟩
   case round =>
    clear HO1 HB1 HO2 HB2 HFILL
    obtain ⟨i, out1, hi, rfl, HLO, HF, HO, HB⟩ := hrel
    by_cases hlt : i < cols.length
    ·
     have hlt1 : (i : Int) < (cols.length : Int) := by omega
     have hd1 : decide ((i : Int) < (cols.length : Int)) = true := decide_eq_true hlt1
     have hs := HF.out
     rw [drop_rd1 hlt, sol_fill] at hs
     by_cases hcc : i < rows.length ∧ 0 ≤ rd cols (i : Int) ∧ rd cols (i : Int) < ((rd_L1 rows i).length : Int) ∧ 0 ≤ f ∧ f < ((rd_L1 rows i).length : Int) ∧ rd cols (i : Int) < (out1.length : Int)
     case neg => rw [if_neg hcc] at hs; cases hs
     rw [if_pos hcc] at hs
     obtain ⟨hir, hc1', hc2', hf1', hf2', hc3'⟩ := hcc
     have hir1 : (i : Int) < (rows.length : Int) := by omega
     have hX1 := (HB.out.cell (World.block_lt_of_cell? _ _ HC1.out)).trans HC1.out
     obtain ⟨adc, eac, hxc⟩ := Kd.at_int HCC.out (i : Int) (by omega) hlt1
     cases eac
     rw [Int.toNat_natCast] at hxc
     replace hxc := (HB.out.cell (World.block_lt_of_cell? _ _ hxc)).trans hxc
     obtain ⟨adr, Aa, ca, ead, hx, hl, hin⟩ := at_L1 HCR.out (i : Int) (by omega) hir1
     cases ead
     rw [Int.toNat_natCast] at hx
     replace hx := (HB.out.cell (World.block_lt_of_cell? _ _ hx)).trans hx
     obtain ⟨aa, eaa, hx1⟩ := Kd.at_int hin (rd cols (i : Int)) hc1' hc2'
     cases eaa
     obtain ⟨ab, eab, hx2⟩ := Kd.at_int hin f hf1' hf2'
     obtain rfl : aa = ab := (by injection eab)
     have HB1' := Aside0.mk (World.block_lt_of_cell? _ _ hx1)
     have HB2' := Aside0.mk (World.block_lt_of_cell? _ _ hx2)
     have HX1' := Aside0.mk hx1
     have HX2' := Aside0.mk hx2
     replace hx1 := (HB.out.cell HB1'.out).trans hx1
     replace hx2 := (HB.out.cell HB2'.out).trans hx2

     have hlo : out1.length = size.toNat := HLO.out
     have hcs : rd cols (i : Int) < ((size.toNat : Nat) : Int) := by omega
     obtain ⟨⟨gg, ok⟩, hg, hs⟩ := Option.bind_eq_some_iff.mp hs
     have HG := Aside0.mk hg
     simp only at hs
     by_cases hgn : gg = 0
     case pos => rw [if_pos hgn] at hs; cases hs
     rw [if_neg hgn] at hs
     by_cases hgm : wrap64 (Int.tdiv (rd (rd_L1 rows i) (rd cols (i : Int))) gg) = 0
     case pos => rw [if_pos hgm] at hs; cases hs
     rw [if_neg hgm] at hs
     have hgb : (gg == 0) = false := beq_eq_false_iff_ne.mpr hgn
     have hgmc : (IntKind.i64.wrap (Int.tdiv (rd (rd_L1 rows i) (rd cols (i : Int))) gg) == 0) = false := by rw [i64_w]; exact beq_eq_false_iff_ne.mpr hgm
     have hgmd : ¬ IntKind.i64.wrap (Int.tdiv (rd (rd_L1 rows i) (rd cols (i : Int))) gg) = 0 := by rw [i64_w]; exact hgm
     have hgmb : (wrap64 (Int.tdiv (rd (rd_L1 rows i) (rd cols (i : Int))) gg) == 0) = false := beq_eq_false_iff_ne.mpr hgm
     obtain ⟨⟨v1, v2⟩, hq, hs⟩ := Option.bind_eq_some_iff.mp hs
     have HQ := Aside0.mk hq
     have HS3 := Aside0.mk hs
     have hbc : (rd cols (i : Int)).toNat < out1.length := by omega
     have HBC := Aside0.mk hbc
     clear hg hq hs HF hl hin hbc
     cases v2
     ·
      have he : o0 = none := by
       have := HS3.out
       simp at this
       exact this.symm
      subst he
      have hh := HH2.out
      simp at hh
      obtain ⟨rfl, rfl⟩ := hh
      go_wp2
      go_quiet ((go_at_call 40; (with_reducible refine (safeint_Gcd.calls _ _ gg ok _ HG.out).mono ?_); rintro e w' ⟨rfl, ⟨nd, rfl⟩⟩; exact ⟨rfl, _, World.drewN_drewN _ _ _⟩))
      go_wp2
      go_region_held3 (fun w' => w'.cell? (aa.add f.toNat) = some (.int .i64 (rd (rd_L1 rows i) f)) ∧ w'.cell? (aa.add (rd cols (i : Int)).toNat) = some (.int .i64 (rd (rd_L1 rows i) (rd cols (i : Int))))) (first | go_keep | exact ⟨hx2, hx1⟩) (first | (go_at_call 42; (try simp only [i64_w]); (with_reducible refine (safeint_Mul.calls _ _ v1 false _ HQ.out).mono ?_); rintro e3 w3 ⟨rfl, hb⟩; have hW3 : Below wr.heap.size wr w3 := below_step (by repeat (first | exact Below.refl _ _ | apply pw_below_drewN | apply below_drew1)) hb; have hB3 := HB.out.trans (hW3.mono HB.out.size); replace hx1 := (hB3.cell HB1'.out).trans HX1'.out; replace hx2 := (hB3.cell HB2'.out).trans HX2'.out; have HO3 := Aside0.mk (Kd.R_below HO.out hW3); have HB3 := Aside0.mk hB3; clear hb hW3 hB3))
      go_wp2
      try rw [Exit.noGoto_ret]
      go_ret2
      exact ⟨_, rfl, Kd.R_nil _ _ _ _ _, HB3.out⟩
     ·
      have HS4 : Aside0 (sol_fill rows f s (cols.drop (i + 1)) (i + 1) (out1.set (rd cols (i : Int)).toNat v1) = some o0) := ⟨by simpa using HS3.out⟩
      clear HS3
      go_wp2
      go_quiet ((go_at_call 40; (with_reducible refine (safeint_Gcd.calls _ _ gg ok _ HG.out).mono ?_); rintro e w' ⟨rfl, ⟨nd, rfl⟩⟩; exact ⟨rfl, _, World.drewN_drewN _ _ _⟩))
      go_wp2
      go_region_held3 (fun w' => w'.cell? (aa.add f.toNat) = some (.int .i64 (rd (rd_L1 rows i) f)) ∧ w'.cell? (aa.add (rd cols (i : Int)).toNat) = some (.int .i64 (rd (rd_L1 rows i) (rd cols (i : Int))))) (first | go_keep | exact ⟨hx2, hx1⟩) (first | (go_at_call 42; (try simp only [i64_w]); (with_reducible refine (safeint_Mul.calls _ _ v1 true _ HQ.out).mono ?_); rintro e3 w3 ⟨rfl, hb⟩; have hW3 : Below wr.heap.size wr w3 := below_step (by repeat (first | exact Below.refl _ _ | apply pw_below_drewN | apply below_drew1)) hb; have hB3 := HB.out.trans (hW3.mono HB.out.size); replace hx1 := (hB3.cell HB1'.out).trans HX1'.out; replace hx2 := (hB3.cell HB2'.out).trans HX2'.out; have HO3 := Aside0.mk (Kd.R_below HO.out hW3); have HB3 := Aside0.mk hB3; clear hb hW3 hB3))
      obtain ⟨hy, hz⟩ := RI_cell HO3.out (rd cols (i : Int)).toNat HBC.out
      go_wp2
      go_roundw
      case measure => simp [intOf]; omega
      case rel => exact ⟨i + 1, _, by omega, by go_num, ⟨by simp; omega⟩, HS4, ⟨RI_put HO3.out _ v1⟩, ⟨HB3.out.setCell HBG.out _⟩⟩
    ·
     obtain rfl : i = cols.length := by omega
     have hs := HF.out
     rw [List.drop_of_length_le (Nat.le_refl _), sol_fill] at hs
     cases hs
     have hh := HH2.out
     simp only at hh
     have HPR := Aside0.mk hh
     have HLO2 := HLO.out
     have hO := HO.out
     clear HF HH2 hh hlt hfs HLO HO HBG
     generalize hnn : size.toNat = n at HLO2 hO ⊢
     subst HLO2
     obtain ⟨_, hlc, hCo⟩ := Kd.R_reads' hO
     have HCO := Aside0.mk hCo
     have HLC := Aside0.mk hlc
     clear hCo hlc hO hnn
     go_wp2_with (fail)
     refine (vector_Prim.calls k (some ⟨g1, 0, none⟩) c1 out1 out e _ HCO.out HLC.out HPR.out).mono ?_
     rintro e5 w5 ⟨v5, rfl, hR, hb⟩
     have HR5 := Aside0.mk (Kd.R_lower hR HB.out.size)
     have HB5 := Aside0.mk (below_step HB.out hb)
     clear hR hb
     go_wp2
     go_ret2
     exact ⟨_, rfl, HR5.out, HB5.out⟩
theorem sol_scale.mono (k : Nat) (rows : List (List Int)) (f : Int) : ∀ (cs : List Int) (i : Nat) (s : Int), LeO (sol_scale k rows f cs i s) (sol_scale (k + 1) rows f cs i s)
 | [], _, _ => LeO.refl _
 | c :: cs, i, s => by
  rw [sol_scale, sol_scale]
  exact LeO.ite (LeO.bind (LeO.refl _) (fun g => LeO.ite (LeO.ite (LeO.none _) (LeO.bind (safeint_Lcm.mono _ _ _) (fun q => LeO.ite (sol_scale.mono k rows f cs _ _) (LeO.refl _)))) (LeO.refl _))) (LeO.none _)
theorem table_solution.mono (rows : List (List Int)) (cols : List Int) (f size : Int) (k : Nat) : LeO (table_solution.f k rows cols f size) (table_solution.f (k + 1) rows cols f size) := by
 unfold table_solution.f
 refine LeO.ite (LeO.bind (sol_scale.mono k rows f cols 0 1) (fun s => ?_)) (LeO.none _)
 cases s with
 | none => exact LeO.refl _
 | some s =>
  refine LeO.bind (LeO.refl _) (fun o => ?_)
  cases o with
  | none => exact LeO.refl _
  | some o => exact vector_Prim.mono _ _

end Go.Proofs.Ytckefohfahphpaa.Z
end
section
namespace Go.Proofs.Ytckefohfahphpaa.Z
open Go.RowKit Go.Proofs.YtckefohfahphpaaW.PrintWords Go.Proofs.YtckefohfahphpaaW.PrintLast Go.Proofs.YtckefohfahphpaaW.PrintMore
attribute [local go_sem] max2_int min2_int max_two min_two max_three min_three max_four min_four   -- for this text's walks alone
set_option linter.unusedVariables false
set_option linter.unusedSimpArgs false

/-! ### matrix_Kernel: function 9, by hand -/
def kern_go (k : Nat) (rows : List (List Int)) (cols : List Int) (size : Nat) : Nat → Nat → Nat → List (List Int) → Option (List (List Int) × Int)
 | 0, _, _, out => some (out, 0)
 | d + 1, f, nx, out => if nx < cols.length ∧ rd cols nx = (f : Int) then kern_go k rows cols size d (f + 1) (nx + 1) out else
   (table_solution.f k rows cols f size).bind fun s => if s.2 = 0 then kern_go k rows cols size d (f + 1) nx (out ++ [s.1]) else some ([], s.2)
def matrix_Kernel.f (k : Nat) (a : List (List Int)) : Option (List (List Int) × Int) := (matrix_Valid.f k a).bind fun v => if v = true then (matrix_reduce.f k a).bind fun r => if r.2 = 0 then kern_go k r.1.1 r.1.2 (rd_L1 a 0).length (rd_L1 a 0).length 0 0 [] else some ([], r.2) else some ([], 2)
theorem reduce_guard {k : Nat} {a : List (List Int)} {r : (List (List Int) × List Int) × Int} (h : matrix_reduce.f k a = some r) : 0 < a.length ∧ ∀ r ∈ a, r.length ≤ 1000000 := by
 unfold matrix_reduce.f at h
 split at h
 case isFalse => cases h
 rename_i h0
 exact ⟨h0.1, h0.2.2⟩
set_option maxHeartbeats 2000000 in
set_option maxRecDepth 100000 in
theorem matrix_Kernel.calls (k : Nat) (A0 : Option Addr) (c0 : Nat) (l0 : List (List Int)) (r1 : List (List Int)) (r2 : Int) (w : World) (hr0 : Kd.C (Kd.slice 2 (Kd.int .i64)) w A0 l0.length l0) (hc0 : l0.length ≤ c0) (h : matrix_Kernel.f k l0 = some (r1, r2)) :
  Calls Try.prog 9 #[.slice A0 l0.length c0] w fun e w' => ∃ v0_ : Value, e = .returned (.tuple #[v0_, .int .i64 r2]) ∧ Kd.N (Kd.slice 2 (Kd.int .i64)) 33 w' w.heap.size (fun k_ => (w.heap.size ≤ k_)) v0_ r1 ∧ Below w.heap.size w w' := by
 unfold matrix_Kernel.f at h
 obtain ⟨v, hv, h⟩ := Option.bind_eq_some_iff.mp h
 have HV := Aside0.mk hv
 have HR := Aside0.mk hr0
 have HC := Aside0.mk hc0
 cases v
 ·
  have hE : ([] : List (List Int)) = r1 ∧ (2 : Int) = r2 := by simpa using h
  obtain ⟨rfl, rfl⟩ := hE
  clear hr0 hc0 h hv
  go_enter Try.func9, Try.ntmps9
  go_wp2_with (fail)
  refine (matrix_Valid.calls k _ _ l0 false _ HR.out HC.out HV.out).mono ?_
  rintro e w1 ⟨rfl, hd⟩
  have HD := Aside0.mk hd
  clear hd
  go_wp2
  go_ret2
  exact ⟨_, rfl, Kd.N_nil _ _ _ _ _, HD.out.below⟩
 ·
  simp only [if_true] at h
  obtain ⟨⟨⟨rows, cols⟩, e2⟩, hred, h⟩ := Option.bind_eq_some_iff.mp h
  have HRED := Aside0.mk hred
  obtain ⟨hpos, hbnd⟩ := reduce_guard hred
  have hlb : (rd_L1 l0 0).length ≤ 1000000 := hbnd _ (rd_L1_mem (i := 0) hpos)
  by_cases he : e2 = 0
  ·
   subst he
   simp only [if_true] at h
   have HGO := Aside0.mk h
   obtain ⟨ad0, A1, c1, ead, hx0, hl0, hin0⟩ := at_L1 hr0 0 (by omega) (by omega)
   cases ead
   rw [show ((0 : Int)).toNat = 0 from rfl, Addr.add_zero'] at hx0
   have HX0 := Aside0.mk hx0
   have hlen0 : (0 : Int) < (l0.length : Int) := by omega
   have hz0 : (0 : Int) ≤ 0 := Int.le_refl _
   clear hr0 hc0 h hv hred hx0 hl0 hin0 hbnd
   go_enter Try.func9, Try.ntmps9
   go_wp2_with (fail)
   refine (matrix_Valid.calls k _ _ l0 true _ HR.out HC.out HV.out).mono ?_
   rintro e w1 ⟨rfl, hd⟩
   have HD := Aside0.mk hd.below
   clear hd
   go_wp2_with (fail)
   refine (matrix_reduce.calls k _ _ l0 rows cols 0 _ (Kd.C_below HR.out HD.out) HC.out HRED.out).mono ?_
   rintro e3 w3 ⟨p, rfl, hB, hz⟩
   obtain ⟨cv, rv, rfl, hT⟩ := hz rfl
   have HB := Aside0.mk (below_step HD.out hB)
   have HT := Aside0.mk hT
   obtain ⟨Ac, cc, rfl⟩ := Kd.R_slice hT.col
   have hx3 := (HB.out.cell (World.block_lt_of_cell? _ _ HX0.out)).trans HX0.out
   have HX3 := Aside0.mk hx3
   obtain ⟨_, _, hCc⟩ := Kd.R_reads' hT.col
   have HCC := Aside0.mk hCc
   clear hB hz hT hCc
   go_wp2
   go_loopw [6, 7, 26] (fun s6 s7 s26 W => ∃ (f nx : Nat) (out : List (List Int)) (A : Option Addr) (cp : Nat), f ≤ (rd_L1 l0 0).length ∧ nx ≤ f ∧ s6 = .slice A out.length cp ∧ s7 = .int .i64 (nx : Int) ∧ s26 = .int .i64 (f : Int) ∧ Aside0 (out.length ≤ f) ∧ Aside0 (kern_go k rows cols (rd_L1 l0 0).length ((rd_L1 l0 0).length - f) f nx out = some (r1, r2)) ∧ Aside0 (Kd.R (Kd.slice 2 (Kd.int .i64)) 33 W w3.heap.size (fun _ => True) (.slice A out.length cp) out) ∧ Aside0 (Below w3.heap.size w3 W)) (fun s6 s7 s26 _ => (rd_L1 l0 0).length - (intOf s26).toNat)
   case atStart => exact ⟨0, 0, [], none, 0, Nat.zero_le _, Nat.le_refl _, rfl, rfl, rfl, ⟨Nat.le_refl _⟩, HGO, ⟨Kd.R_nil _ _ _ _ _⟩, ⟨Below.refl _ _⟩⟩
   case round =>
    obtain ⟨f, nx, out, A, cp, hf, hnx, rfl, rfl, rfl, HLO, HK, HO, HBW⟩ := hrel
    clear hx3
    by_cases hlt : f < (rd_L1 l0 0).length
    ·
     have hlt1 : (f : Int) < ((rd_L1 l0 0).length : Int) := by omega
     have hd1 : decide ((f : Int) < ((rd_L1 l0 0).length : Int)) = true := decide_eq_true hlt1
     have hk := HK.out
     rw [show (rd_L1 l0 0).length - f = ((rd_L1 l0 0).length - (f + 1)) + 1 by omega, kern_go] at hk
     have HTW := Aside0.mk (HT.out.below HBW.out)
     have hc0 := HTW.out.c0
     have hx3 := (HBW.out.cell (World.block_lt_of_cell? _ _ HX3.out)).trans HX3.out
     by_cases hn : nx < cols.length
     ·
      have hn1 : (nx : Int) < (cols.length : Int) := by omega
      have hdn : decide ((nx : Int) < (cols.length : Int)) = true := decide_eq_true hn1
      obtain ⟨ac, eac, hxc⟩ := Kd.at_int HCC.out (nx : Int) (by omega) hn1
      cases eac
      rw [Int.toNat_natCast] at hxc
      replace hxc := (HBW.out.cell (World.block_lt_of_cell? _ _ hxc)).trans hxc
      by_cases hm : rd cols (nx : Int) = (f : Int)
      ·
       rw [if_pos ⟨hn, hm⟩] at hk
       have HK2 := Aside0.mk hk
       have hm1 : (rd cols (nx : Int) == (f : Int)) = true := beq_iff_eq.mpr hm
       clear hk HK hm
       go_wp2_with (fail)
       refine (pivots_rank.calls _ _ cols.length cc _ hc0).mono ?_
       rintro e5 w5 ⟨rfl, hw⟩
       have hw := hw.symm
       subst hw
       go_wp2
       go_roundw
       case measure => simp [intOf]; omega
       case rel => exact ⟨f + 1, nx + 1, out, A, cp, by omega, by omega, rfl, by go_num, by go_num, ⟨by have := HLO.out; omega⟩, HK2, HO, HBW⟩
      ·
       rw [if_neg (fun h => hm h.2)] at hk
       have hm1 : (rd cols (nx : Int) == (f : Int)) = false := beq_eq_false_iff_ne.mpr hm
       clear hm
       obtain ⟨⟨s1, s2⟩, hsol, hk⟩ := Option.bind_eq_some_iff.mp hk
       have HSOL := Aside0.mk hsol
       have HK2 := Aside0.mk hk
       clear hk HK hsol
       go_wp2_with (fail)
       refine (pivots_rank.calls _ _ cols.length cc _ hc0).mono ?_
       rintro e5 w5 ⟨rfl, hw⟩
       have hw := hw.symm
       subst hw
       go_wp2_with (fail)
       refine (table_solution.calls k (f : Int) ((rd_L1 l0 0).length : Int) _ _ cols rows _ _ s1 s2 _ HTW.out HSOL.out).mono ?_
       rintro e7 w7 ⟨v7, rfl, hR7, hb7⟩
       obtain ⟨A7, c7, rfl⟩ := Kd.R_slice hR7
       have HO7 := Aside0.mk (Kd.R_below HO.out hb7)
       have HR7 := Aside0.mk (Kd.R_lower hR7 HBW.out.size)
       have HB7 := Aside0.mk (below_step HBW.out hb7)
       clear hR7 hb7 hc0 hx3 hxc
       by_cases hs2 : s2 = 0
       ·
        subst hs2
        have HK3 : Aside0 (kern_go k rows cols (rd_L1 l0 0).length ((rd_L1 l0 0).length - (f + 1)) (f + 1) nx (out ++ [s1]) = some (r1, r2)) := ⟨by simpa using HK2.out⟩
        have hlo := HLO.out
        go_wp2_with (first | ((with_reducible refine gate_builtin (b := .append) (xs := #[.tmp 62, .tmp 64]) rfl ?_); at_builtin; refine Kd.R_append (Kd.slice 2 (Kd.int .i64)) (w0 := w3) w3.heap.size rfl (.tmp 62) (.tmp 64) 22 33 (.slice none 0 0) 24 rfl Try.underlying22 tinfo33 rfl (by decide) (by omega) (.slice A out.length cp) out s1 [.slice A7 s1.length c7] (fun _ => True) (fun k => True ∧ some k ≠ (Value.slice A out.length cp).ownBlock) rfl rfl ?aP (fun _ hk => hk) ?aF ?aO ?aB ?aS ?aL ?_; (case aP => exact ⟨_, rfl, Kd.R_apart' HR7.out (Kd.R_typed HO7.out) (by intro q hq; simp [Kd.int, Kd.scalar] at hq; omega)⟩); (case aB => exact HB7.out); (case aF => exact (fun _ _ => trivial)); (case aO => exact HO7.out); (case aS => exact HB7.out.size); (case aL => omega); intro v8 w8 ho hb hg hat; obtain ⟨A8, c8, rfl⟩ := Kd.R_slice ho; have HO8 := Aside0.mk ho; have HB8 := Aside0.mk hb; clear ho hb hg hat))
        go_roundw
        case measure => simp [intOf]; omega
        case rel =>
         have ho8 := HO8.out
         have hl8 : (out ++ [s1]).length = out.length + 1 := by simp
         exact ⟨f + 1, nx, out ++ [s1], A8, c8, by omega, by omega, by rw [hl8], rfl, by go_num, ⟨by rw [hl8]; omega⟩, HK3, HO8, HB8⟩
       ·
        have hk := HK2.out
        rw [if_neg hs2] at hk
        have hs3 : (s2 == 0) = false := beq_eq_false_iff_ne.mpr hs2
        have hs4 : (s2 != 0) = true := bne_iff_ne.mpr hs2
        cases hk
        go_wp2
        go_ret2
        exact ⟨_, rfl, Kd.N_nil _ _ _ _ _, HB.out.trans (HB7.out.mono HB.out.size)⟩
     ·
      rw [if_neg (fun h => hn h.1)] at hk
      have hdn : decide ((nx : Int) < (cols.length : Int)) = false := decide_eq_false (by omega)
      have hdn2 : decide (nx < cols.length) = false := decide_eq_false hn
      have hdn3 : ¬ ((nx : Int) < (cols.length : Int)) := by omega
      have hdn4 : (cols.length : Int) ≤ (nx : Int) := by omega
      obtain ⟨⟨s1, s2⟩, hsol, hk⟩ := Option.bind_eq_some_iff.mp hk
      have HSOL := Aside0.mk hsol
      have HK2 := Aside0.mk hk
      clear hk HK hsol
      go_wp2_with (fail)
      refine (pivots_rank.calls _ _ cols.length cc _ hc0).mono ?_
      rintro e5 w5 ⟨rfl, hw⟩
      have hw := hw.symm
      subst hw
      go_wp2_with (fail)
      refine (table_solution.calls k (f : Int) ((rd_L1 l0 0).length : Int) _ _ cols rows _ _ s1 s2 _ HTW.out HSOL.out).mono ?_
      rintro e7 w7 ⟨v7, rfl, hR7, hb7⟩
      obtain ⟨A7, c7, rfl⟩ := Kd.R_slice hR7
      have HO7 := Aside0.mk (Kd.R_below HO.out hb7)
      have HR7 := Aside0.mk (Kd.R_lower hR7 HBW.out.size)
      have HB7 := Aside0.mk (below_step HBW.out hb7)
      clear hR7 hb7 hc0 hx3
      by_cases hs2 : s2 = 0
      ·
       subst hs2
       have HK3 : Aside0 (kern_go k rows cols (rd_L1 l0 0).length ((rd_L1 l0 0).length - (f + 1)) (f + 1) nx (out ++ [s1]) = some (r1, r2)) := ⟨by simpa using HK2.out⟩
       have hlo := HLO.out
       go_wp2_with (first | ((with_reducible refine gate_builtin (b := .append) (xs := #[.tmp 62, .tmp 64]) rfl ?_); at_builtin; refine Kd.R_append (Kd.slice 2 (Kd.int .i64)) (w0 := w3) w3.heap.size rfl (.tmp 62) (.tmp 64) 22 33 (.slice none 0 0) 24 rfl Try.underlying22 tinfo33 rfl (by decide) (by omega) (.slice A out.length cp) out s1 [.slice A7 s1.length c7] (fun _ => True) (fun k => True ∧ some k ≠ (Value.slice A out.length cp).ownBlock) rfl rfl ?aP (fun _ hk => hk) ?aF ?aO ?aB ?aS ?aL ?_; (case aP => exact ⟨_, rfl, Kd.R_apart' HR7.out (Kd.R_typed HO7.out) (by intro q hq; simp [Kd.int, Kd.scalar] at hq; omega)⟩); (case aB => exact HB7.out); (case aF => exact (fun _ _ => trivial)); (case aO => exact HO7.out); (case aS => exact HB7.out.size); (case aL => omega); intro v8 w8 ho hb hg hat; obtain ⟨A8, c8, rfl⟩ := Kd.R_slice ho; have HO8 := Aside0.mk ho; have HB8 := Aside0.mk hb; clear ho hb hg hat))
       go_roundw
       case measure => simp [intOf]; omega
       case rel =>
        have ho8 := HO8.out
        have hl8 : (out ++ [s1]).length = out.length + 1 := by simp
        exact ⟨f + 1, nx, out ++ [s1], A8, c8, by omega, by omega, by rw [hl8], rfl, by go_num, ⟨by rw [hl8]; omega⟩, HK3, HO8, HB8⟩
      ·
       have hk := HK2.out
       rw [if_neg hs2] at hk
       have hs3 : (s2 == 0) = false := beq_eq_false_iff_ne.mpr hs2
       have hs4 : (s2 != 0) = true := bne_iff_ne.mpr hs2
       cases hk
       go_wp2
       go_ret2
       exact ⟨_, rfl, Kd.N_nil _ _ _ _ _, HB.out.trans (HB7.out.mono HB.out.size)⟩
    ·
     obtain rfl : f = (rd_L1 l0 0).length := by omega
     have hk := HK.out
     rw [Nat.sub_self, kern_go] at hk
     cases hk
     clear HK hlt
     go_wp2
     go_ret2
     exact ⟨_, rfl, Kd.R_N (Kd.R_mono (Kd.R_lower (Kd.R_bound HO.out) HB.out.size) (fun k hk => Nat.le_trans HB.out.size hk.2.1)), HB.out.trans (HBW.out.mono HB.out.size)⟩
  ·
   rw [if_neg he] at h
   obtain ⟨rfl, rfl⟩ : ([] : List (List Int)) = r1 ∧ e2 = r2 := by simpa using h
   have he3 : (e2 == 0) = false := beq_eq_false_iff_ne.mpr he
   have he4 : (e2 != 0) = true := bne_iff_ne.mpr he
   clear hr0 hc0 h hv hred hbnd
   go_enter Try.func9, Try.ntmps9
   go_wp2_with (fail)
   refine (matrix_Valid.calls k _ _ l0 true _ HR.out HC.out HV.out).mono ?_
   rintro e w1 ⟨rfl, hd⟩
   have HD := Aside0.mk hd.below
   clear hd
   go_wp2_with (fail)
   refine (matrix_reduce.calls k _ _ l0 _ _ e2 _ (Kd.C_below HR.out HD.out) HC.out HRED.out).mono ?_
   rintro e3 w3 ⟨p, rfl, hB, hz⟩
   have HB := Aside0.mk (below_step HD.out hB)
   clear hB hz
   go_wp2
   go_ret2
   exact ⟨_, rfl, Kd.N_nil _ _ _ _ _, HB.out⟩
theorem kern_go.mono (k : Nat) (rows : List (List Int)) (cols : List Int) (size : Nat) : ∀ (d f nx : Nat) (out : List (List Int)), LeO (kern_go k rows cols size d f nx out) (kern_go (k + 1) rows cols size d f nx out)
 | 0, _, _, _ => LeO.refl _
 | d + 1, f, nx, out => by
  rw [kern_go, kern_go]
  exact LeO.ite (kern_go.mono k rows cols size d _ _ _) (LeO.bind (table_solution.mono _ _ _ _ _) (fun s => LeO.ite (kern_go.mono k rows cols size d _ _ _) (LeO.refl _)))
theorem matrix_Kernel.mono (a : List (List Int)) (k : Nat) : LeO (matrix_Kernel.f k a) (matrix_Kernel.f (k + 1) a) := by
 unfold matrix_Kernel.f
 exact LeO.bind (matrix_Valid.mono _ _) (fun _ => LeO.ite (LeO.bind (matrix_reduce.mono _ _) (fun _ => LeO.ite (kern_go.mono k _ _ _ _ _ _ _) (LeO.refl _))) (LeO.refl _))

end Go.Proofs.Ytckefohfahphpaa.Z
end
section
namespace Go.Proofs.Ytckefohfahphpaa.Z
open Go.RowKit Go.Proofs.YtckefohfahphpaaW.PrintWords Go.Proofs.YtckefohfahphpaaW.PrintLast Go.Proofs.YtckefohfahphpaaW.PrintMore
attribute [local go_sem] max2_int min2_int max_two min_two max_three min_three max_four min_four   -- for this text's walks alone
set_option linter.unusedVariables false
set_option linter.unusedSimpArgs false

/-! ### matrix_Echelon: function 15, by hand -/
def matrix_Echelon.f (k : Nat) (a : List (List Int)) : Option (List (List Int) × Int) := (matrix_Valid.f k a).bind fun v => if v = true then (matrix_reduce.f k a).bind fun r => some (r.1.1, r.2) else some ([], 2)
theorem matrix_Echelon.mono (a : List (List Int)) (k : Nat) : LeO (matrix_Echelon.f k a) (matrix_Echelon.f (k + 1) a) := by
 unfold matrix_Echelon.f
 exact LeO.bind (matrix_Valid.mono _ _) (fun _ => LeO.ite (LeO.bind (matrix_reduce.mono _ _) (fun _ => LeO.refl _)) (LeO.refl _))
set_option maxHeartbeats 8000000 in
set_option maxRecDepth 100000 in
theorem matrix_Echelon.calls (k : Nat) (A0 : Option Addr) (c0 : Nat) (l0 : List (List Int)) (r1 : List (List Int)) (r2 : Int) (w : World) (hr0 : Kd.C (Kd.slice 2 (Kd.int .i64)) w A0 l0.length l0) (hc0 : l0.length ≤ c0) (h : matrix_Echelon.f k l0 = some (r1, r2)) :
  Calls Try.prog 15 #[.slice A0 l0.length c0] w fun e w' => ∃ v0_ : Value, e = .returned (.tuple #[v0_, .int .i64 r2]) ∧ Kd.N (Kd.slice 2 (Kd.int .i64)) 33 w' w.heap.size (fun k_ => (w.heap.size ≤ k_)) v0_ r1 ∧ Below w.heap.size w w' := by
 unfold matrix_Echelon.f at h
 obtain ⟨v, hv, h⟩ := Option.bind_eq_some_iff.mp h
 have HV := Aside0.mk hv
 have HR := Aside0.mk hr0
 have HC := Aside0.mk hc0
 cases v
 ·
  have hE : ([] : List (List Int)) = r1 ∧ (2 : Int) = r2 := by simpa using h
  obtain ⟨rfl, rfl⟩ := hE
  clear hr0 hc0 h hv
  go_enter Try.func15, Try.ntmps15
  go_wp2_with (fail)
  refine (matrix_Valid.calls k _ _ l0 false _ HR.out HC.out HV.out).mono ?_
  rintro e w1 ⟨rfl, hd⟩
  have HD := Aside0.mk hd
  clear hd
  go_wp2
  go_ret2
  exact ⟨_, rfl, Kd.N_nil _ _ _ _ _, HD.out.below⟩
 ·
  simp only [if_true] at h
  obtain ⟨⟨⟨rows, cols⟩, e2⟩, hred, h⟩ := Option.bind_eq_some_iff.mp h
  obtain ⟨rfl, rfl⟩ : rows = r1 ∧ e2 = r2 := by simpa using h
  clear h
  have HRED := Aside0.mk hred
  clear hr0 hc0 hv hred
  by_cases he : e2 = 0
  ·
   subst he
   go_enter Try.func15, Try.ntmps15
   go_wp2_with (fail)
   refine (matrix_Valid.calls k _ _ l0 true _ HR.out HC.out HV.out).mono ?_
   rintro e w1 ⟨rfl, hd⟩
   have HD := Aside0.mk hd.below
   clear hd
   go_wp2_with (fail)
   refine (matrix_reduce.calls k _ _ l0 rows cols 0 _ (Kd.C_below HR.out HD.out) HC.out HRED.out).mono ?_
   rintro e3 w3 ⟨p, rfl, hB, hz⟩
   obtain ⟨cv, rv, rfl, hT⟩ := hz rfl
   have HB := Aside0.mk (below_step HD.out hB)
   have HT := Aside0.mk hT
   have hc1 := hT.c1
   obtain ⟨Ar, cr, rfl⟩ := Kd.R_slice hT.row
   have HLE := Aside0.mk HD.out.size
   clear hB hz hT
   go_wp2
   go_ret2
   refine ⟨_, rfl, Kd.R_N (Kd.R_mono (Kd.R_lower (Kd.R_bound HT.out.row) HLE.out) (fun k hk => Nat.le_trans HLE.out hk.2.1)), HB.out⟩
  ·
   obtain ⟨rfl, rfl⟩ := reduce_bad HRED.out he
   have he3 : (e2 == 0) = false := beq_eq_false_iff_ne.mpr he
   have he4 : (e2 != 0) = true := bne_iff_ne.mpr he
   go_enter Try.func15, Try.ntmps15
   go_wp2_with (fail)
   refine (matrix_Valid.calls k _ _ l0 true _ HR.out HC.out HV.out).mono ?_
   rintro e w1 ⟨rfl, hd⟩
   have HD := Aside0.mk hd.below
   clear hd
   go_wp2_with (fail)
   refine (matrix_reduce.calls k _ _ l0 _ _ e2 _ (Kd.C_below HR.out HD.out) HC.out HRED.out).mono ?_
   rintro e3 w3 ⟨p, rfl, hB, hz⟩
   have HB := Aside0.mk (below_step HD.out hB)
   clear hB hz
   go_wp2
   go_ret2
   exact ⟨_, rfl, Kd.N_nil _ _ _ _ _, HB.out⟩

end Go.Proofs.Ytckefohfahphpaa.Z
end
section
namespace Go.Proofs.Ytckefohfahphpaa.Z
open Go.RowKit Go.Proofs.YtckefohfahphpaaW.PrintWords Go.Proofs.YtckefohfahphpaaW.PrintLast Go.Proofs.YtckefohfahphpaaW.PrintMore
attribute [local go_sem] max2_int min2_int max_two min_two max_three min_three max_four min_four   -- for this text's walks alone
set_option linter.unusedVariables false
set_option linter.unusedSimpArgs false

/-! ### petrinetlaw08_exampleHolds: function 11 -/
def petrinetlaw08_exampleHolds.f (k : Nat)  : Option (Bool) := (matrix_Echelon.f k (([(([2, 4] : List Int)), (([1, 3] : List Int))] : List (List Int)))).bind fun bt155 => ((matrix_Kernel.f k (([(([1, (-1), 0] : List Int))] : List (List Int)))).bind fun bt165 => (if bt155.2 = 0 then (if bt165.2 = 0 then ((petrinetref08_Same.f k bt155.1 (([(([1, 0] : List Int)), (([0, 1] : List Int))] : List (List Int)))).bind fun t178 => (if t178 = true then ((petrinetref08_Same.f k bt165.1 (([(([1, 1, 0] : List Int)), (([0, 0, 1] : List Int))] : List (List Int)))).bind fun t188 => (some t188)) else (none))) else (none)) else (none)))
theorem petrinetlaw08_exampleHolds.mono : ∀ k, LeO (petrinetlaw08_exampleHolds.f k ) (petrinetlaw08_exampleHolds.f (k + 1) ) := by
 intro  k
 unfold petrinetlaw08_exampleHolds.f
 repeat' first
   | (with_reducible exact matrix_Echelon.mono _ _)
   | (with_reducible exact matrix_Kernel.mono _ _)
   | (with_reducible exact petrinetref08_Same.mono _ _ _)
   | (with_reducible exact LeO.refl _)
   | (with_reducible exact LeO.none _)
   | (with_reducible refine LeO.ite ?_ ?_)
   | (with_reducible refine LeO.bind ?_ (fun _ => ?_))
   | exact matrix_Echelon.mono _ _
   | exact matrix_Kernel.mono _ _
   | exact petrinetref08_Same.mono _ _ _
   | exact LeO.none _
   | refine LeO.ite ?_ ?_
   | refine LeO.bind ?_ (fun _ => ?_)
set_option maxHeartbeats 8000000 in
set_option maxRecDepth 100000 in
theorem petrinetlaw08_exampleHolds.calls (k : Nat)  (r : Bool) (w : World) (h : petrinetlaw08_exampleHolds.f k  = some r) :
  Calls Try.prog 11 #[] w fun e w' => e = .returned (.bool r) ∧ Below w.heap.size w w' := by
 have HB := Aside0.mk (Below.refl w.heap.size w)
 have H : ((matrix_Echelon.f k (([(([2, 4] : List Int)), (([1, 3] : List Int))] : List (List Int)))).bind fun bt155 => ((matrix_Kernel.f k (([(([1, (-1), 0] : List Int))] : List (List Int)))).bind fun bt165 => (if bt155.2 = 0 then (if bt165.2 = 0 then ((petrinetref08_Same.f k bt155.1 (([(([1, 0] : List Int)), (([0, 1] : List Int))] : List (List Int)))).bind fun t178 => (if t178 = true then ((petrinetref08_Same.f k bt165.1 (([(([1, 1, 0] : List Int)), (([0, 0, 1] : List Int))] : List (List Int)))).bind fun t188 => (some t188)) else (none))) else (none)) else (none)))) = some r := h
 clear h
 obtain ⟨y146, hy146⟩ : ∃ y_ : List Int, y_ = (([2, 4] : List Int)) := ⟨_, rfl⟩
 replace H : ((matrix_Echelon.f k (([y146, (([1, 3] : List Int))] : List (List Int)))).bind fun bt155 => ((matrix_Kernel.f k (([(([1, (-1), 0] : List Int))] : List (List Int)))).bind fun bt165 => (if bt155.2 = 0 then (if bt165.2 = 0 then ((petrinetref08_Same.f k bt155.1 (([(([1, 0] : List Int)), (([0, 1] : List Int))] : List (List Int)))).bind fun t178 => (if t178 = true then ((petrinetref08_Same.f k bt165.1 (([(([1, 1, 0] : List Int)), (([0, 0, 1] : List Int))] : List (List Int)))).bind fun t188 => (some t188)) else (none))) else (none)) else (none)))) = some r := by first | (rw [hy146]; with_reducible exact H) | (have H2_ := (Option.bind_some _ _).symm.trans H; rw [hy146]; with_reducible exact H2_) | (have H2_ := (Option.bind_some _ _).symm.trans H; with_reducible exact H2_) | with_reducible exact H | (rw [hy146]; exact H) | exact H
 have Ny146 := Aside0.mk hy146
 clear hy146
 obtain ⟨y149, hy149⟩ : ∃ y_ : List Int, y_ = (([1, 3] : List Int)) := ⟨_, rfl⟩
 replace H : ((matrix_Echelon.f k (([y146, y149] : List (List Int)))).bind fun bt155 => ((matrix_Kernel.f k (([(([1, (-1), 0] : List Int))] : List (List Int)))).bind fun bt165 => (if bt155.2 = 0 then (if bt165.2 = 0 then ((petrinetref08_Same.f k bt155.1 (([(([1, 0] : List Int)), (([0, 1] : List Int))] : List (List Int)))).bind fun t178 => (if t178 = true then ((petrinetref08_Same.f k bt165.1 (([(([1, 1, 0] : List Int)), (([0, 0, 1] : List Int))] : List (List Int)))).bind fun t188 => (some t188)) else (none))) else (none)) else (none)))) = some r := by first | (rw [hy149]; with_reducible exact H) | (have H2_ := (Option.bind_some _ _).symm.trans H; rw [hy149]; with_reducible exact H2_) | (have H2_ := (Option.bind_some _ _).symm.trans H; with_reducible exact H2_) | with_reducible exact H | (rw [hy149]; exact H) | exact H
 have Ny149 := Aside0.mk hy149
 clear hy149
 obtain ⟨y152, hy152⟩ : ∃ y_ : List (List Int), y_ = (([y146, y149] : List (List Int))) := ⟨_, rfl⟩
 replace H : ((matrix_Echelon.f k y152).bind fun bt155 => ((matrix_Kernel.f k (([(([1, (-1), 0] : List Int))] : List (List Int)))).bind fun bt165 => (if bt155.2 = 0 then (if bt165.2 = 0 then ((petrinetref08_Same.f k bt155.1 (([(([1, 0] : List Int)), (([0, 1] : List Int))] : List (List Int)))).bind fun t178 => (if t178 = true then ((petrinetref08_Same.f k bt165.1 (([(([1, 1, 0] : List Int)), (([0, 0, 1] : List Int))] : List (List Int)))).bind fun t188 => (some t188)) else (none))) else (none)) else (none)))) = some r := by first | (rw [hy152]; with_reducible exact H) | (have H2_ := (Option.bind_some _ _).symm.trans H; rw [hy152]; with_reducible exact H2_) | (have H2_ := (Option.bind_some _ _).symm.trans H; with_reducible exact H2_) | with_reducible exact H | (rw [hy152]; exact H) | exact H
 have Ny152 := Aside0.mk hy152
 clear hy152
 replace H := Option.bind_eq_some_iff.mp H
 obtain ⟨⟨t155, t158⟩, A10, H⟩ := H
 replace H : ((matrix_Kernel.f k (([(([1, (-1), 0] : List Int))] : List (List Int)))).bind fun bt165 => (if t158 = 0 then (if bt165.2 = 0 then ((petrinetref08_Same.f k t155 (([(([1, 0] : List Int)), (([0, 1] : List Int))] : List (List Int)))).bind fun t178 => (if t178 = true then ((petrinetref08_Same.f k bt165.1 (([(([1, 1, 0] : List Int)), (([0, 0, 1] : List Int))] : List (List Int)))).bind fun t188 => (some t188)) else (none))) else (none)) else (none))) = some r := H
 have A1 := Aside0.mk A10
 clear A10
 obtain ⟨y159, hy159⟩ : ∃ y_ : List Int, y_ = (([1, (-1), 0] : List Int)) := ⟨_, rfl⟩
 replace H : ((matrix_Kernel.f k (([y159] : List (List Int)))).bind fun bt165 => (if t158 = 0 then (if bt165.2 = 0 then ((petrinetref08_Same.f k t155 (([(([1, 0] : List Int)), (([0, 1] : List Int))] : List (List Int)))).bind fun t178 => (if t178 = true then ((petrinetref08_Same.f k bt165.1 (([(([1, 1, 0] : List Int)), (([0, 0, 1] : List Int))] : List (List Int)))).bind fun t188 => (some t188)) else (none))) else (none)) else (none))) = some r := by first | (rw [hy159]; with_reducible exact H) | (have H2_ := (Option.bind_some _ _).symm.trans H; rw [hy159]; with_reducible exact H2_) | (have H2_ := (Option.bind_some _ _).symm.trans H; with_reducible exact H2_) | with_reducible exact H | (rw [hy159]; exact H) | exact H
 have Ny159 := Aside0.mk hy159
 clear hy159
 obtain ⟨y162, hy162⟩ : ∃ y_ : List (List Int), y_ = (([y159] : List (List Int))) := ⟨_, rfl⟩
 replace H : ((matrix_Kernel.f k y162).bind fun bt165 => (if t158 = 0 then (if bt165.2 = 0 then ((petrinetref08_Same.f k t155 (([(([1, 0] : List Int)), (([0, 1] : List Int))] : List (List Int)))).bind fun t178 => (if t178 = true then ((petrinetref08_Same.f k bt165.1 (([(([1, 1, 0] : List Int)), (([0, 0, 1] : List Int))] : List (List Int)))).bind fun t188 => (some t188)) else (none))) else (none)) else (none))) = some r := by first | (rw [hy162]; with_reducible exact H) | (have H2_ := (Option.bind_some _ _).symm.trans H; rw [hy162]; with_reducible exact H2_) | (have H2_ := (Option.bind_some _ _).symm.trans H; with_reducible exact H2_) | with_reducible exact H | (rw [hy162]; exact H) | exact H
 have Ny162 := Aside0.mk hy162
 clear hy162
 replace H := Option.bind_eq_some_iff.mp H
 obtain ⟨⟨t165, t168⟩, A20, H⟩ := H
 replace H : (if t158 = 0 then (if t168 = 0 then ((petrinetref08_Same.f k t155 (([(([1, 0] : List Int)), (([0, 1] : List Int))] : List (List Int)))).bind fun t178 => (if t178 = true then ((petrinetref08_Same.f k t165 (([(([1, 1, 0] : List Int)), (([0, 0, 1] : List Int))] : List (List Int)))).bind fun t188 => (some t188)) else (none))) else (none)) else (none)) = some r := H
 have A2 := Aside0.mk A20
 clear A20
 by_cases c3 : t158 = 0
 ·
  rw [if_pos c3] at H; have c3b0 : (t158 == 0) = true := beq_iff_eq.mpr c3; have c3b1 : (t158 != 0) = false := bne_eq_false_iff_eq.mpr c3; clear c3; by_cases c4 : t168 = 0
  ·
   rw [if_pos c4] at H; have c4b0 : (t168 == 0) = true := beq_iff_eq.mpr c4; have c4b1 : (t168 != 0) = false := bne_eq_false_iff_eq.mpr c4; clear c4; obtain ⟨y169, hy169⟩ : ∃ y_ : List Int, y_ = (([1, 0] : List Int)) := ⟨_, rfl⟩; (replace H : ((petrinetref08_Same.f k t155 (([y169, (([0, 1] : List Int))] : List (List Int)))).bind fun t178 => (if t178 = true then ((petrinetref08_Same.f k t165 (([(([1, 1, 0] : List Int)), (([0, 0, 1] : List Int))] : List (List Int)))).bind fun t188 => (some t188)) else (none))) = some r := by first | (rw [hy169]; with_reducible exact H) | (have H2_ := (Option.bind_some _ _).symm.trans H; rw [hy169]; with_reducible exact H2_) | (have H2_ := (Option.bind_some _ _).symm.trans H; with_reducible exact H2_) | with_reducible exact H | (rw [hy169]; exact H) | exact H); have Ny169 := Aside0.mk hy169; clear hy169; obtain ⟨y172, hy172⟩ : ∃ y_ : List Int, y_ = (([0, 1] : List Int)) := ⟨_, rfl⟩; (replace H : ((petrinetref08_Same.f k t155 (([y169, y172] : List (List Int)))).bind fun t178 => (if t178 = true then ((petrinetref08_Same.f k t165 (([(([1, 1, 0] : List Int)), (([0, 0, 1] : List Int))] : List (List Int)))).bind fun t188 => (some t188)) else (none))) = some r := by first | (rw [hy172]; with_reducible exact H) | (have H2_ := (Option.bind_some _ _).symm.trans H; rw [hy172]; with_reducible exact H2_) | (have H2_ := (Option.bind_some _ _).symm.trans H; with_reducible exact H2_) | with_reducible exact H | (rw [hy172]; exact H) | exact H); have Ny172 := Aside0.mk hy172; clear hy172; obtain ⟨y175, hy175⟩ : ∃ y_ : List (List Int), y_ = (([y169, y172] : List (List Int))) := ⟨_, rfl⟩; (replace H : ((petrinetref08_Same.f k t155 y175).bind fun t178 => (if t178 = true then ((petrinetref08_Same.f k t165 (([(([1, 1, 0] : List Int)), (([0, 0, 1] : List Int))] : List (List Int)))).bind fun t188 => (some t188)) else (none))) = some r := by first | (rw [hy175]; with_reducible exact H) | (have H2_ := (Option.bind_some _ _).symm.trans H; rw [hy175]; with_reducible exact H2_) | (have H2_ := (Option.bind_some _ _).symm.trans H; with_reducible exact H2_) | with_reducible exact H | (rw [hy175]; exact H) | exact H); have Ny175 := Aside0.mk hy175; clear hy175; replace H := Option.bind_eq_some_iff.mp H; obtain ⟨t178, A50, H⟩ := H; (replace H : (if t178 = true then ((petrinetref08_Same.f k t165 (([(([1, 1, 0] : List Int)), (([0, 0, 1] : List Int))] : List (List Int)))).bind fun t188 => (some t188)) else (none)) = some r := H); have A5 := Aside0.mk A50; clear A50; by_cases c6 : t178 = true
   ·
    subst c6; (have H1 : ((petrinetref08_Same.f k t165 (([(([1, 1, 0] : List Int)), (([0, 0, 1] : List Int))] : List (List Int)))).bind fun t188 => (some t188)) = some r := by rw [if_pos rfl] at H; exact H); clear H; have H := H1; clear H1; obtain ⟨y179, hy179⟩ : ∃ y_ : List Int, y_ = (([1, 1, 0] : List Int)) := ⟨_, rfl⟩; (replace H : ((petrinetref08_Same.f k t165 (([y179, (([0, 0, 1] : List Int))] : List (List Int)))).bind fun t188 => (some t188)) = some r := by first | (rw [hy179]; with_reducible exact H) | (have H2_ := (Option.bind_some _ _).symm.trans H; rw [hy179]; with_reducible exact H2_) | (have H2_ := (Option.bind_some _ _).symm.trans H; with_reducible exact H2_) | with_reducible exact H | (rw [hy179]; exact H) | exact H); have Ny179 := Aside0.mk hy179; clear hy179; obtain ⟨y182, hy182⟩ : ∃ y_ : List Int, y_ = (([0, 0, 1] : List Int)) := ⟨_, rfl⟩; (replace H : ((petrinetref08_Same.f k t165 (([y179, y182] : List (List Int)))).bind fun t188 => (some t188)) = some r := by first | (rw [hy182]; with_reducible exact H) | (have H2_ := (Option.bind_some _ _).symm.trans H; rw [hy182]; with_reducible exact H2_) | (have H2_ := (Option.bind_some _ _).symm.trans H; with_reducible exact H2_) | with_reducible exact H | (rw [hy182]; exact H) | exact H); have Ny182 := Aside0.mk hy182; clear hy182; obtain ⟨y185, hy185⟩ : ∃ y_ : List (List Int), y_ = (([y179, y182] : List (List Int))) := ⟨_, rfl⟩; (replace H : ((petrinetref08_Same.f k t165 y185).bind fun t188 => (some t188)) = some r := by first | (rw [hy185]; with_reducible exact H) | (have H2_ := (Option.bind_some _ _).symm.trans H; rw [hy185]; with_reducible exact H2_) | (have H2_ := (Option.bind_some _ _).symm.trans H; with_reducible exact H2_) | with_reducible exact H | (rw [hy185]; exact H) | exact H); have Ny185 := Aside0.mk hy185; clear hy185; replace H := Option.bind_eq_some_iff.mp H; obtain ⟨t188, A70, H⟩ := H; replace H : (some t188) = some r := H; have A7 := Aside0.mk A70; clear A70; obtain rfl := Option.some.inj H
    go_enter Try.func11, Try.ntmps11
    (go_wp2_with (first | ((with_reducible refine gate_dst (N := 6) rfl ?_); (try (refine gate_guard (by rfl) ?_; dsimp only)); refine Kd.R_lit (Kd.int .i64) _ 2 ?hg (N := 6) ?hd (xs := ([2, 4] : List Int)) (inner := [.int .i64 2, .int .i64 4]) (ok := fun _ => True) (okp := fun _ => True) ?hr ?hp (fun _ hk => hk) trivial (Below.refl _ _) (Nat.le_refl _) (by simp) ?_; (case hd => rfl); (case hg => rfl); (case hr => first | (go_simp; done) | (go_simp; rfl)); (case hp => exact (Reps.one (show Kd.M (Kd.int .i64) _ _ _ 2 [.int .i64 2] from rfl) (Reps.one (show Kd.M (Kd.int .i64) _ _ _ 4 [.int .i64 4] from rfl) (Reps.none _ _)))); intro v147 w8 ho9 hb hg_ hnew_; clear hg_ hnew_; (first | rw [← Ny146.out] at ho9 | (simp only [Int.reduceToNat] at ho9; rw [← Ny146.out] at ho9)); have n0_ := Aside0.mk (Kd.R_lower ho9 (below_size (by repeat (first | (with_reducible first | exact HB.out | apply below_alloc | apply pw_below_drewN | apply below_drew1) | exact HB.out)))); have n1_ := Aside0.mk (below_step (by repeat (first | (with_reducible first | exact HB.out | apply below_alloc | apply pw_below_drewN | apply below_drew1) | exact HB.out)) hb); clear HB; have HO148 := n0_; have HB := n1_; clear n0_ n1_; clear hb ho9) | ((with_reducible refine gate_dst (N := 7) rfl ?_); (try (refine gate_guard (by rfl) ?_; dsimp only)); refine Kd.R_lit (Kd.int .i64) _ 2 ?hg (N := 7) ?hd (xs := ([1, 3] : List Int)) (inner := [.int .i64 1, .int .i64 3]) (ok := fun _ => True) (okp := fun _ => True) ?hr ?hp (fun _ hk => hk) trivial (Below.refl _ _) (Nat.le_refl _) (by simp) ?_; (case hd => rfl); (case hg => rfl); (case hr => first | (go_simp; done) | (go_simp; rfl)); (case hp => exact (Reps.one (show Kd.M (Kd.int .i64) _ _ _ 1 [.int .i64 1] from rfl) (Reps.one (show Kd.M (Kd.int .i64) _ _ _ 3 [.int .i64 3] from rfl) (Reps.none _ _)))); intro v150 w10 ho11 hb hg_ hnew_; clear hg_ hnew_; (first | rw [← Ny149.out] at ho11 | (simp only [Int.reduceToNat] at ho11; rw [← Ny149.out] at ho11)); have n0_ := Aside0.mk (Kd.R_elder' (by (with_reducible repeat (first | apply Kd.R_alloc | apply Kd.R_drewN | apply Kd.R_drew)); exact HO148.out) (Kd.R_base ho11) hb); have n1_ := Aside0.mk (Kd.R_lower (Kd.R_new' ho11 (Kd.R_lt (by (with_reducible repeat (first | apply Kd.R_alloc | apply Kd.R_drewN | apply Kd.R_drew)); exact HO148.out))) (below_size (by repeat (first | (with_reducible first | exact HB.out | apply below_alloc | apply pw_below_drewN | apply below_drew1) | exact HB.out)))); have n2_ := Aside0.mk (below_step (by repeat (first | (with_reducible first | exact HB.out | apply below_alloc | apply pw_below_drewN | apply below_drew1) | exact HB.out)) hb); clear HO148; clear HB; have HO148 := n0_; have HO151 := n1_; have HB := n2_; clear n0_ n1_ n2_; clear hb ho11; obtain ⟨Ao12, co12, eo12⟩ := Kd.R_slice HO148.out; subst eo12; obtain ⟨Ao13, co13, eo13⟩ := Kd.R_slice HO151.out; subst eo13) | ((with_reducible refine gate_dst (N := 8) rfl ?_); (try (refine gate_guard (by rfl) ?_; dsimp only)); refine Kd.N_lit (Kd.slice 2 (Kd.int .i64)) _ 33 ?hg (N' := 8) ?hd (xs := ([y146, y149] : List (List Int))) (inner := [.slice Ao12 y146.length co12, .slice Ao13 y149.length co13]) (ok := (fun _ => True)) (okp := (fun _ => True)) ?hr ?hp (fun _ hk => hk) ((show ∀ k_, w10.heap.size ≤ k_ → (fun _ => True) k_ from fun k_ hk => trivial) _ (Nat.le_refl _)) (Below.refl _ _) (Nat.le_refl _) (by simp) ?_; (case hd => rfl); (case hg => rfl); (case hr => first | (go_simp; done) | (go_simp; rfl)); (case hp => exact (Reps.one (show Kd.FK (Kd.slice 2 (Kd.int .i64)) _ _ y146 [.slice Ao12 y146.length co12] from (Kd.FK_slice_mk (Kd.R_reads' (Kd.R_mono (ok' := (fun _ => True)) (HO148.out) (fun k_ hk => trivial))).2.1 (Kd.R_F (Kd.R_mono (ok' := (fun _ => True)) (HO148.out) (fun k_ hk => trivial))))) (Reps.one (show Kd.FK (Kd.slice 2 (Kd.int .i64)) _ _ y149 [.slice Ao13 y149.length co13] from (Kd.FK_slice_mk (Kd.R_reads' (Kd.R_mono (ok' := (fun _ => True)) (HO151.out) (fun k_ hk => trivial))).2.1 (Kd.R_F (Kd.R_mono (ok' := (fun _ => True)) (HO151.out) (fun k_ hk => trivial))))) (Reps.none _ _)))); intro v153 w14 ho15 hb hg_ hnew_; clear hg_ hnew_; (first | rw [← Ny152.out] at ho15 | (simp only [Int.reduceToNat] at ho15; rw [← Ny152.out] at ho15)); have n0_ := Aside0.mk (Kd.N_lower ho15 (below_size (by repeat (first | (with_reducible first | exact HB.out | apply below_alloc | apply pw_below_drewN | apply below_drew1) | exact HB.out)))); have n1_ := Aside0.mk (below_step (by repeat (first | (with_reducible first | exact HB.out | apply below_alloc | apply pw_below_drewN | apply below_drew1) | exact HB.out)) hb); clear HB; clear HO148; clear HO151; have HO154 := n0_; have HB := n1_; clear n0_ n1_; clear hb ho15; obtain ⟨Ao16, co16, eo16⟩ := Kd.N_slice HO154.out; subst eo16) | ((with_reducible refine gate_callee (f := 15) rfl ?_); refine goesL_ (some 9) rfl rfl Try.func15 (by kernel_rfl) rfl #[.slice Ao16 y152.length co16] rfl (by (try simp only [List.map_toArray, List.map_cons, List.map_nil]); first | done | rfl | (simp only [List.length_drop, List.length_take]; rfl)) ?_; (with_reducible refine (matrix_Echelon.calls k _ _ y152 t155 t158 _ ?side1 ?side2 A1.out).mono ?_); (case side1 => repeat (first | exact (Kd.N_reads' HO154.out).2.2 | (with_reducible refine Kd.C_alloc ?_ _) | (with_reducible refine Kd.C_drewN ?_ _) | (with_reducible refine Kd.C_drew ?_))); (case side2 => exact (Kd.N_reads' HO154.out).2.1); rintro e w17 ⟨v156, rfl, ho0, hb⟩; refine ⟨_, rfl, ?_⟩; have n0_ := Aside0.mk (Kd.N_elder' (by (with_reducible repeat (first | apply Kd.N_alloc | apply Kd.N_drewN | apply Kd.N_drew)); exact HO154.out) (Kd.N_base ho0) hb); have n1_ := Aside0.mk (Kd.N_lower (Kd.N_mono (ok' := fun k_ => some k_ ≠ (.slice Ao16 y152.length co16 : Value).ownBlock) ho0 (fun k_ hk_ => (Kd.fresh' (Kd.N_lt (by (with_reducible repeat (first | apply Kd.N_alloc | apply Kd.N_drewN | apply Kd.N_drew)); exact HO154.out)) k_ hk_))) (below_size (by repeat (first | (with_reducible first | exact HB.out | apply below_alloc | apply pw_below_drewN | apply below_drew1) | exact HB.out)))); have n2_ := Aside0.mk (below_step (by repeat (first | (with_reducible first | exact HB.out | apply below_alloc | apply pw_below_drewN | apply below_drew1) | exact HB.out)) hb); clear HO154; clear HB; have HO154 := n0_; have HO157 := n1_; have HB := n2_; clear n0_ n1_ n2_; (try clear hb); (try clear hb2); (try clear hk); (try clear hi); (try clear ho0)) | ((with_reducible refine gate_dst (N := 13) rfl ?_); (try (refine gate_guard (by rfl) ?_; dsimp only)); refine Kd.R_lit (Kd.int .i64) _ 2 ?hg (N := 13) ?hd (xs := ([1, (-1), 0] : List Int)) (inner := [.int .i64 1, .int .i64 (-1), .int .i64 0]) (ok := fun _ => True) (okp := fun _ => True) ?hr ?hp (fun _ hk => hk) trivial (Below.refl _ _) (Nat.le_refl _) (by simp) ?_; (case hd => rfl); (case hg => rfl); (case hr => first | (go_simp; done) | (go_simp; rfl)); (case hp => exact (Reps.one (show Kd.M (Kd.int .i64) _ _ _ 1 [.int .i64 1] from rfl) (Reps.one (show Kd.M (Kd.int .i64) _ _ _ (-1) [.int .i64 (-1)] from rfl) (Reps.one (show Kd.M (Kd.int .i64) _ _ _ 0 [.int .i64 0] from rfl) (Reps.none _ _))))); intro v160 w18 ho19 hb hg_ hnew_; clear hg_ hnew_; (first | rw [← Ny159.out] at ho19 | (simp only [Int.reduceToNat] at ho19; rw [← Ny159.out] at ho19)); have n0_ := Aside0.mk (Kd.N_elder' (by (with_reducible repeat (first | apply Kd.N_alloc | apply Kd.N_drewN | apply Kd.N_drew)); exact HO154.out) (Kd.R_base ho19) hb); have n1_ := Aside0.mk (Kd.N_elder' (by (with_reducible repeat (first | apply Kd.N_alloc | apply Kd.N_drewN | apply Kd.N_drew)); exact HO157.out) (Kd.R_base ho19) hb); have n2_ := Aside0.mk (Kd.R_lower ho19 (below_size (by repeat (first | (with_reducible first | exact HB.out | apply below_alloc | apply pw_below_drewN | apply below_drew1) | exact HB.out)))); have n3_ := Aside0.mk (below_step (by repeat (first | (with_reducible first | exact HB.out | apply below_alloc | apply pw_below_drewN | apply below_drew1) | exact HB.out)) hb); clear HO154; clear HO157; clear HB; have HO154 := n0_; have HO157 := n1_; have HO161 := n2_; have HB := n3_; clear n0_ n1_ n2_ n3_; clear hb ho19; obtain ⟨Ao20, co20, eo20⟩ := Kd.R_slice HO161.out; subst eo20) | ((with_reducible refine gate_dst (N := 14) rfl ?_); (try (refine gate_guard (by rfl) ?_; dsimp only)); refine Kd.N_lit (Kd.slice 2 (Kd.int .i64)) _ 33 ?hg (N' := 14) ?hd (xs := ([y159] : List (List Int))) (inner := [.slice Ao20 y159.length co20]) (ok := (fun k_ => some k_ ≠ (.slice Ao16 y152.length co16 : Value).ownBlock ∧ some k_ ≠ (v156 : Value).ownBlock)) (okp := (fun k_ => some k_ ≠ (.slice Ao16 y152.length co16 : Value).ownBlock ∧ some k_ ≠ (v156 : Value).ownBlock)) ?hr ?hp (fun _ hk => hk) ((show ∀ k_, w18.heap.size ≤ k_ → (fun k_ => some k_ ≠ (.slice Ao16 y152.length co16 : Value).ownBlock ∧ some k_ ≠ (v156 : Value).ownBlock) k_ from fun k_ hk => ⟨Kd.fresh' (Kd.N_lt (by (with_reducible repeat (first | apply Kd.N_alloc | apply Kd.N_drewN | apply Kd.N_drew)); exact HO154.out)) k_ hk, Kd.fresh' (Kd.N_lt (by (with_reducible repeat (first | apply Kd.N_alloc | apply Kd.N_drewN | apply Kd.N_drew)); exact HO157.out)) k_ hk⟩) _ (Nat.le_refl _)) (Below.refl _ _) (Nat.le_refl _) (by simp) ?_; (case hd => rfl); (case hg => rfl); (case hr => first | (go_simp; done) | (go_simp; rfl)); (case hp => exact (Reps.one (show Kd.FK (Kd.slice 2 (Kd.int .i64)) _ _ y159 [.slice Ao20 y159.length co20] from (Kd.FK_slice_mk (Kd.R_reads' (Kd.R_mono (ok' := (fun k_ => some k_ ≠ (.slice Ao16 y152.length co16 : Value).ownBlock ∧ some k_ ≠ (v156 : Value).ownBlock)) (Kd.R_apart' (Kd.R_apart' (HO161.out) (Kd.N_typed HO154.out) (by decide)) (Kd.N_typed HO157.out) (by decide)) (fun k_ hk => ⟨hk.1.2, hk.2⟩))).2.1 (Kd.R_F (Kd.R_mono (ok' := (fun k_ => some k_ ≠ (.slice Ao16 y152.length co16 : Value).ownBlock ∧ some k_ ≠ (v156 : Value).ownBlock)) (Kd.R_apart' (Kd.R_apart' (HO161.out) (Kd.N_typed HO154.out) (by decide)) (Kd.N_typed HO157.out) (by decide)) (fun k_ hk => ⟨hk.1.2, hk.2⟩))))) (Reps.none _ _))); intro v163 w21 ho22 hb hg_ hnew_; clear hg_ hnew_; (first | rw [← Ny162.out] at ho22 | (simp only [Int.reduceToNat] at ho22; rw [← Ny162.out] at ho22)); have n0_ := Aside0.mk (Kd.N_elder' (by (with_reducible repeat (first | apply Kd.N_alloc | apply Kd.N_drewN | apply Kd.N_drew)); exact HO154.out) (Kd.N_base ho22) hb); have n1_ := Aside0.mk (Kd.N_elder' (by (with_reducible repeat (first | apply Kd.N_alloc | apply Kd.N_drewN | apply Kd.N_drew)); exact HO157.out) (Kd.N_base ho22) hb); have n2_ := Aside0.mk (Kd.N_lower ho22 (below_size (by repeat (first | (with_reducible first | exact HB.out | apply below_alloc | apply pw_below_drewN | apply below_drew1) | exact HB.out)))); have n3_ := Aside0.mk (below_step (by repeat (first | (with_reducible first | exact HB.out | apply below_alloc | apply pw_below_drewN | apply below_drew1) | exact HB.out)) hb); clear HO154; clear HO157; clear HB; clear HO161; have HO154 := n0_; have HO157 := n1_; have HO164 := n2_; have HB := n3_; clear n0_ n1_ n2_ n3_; clear hb ho22; obtain ⟨Ao23, co23, eo23⟩ := Kd.N_slice HO164.out; subst eo23) | ((with_reducible refine gate_callee (f := 9) rfl ?_); refine goesL_ (some 15) rfl rfl Try.func9 (by kernel_rfl) rfl #[.slice Ao23 y162.length co23] rfl (by (try simp only [List.map_toArray, List.map_cons, List.map_nil]); first | done | rfl | (simp only [List.length_drop, List.length_take]; rfl)) ?_; (with_reducible refine (matrix_Kernel.calls k _ _ y162 t165 t168 _ ?side1 ?side2 A2.out).mono ?_); (case side1 => repeat (first | exact (Kd.N_reads' HO164.out).2.2 | (with_reducible refine Kd.C_alloc ?_ _) | (with_reducible refine Kd.C_drewN ?_ _) | (with_reducible refine Kd.C_drew ?_))); (case side2 => exact (Kd.N_reads' HO164.out).2.1); rintro e w24 ⟨v166, rfl, ho0, hb⟩; refine ⟨_, rfl, ?_⟩; have n0_ := Aside0.mk (Kd.N_elder' (by (with_reducible repeat (first | apply Kd.N_alloc | apply Kd.N_drewN | apply Kd.N_drew)); exact HO154.out) (Kd.N_base ho0) hb); have n1_ := Aside0.mk (Kd.N_elder' (by (with_reducible repeat (first | apply Kd.N_alloc | apply Kd.N_drewN | apply Kd.N_drew)); exact HO157.out) (Kd.N_base ho0) hb); have n2_ := Aside0.mk (Kd.N_elder' (by (with_reducible repeat (first | apply Kd.N_alloc | apply Kd.N_drewN | apply Kd.N_drew)); exact HO164.out) (Kd.N_base ho0) hb); have n3_ := Aside0.mk (Kd.N_lower (Kd.N_mono (ok' := fun k_ => some k_ ≠ (.slice Ao16 y152.length co16 : Value).ownBlock ∧ some k_ ≠ (v156 : Value).ownBlock ∧ some k_ ≠ (.slice Ao23 y162.length co23 : Value).ownBlock) ho0 (fun k_ hk_ => ⟨(Kd.fresh' (Kd.N_lt (by (with_reducible repeat (first | apply Kd.N_alloc | apply Kd.N_drewN | apply Kd.N_drew)); exact HO154.out)) k_ hk_), (Kd.fresh' (Kd.N_lt (by (with_reducible repeat (first | apply Kd.N_alloc | apply Kd.N_drewN | apply Kd.N_drew)); exact HO157.out)) k_ hk_), (Kd.fresh' (Kd.N_lt (by (with_reducible repeat (first | apply Kd.N_alloc | apply Kd.N_drewN | apply Kd.N_drew)); exact HO164.out)) k_ hk_)⟩)) (below_size (by repeat (first | (with_reducible first | exact HB.out | apply below_alloc | apply pw_below_drewN | apply below_drew1) | exact HB.out)))); have n4_ := Aside0.mk (below_step (by repeat (first | (with_reducible first | exact HB.out | apply below_alloc | apply pw_below_drewN | apply below_drew1) | exact HB.out)) hb); clear HO154; clear HO157; clear HO164; clear HB; have HO154 := n0_; have HO157 := n1_; have HO164 := n2_; have HO167 := n3_; have HB := n4_; clear n0_ n1_ n2_ n3_ n4_; (try clear hb); (try clear hb2); (try clear hk); (try clear hi); (try clear ho0)) | ((with_reducible refine gate_dst (N := 26) rfl ?_); (try (refine gate_guard (by rfl) ?_; dsimp only)); refine Kd.R_lit (Kd.int .i64) _ 2 ?hg (N := 26) ?hd (xs := ([1, 0] : List Int)) (inner := [.int .i64 1, .int .i64 0]) (ok := fun _ => True) (okp := fun _ => True) ?hr ?hp (fun _ hk => hk) trivial (Below.refl _ _) (Nat.le_refl _) (by simp) ?_; (case hd => rfl); (case hg => rfl); (case hr => first | (go_simp; done) | (go_simp; rfl)); (case hp => exact (Reps.one (show Kd.M (Kd.int .i64) _ _ _ 1 [.int .i64 1] from rfl) (Reps.one (show Kd.M (Kd.int .i64) _ _ _ 0 [.int .i64 0] from rfl) (Reps.none _ _)))); intro v170 w25 ho26 hb hg_ hnew_; clear hg_ hnew_; (first | rw [← Ny169.out] at ho26 | (simp only [Int.reduceToNat] at ho26; rw [← Ny169.out] at ho26)); have n0_ := Aside0.mk (Kd.N_elder' (by (with_reducible repeat (first | apply Kd.N_alloc | apply Kd.N_drewN | apply Kd.N_drew)); exact HO154.out) (Kd.R_base ho26) hb); have n1_ := Aside0.mk (Kd.N_elder' (by (with_reducible repeat (first | apply Kd.N_alloc | apply Kd.N_drewN | apply Kd.N_drew)); exact HO157.out) (Kd.R_base ho26) hb); have n2_ := Aside0.mk (Kd.N_elder' (by (with_reducible repeat (first | apply Kd.N_alloc | apply Kd.N_drewN | apply Kd.N_drew)); exact HO164.out) (Kd.R_base ho26) hb); have n3_ := Aside0.mk (Kd.N_elder' (by (with_reducible repeat (first | apply Kd.N_alloc | apply Kd.N_drewN | apply Kd.N_drew)); exact HO167.out) (Kd.R_base ho26) hb); have n4_ := Aside0.mk (Kd.R_lower ho26 (below_size (by repeat (first | (with_reducible first | exact HB.out | apply below_alloc | apply pw_below_drewN | apply below_drew1) | exact HB.out)))); have n5_ := Aside0.mk (below_step (by repeat (first | (with_reducible first | exact HB.out | apply below_alloc | apply pw_below_drewN | apply below_drew1) | exact HB.out)) hb); clear HO154; clear HO157; clear HO164; clear HO167; clear HB; have HO154 := n0_; have HO157 := n1_; have HO164 := n2_; have HO167 := n3_; have HO171 := n4_; have HB := n5_; clear n0_ n1_ n2_ n3_ n4_ n5_; clear hb ho26) | ((with_reducible refine gate_dst (N := 27) rfl ?_); (try (refine gate_guard (by rfl) ?_; dsimp only)); refine Kd.R_lit (Kd.int .i64) _ 2 ?hg (N := 27) ?hd (xs := ([0, 1] : List Int)) (inner := [.int .i64 0, .int .i64 1]) (ok := fun _ => True) (okp := fun _ => True) ?hr ?hp (fun _ hk => hk) trivial (Below.refl _ _) (Nat.le_refl _) (by simp) ?_; (case hd => rfl); (case hg => rfl); (case hr => first | (go_simp; done) | (go_simp; rfl)); (case hp => exact (Reps.one (show Kd.M (Kd.int .i64) _ _ _ 0 [.int .i64 0] from rfl) (Reps.one (show Kd.M (Kd.int .i64) _ _ _ 1 [.int .i64 1] from rfl) (Reps.none _ _)))); intro v173 w27 ho28 hb hg_ hnew_; clear hg_ hnew_; (first | rw [← Ny172.out] at ho28 | (simp only [Int.reduceToNat] at ho28; rw [← Ny172.out] at ho28)); have n0_ := Aside0.mk (Kd.N_elder' (by (with_reducible repeat (first | apply Kd.N_alloc | apply Kd.N_drewN | apply Kd.N_drew)); exact HO154.out) (Kd.R_base ho28) hb); have n1_ := Aside0.mk (Kd.N_elder' (by (with_reducible repeat (first | apply Kd.N_alloc | apply Kd.N_drewN | apply Kd.N_drew)); exact HO157.out) (Kd.R_base ho28) hb); have n2_ := Aside0.mk (Kd.N_elder' (by (with_reducible repeat (first | apply Kd.N_alloc | apply Kd.N_drewN | apply Kd.N_drew)); exact HO164.out) (Kd.R_base ho28) hb); have n3_ := Aside0.mk (Kd.N_elder' (by (with_reducible repeat (first | apply Kd.N_alloc | apply Kd.N_drewN | apply Kd.N_drew)); exact HO167.out) (Kd.R_base ho28) hb); have n4_ := Aside0.mk (Kd.R_elder' (by (with_reducible repeat (first | apply Kd.R_alloc | apply Kd.R_drewN | apply Kd.R_drew)); exact HO171.out) (Kd.R_base ho28) hb); have n5_ := Aside0.mk (Kd.R_lower (Kd.R_new' ho28 (Kd.R_lt (by (with_reducible repeat (first | apply Kd.R_alloc | apply Kd.R_drewN | apply Kd.R_drew)); exact HO171.out))) (below_size (by repeat (first | (with_reducible first | exact HB.out | apply below_alloc | apply pw_below_drewN | apply below_drew1) | exact HB.out)))); have n6_ := Aside0.mk (below_step (by repeat (first | (with_reducible first | exact HB.out | apply below_alloc | apply pw_below_drewN | apply below_drew1) | exact HB.out)) hb); clear HO154; clear HO157; clear HO164; clear HO167; clear HO171; clear HB; have HO154 := n0_; have HO157 := n1_; have HO164 := n2_; have HO167 := n3_; have HO171 := n4_; have HO174 := n5_; have HB := n6_; clear n0_ n1_ n2_ n3_ n4_ n5_ n6_; clear hb ho28; obtain ⟨Ao29, co29, eo29⟩ := Kd.R_slice HO171.out; subst eo29; obtain ⟨Ao30, co30, eo30⟩ := Kd.R_slice HO174.out; subst eo30) | ((with_reducible refine gate_dst (N := 28) rfl ?_); (try (refine gate_guard (by rfl) ?_; dsimp only)); refine Kd.N_lit (Kd.slice 2 (Kd.int .i64)) _ 33 ?hg (N' := 28) ?hd (xs := ([y169, y172] : List (List Int))) (inner := [.slice Ao29 y169.length co29, .slice Ao30 y172.length co30]) (ok := (fun k_ => some k_ ≠ (.slice Ao16 y152.length co16 : Value).ownBlock ∧ some k_ ≠ (v156 : Value).ownBlock ∧ some k_ ≠ (.slice Ao23 y162.length co23 : Value).ownBlock ∧ some k_ ≠ (v166 : Value).ownBlock)) (okp := (fun k_ => some k_ ≠ (.slice Ao16 y152.length co16 : Value).ownBlock ∧ some k_ ≠ (v156 : Value).ownBlock ∧ some k_ ≠ (.slice Ao23 y162.length co23 : Value).ownBlock ∧ some k_ ≠ (v166 : Value).ownBlock)) ?hr ?hp (fun _ hk => hk) ((show ∀ k_, w27.heap.size ≤ k_ → (fun k_ => some k_ ≠ (.slice Ao16 y152.length co16 : Value).ownBlock ∧ some k_ ≠ (v156 : Value).ownBlock ∧ some k_ ≠ (.slice Ao23 y162.length co23 : Value).ownBlock ∧ some k_ ≠ (v166 : Value).ownBlock) k_ from fun k_ hk => ⟨Kd.fresh' (Kd.N_lt (by (with_reducible repeat (first | apply Kd.N_alloc | apply Kd.N_drewN | apply Kd.N_drew)); exact HO154.out)) k_ hk, Kd.fresh' (Kd.N_lt (by (with_reducible repeat (first | apply Kd.N_alloc | apply Kd.N_drewN | apply Kd.N_drew)); exact HO157.out)) k_ hk, Kd.fresh' (Kd.N_lt (by (with_reducible repeat (first | apply Kd.N_alloc | apply Kd.N_drewN | apply Kd.N_drew)); exact HO164.out)) k_ hk, Kd.fresh' (Kd.N_lt (by (with_reducible repeat (first | apply Kd.N_alloc | apply Kd.N_drewN | apply Kd.N_drew)); exact HO167.out)) k_ hk⟩) _ (Nat.le_refl _)) (Below.refl _ _) (Nat.le_refl _) (by simp) ?_; (case hd => rfl); (case hg => rfl); (case hr => first | (go_simp; done) | (go_simp; rfl)); (case hp => exact (Reps.one (show Kd.FK (Kd.slice 2 (Kd.int .i64)) _ _ y169 [.slice Ao29 y169.length co29] from (Kd.FK_slice_mk (Kd.R_reads' (Kd.R_mono (ok' := (fun k_ => some k_ ≠ (.slice Ao16 y152.length co16 : Value).ownBlock ∧ some k_ ≠ (v156 : Value).ownBlock ∧ some k_ ≠ (.slice Ao23 y162.length co23 : Value).ownBlock ∧ some k_ ≠ (v166 : Value).ownBlock)) (Kd.R_apart' (Kd.R_apart' (Kd.R_apart' (Kd.R_apart' (HO171.out) (Kd.N_typed HO154.out) (by decide)) (Kd.N_typed HO157.out) (by decide)) (Kd.N_typed HO164.out) (by decide)) (Kd.N_typed HO167.out) (by decide)) (fun k_ hk => ⟨hk.1.1.1.2, ⟨hk.1.1.2, ⟨hk.1.2, hk.2⟩⟩⟩))).2.1 (Kd.R_F (Kd.R_mono (ok' := (fun k_ => some k_ ≠ (.slice Ao16 y152.length co16 : Value).ownBlock ∧ some k_ ≠ (v156 : Value).ownBlock ∧ some k_ ≠ (.slice Ao23 y162.length co23 : Value).ownBlock ∧ some k_ ≠ (v166 : Value).ownBlock)) (Kd.R_apart' (Kd.R_apart' (Kd.R_apart' (Kd.R_apart' (HO171.out) (Kd.N_typed HO154.out) (by decide)) (Kd.N_typed HO157.out) (by decide)) (Kd.N_typed HO164.out) (by decide)) (Kd.N_typed HO167.out) (by decide)) (fun k_ hk => ⟨hk.1.1.1.2, ⟨hk.1.1.2, ⟨hk.1.2, hk.2⟩⟩⟩))))) (Reps.one (show Kd.FK (Kd.slice 2 (Kd.int .i64)) _ _ y172 [.slice Ao30 y172.length co30] from (Kd.FK_slice_mk (Kd.R_reads' (Kd.R_mono (ok' := (fun k_ => some k_ ≠ (.slice Ao16 y152.length co16 : Value).ownBlock ∧ some k_ ≠ (v156 : Value).ownBlock ∧ some k_ ≠ (.slice Ao23 y162.length co23 : Value).ownBlock ∧ some k_ ≠ (v166 : Value).ownBlock)) (Kd.R_apart' (Kd.R_apart' (Kd.R_apart' (Kd.R_apart' (HO174.out) (Kd.N_typed HO154.out) (by decide)) (Kd.N_typed HO157.out) (by decide)) (Kd.N_typed HO164.out) (by decide)) (Kd.N_typed HO167.out) (by decide)) (fun k_ hk => ⟨hk.1.1.1.2, ⟨hk.1.1.2, ⟨hk.1.2, hk.2⟩⟩⟩))).2.1 (Kd.R_F (Kd.R_mono (ok' := (fun k_ => some k_ ≠ (.slice Ao16 y152.length co16 : Value).ownBlock ∧ some k_ ≠ (v156 : Value).ownBlock ∧ some k_ ≠ (.slice Ao23 y162.length co23 : Value).ownBlock ∧ some k_ ≠ (v166 : Value).ownBlock)) (Kd.R_apart' (Kd.R_apart' (Kd.R_apart' (Kd.R_apart' (HO174.out) (Kd.N_typed HO154.out) (by decide)) (Kd.N_typed HO157.out) (by decide)) (Kd.N_typed HO164.out) (by decide)) (Kd.N_typed HO167.out) (by decide)) (fun k_ hk => ⟨hk.1.1.1.2, ⟨hk.1.1.2, ⟨hk.1.2, hk.2⟩⟩⟩))))) (Reps.none _ _)))); intro v176 w31 ho32 hb hg_ hnew_; clear hg_ hnew_; (first | rw [← Ny175.out] at ho32 | (simp only [Int.reduceToNat] at ho32; rw [← Ny175.out] at ho32)); have n0_ := Aside0.mk (Kd.N_elder' (by (with_reducible repeat (first | apply Kd.N_alloc | apply Kd.N_drewN | apply Kd.N_drew)); exact HO154.out) (Kd.N_base ho32) hb); have n1_ := Aside0.mk (Kd.N_elder' (by (with_reducible repeat (first | apply Kd.N_alloc | apply Kd.N_drewN | apply Kd.N_drew)); exact HO157.out) (Kd.N_base ho32) hb); have n2_ := Aside0.mk (Kd.N_elder' (by (with_reducible repeat (first | apply Kd.N_alloc | apply Kd.N_drewN | apply Kd.N_drew)); exact HO164.out) (Kd.N_base ho32) hb); have n3_ := Aside0.mk (Kd.N_elder' (by (with_reducible repeat (first | apply Kd.N_alloc | apply Kd.N_drewN | apply Kd.N_drew)); exact HO167.out) (Kd.N_base ho32) hb); have n4_ := Aside0.mk (Kd.N_lower ho32 (below_size (by repeat (first | (with_reducible first | exact HB.out | apply below_alloc | apply pw_below_drewN | apply below_drew1) | exact HB.out)))); have n5_ := Aside0.mk (below_step (by repeat (first | (with_reducible first | exact HB.out | apply below_alloc | apply pw_below_drewN | apply below_drew1) | exact HB.out)) hb); clear HO154; clear HO157; clear HO164; clear HO167; clear HB; clear HO171; clear HO174; have HO154 := n0_; have HO157 := n1_; have HO164 := n2_; have HO167 := n3_; have HO177 := n4_; have HB := n5_; clear n0_ n1_ n2_ n3_ n4_ n5_; clear hb ho32; obtain ⟨Ao33, co33, eo33⟩ := Kd.N_slice HO157.out; subst eo33; obtain ⟨Ao34, co34, eo34⟩ := Kd.N_slice HO177.out; subst eo34) | (go_at_call 14; (with_reducible refine (petrinetref08_Same.calls k _ _ t155 _ _ y175 true _ ?side1 ?side2 ?side3 ?side4 A5.out).mono ?_); (case side1 => repeat (first | exact (Kd.N_reads' HO157.out).2.2 | (with_reducible refine Kd.C_alloc ?_ _) | (with_reducible refine Kd.C_drewN ?_ _) | (with_reducible refine Kd.C_drew ?_))); (case side2 => exact (Kd.N_reads' HO157.out).2.1); (case side3 => repeat (first | exact (Kd.N_reads' HO177.out).2.2 | (with_reducible refine Kd.C_alloc ?_ _) | (with_reducible refine Kd.C_drewN ?_ _) | (with_reducible refine Kd.C_drew ?_))); (case side4 => exact (Kd.N_reads' HO177.out).2.1); rintro e w' ⟨rfl, ⟨nd, rfl⟩⟩) | ((with_reducible refine gate_dst (N := 33) rfl ?_); (try (refine gate_guard (by rfl) ?_; dsimp only)); refine Kd.R_lit (Kd.int .i64) _ 2 ?hg (N := 33) ?hd (xs := ([1, 1, 0] : List Int)) (inner := [.int .i64 1, .int .i64 1, .int .i64 0]) (ok := fun _ => True) (okp := fun _ => True) ?hr ?hp (fun _ hk => hk) trivial (Below.refl _ _) (Nat.le_refl _) (by simp) ?_; (case hd => rfl); (case hg => rfl); (case hr => first | (go_simp; done) | (go_simp; rfl)); (case hp => exact (Reps.one (show Kd.M (Kd.int .i64) _ _ _ 1 [.int .i64 1] from rfl) (Reps.one (show Kd.M (Kd.int .i64) _ _ _ 1 [.int .i64 1] from rfl) (Reps.one (show Kd.M (Kd.int .i64) _ _ _ 0 [.int .i64 0] from rfl) (Reps.none _ _))))); intro v180 w35 ho36 hb hg_ hnew_; clear hg_ hnew_; (first | rw [← Ny179.out] at ho36 | (simp only [Int.reduceToNat] at ho36; rw [← Ny179.out] at ho36)); have n0_ := Aside0.mk (Kd.N_elder' (by (with_reducible repeat (first | apply Kd.N_alloc | apply Kd.N_drewN | apply Kd.N_drew)); exact HO154.out) (Kd.R_base ho36) hb); have n1_ := Aside0.mk (Kd.N_elder' (by (with_reducible repeat (first | apply Kd.N_alloc | apply Kd.N_drewN | apply Kd.N_drew)); exact HO157.out) (Kd.R_base ho36) hb); have n2_ := Aside0.mk (Kd.N_elder' (by (with_reducible repeat (first | apply Kd.N_alloc | apply Kd.N_drewN | apply Kd.N_drew)); exact HO164.out) (Kd.R_base ho36) hb); have n3_ := Aside0.mk (Kd.N_elder' (by (with_reducible repeat (first | apply Kd.N_alloc | apply Kd.N_drewN | apply Kd.N_drew)); exact HO167.out) (Kd.R_base ho36) hb); have n4_ := Aside0.mk (Kd.N_elder' (by (with_reducible repeat (first | apply Kd.N_alloc | apply Kd.N_drewN | apply Kd.N_drew)); exact HO177.out) (Kd.R_base ho36) hb); have n5_ := Aside0.mk (Kd.R_lower ho36 (below_size (by repeat (first | (with_reducible first | exact HB.out | apply below_alloc | apply pw_below_drewN | apply below_drew1) | exact HB.out)))); have n6_ := Aside0.mk (below_step (by repeat (first | (with_reducible first | exact HB.out | apply below_alloc | apply pw_below_drewN | apply below_drew1) | exact HB.out)) hb); clear HO154; clear HO157; clear HO164; clear HO167; clear HO177; clear HB; have HO154 := n0_; have HO157 := n1_; have HO164 := n2_; have HO167 := n3_; have HO177 := n4_; have HO181 := n5_; have HB := n6_; clear n0_ n1_ n2_ n3_ n4_ n5_ n6_; clear hb ho36) | ((with_reducible refine gate_dst (N := 34) rfl ?_); (try (refine gate_guard (by rfl) ?_; dsimp only)); refine Kd.R_lit (Kd.int .i64) _ 2 ?hg (N := 34) ?hd (xs := ([0, 0, 1] : List Int)) (inner := [.int .i64 0, .int .i64 0, .int .i64 1]) (ok := fun _ => True) (okp := fun _ => True) ?hr ?hp (fun _ hk => hk) trivial (Below.refl _ _) (Nat.le_refl _) (by simp) ?_; (case hd => rfl); (case hg => rfl); (case hr => first | (go_simp; done) | (go_simp; rfl)); (case hp => exact (Reps.one (show Kd.M (Kd.int .i64) _ _ _ 0 [.int .i64 0] from rfl) (Reps.one (show Kd.M (Kd.int .i64) _ _ _ 0 [.int .i64 0] from rfl) (Reps.one (show Kd.M (Kd.int .i64) _ _ _ 1 [.int .i64 1] from rfl) (Reps.none _ _))))); intro v183 w37 ho38 hb hg_ hnew_; clear hg_ hnew_; (first | rw [← Ny182.out] at ho38 | (simp only [Int.reduceToNat] at ho38; rw [← Ny182.out] at ho38)); have n0_ := Aside0.mk (Kd.N_elder' (by (with_reducible repeat (first | apply Kd.N_alloc | apply Kd.N_drewN | apply Kd.N_drew)); exact HO154.out) (Kd.R_base ho38) hb); have n1_ := Aside0.mk (Kd.N_elder' (by (with_reducible repeat (first | apply Kd.N_alloc | apply Kd.N_drewN | apply Kd.N_drew)); exact HO157.out) (Kd.R_base ho38) hb); have n2_ := Aside0.mk (Kd.N_elder' (by (with_reducible repeat (first | apply Kd.N_alloc | apply Kd.N_drewN | apply Kd.N_drew)); exact HO164.out) (Kd.R_base ho38) hb); have n3_ := Aside0.mk (Kd.N_elder' (by (with_reducible repeat (first | apply Kd.N_alloc | apply Kd.N_drewN | apply Kd.N_drew)); exact HO167.out) (Kd.R_base ho38) hb); have n4_ := Aside0.mk (Kd.N_elder' (by (with_reducible repeat (first | apply Kd.N_alloc | apply Kd.N_drewN | apply Kd.N_drew)); exact HO177.out) (Kd.R_base ho38) hb); have n5_ := Aside0.mk (Kd.R_elder' (by (with_reducible repeat (first | apply Kd.R_alloc | apply Kd.R_drewN | apply Kd.R_drew)); exact HO181.out) (Kd.R_base ho38) hb); have n6_ := Aside0.mk (Kd.R_lower (Kd.R_new' ho38 (Kd.R_lt (by (with_reducible repeat (first | apply Kd.R_alloc | apply Kd.R_drewN | apply Kd.R_drew)); exact HO181.out))) (below_size (by repeat (first | (with_reducible first | exact HB.out | apply below_alloc | apply pw_below_drewN | apply below_drew1) | exact HB.out)))); have n7_ := Aside0.mk (below_step (by repeat (first | (with_reducible first | exact HB.out | apply below_alloc | apply pw_below_drewN | apply below_drew1) | exact HB.out)) hb); clear HO154; clear HO157; clear HO164; clear HO167; clear HO177; clear HO181; clear HB; have HO154 := n0_; have HO157 := n1_; have HO164 := n2_; have HO167 := n3_; have HO177 := n4_; have HO181 := n5_; have HO184 := n6_; have HB := n7_; clear n0_ n1_ n2_ n3_ n4_ n5_ n6_ n7_; clear hb ho38; obtain ⟨Ao39, co39, eo39⟩ := Kd.R_slice HO181.out; subst eo39; obtain ⟨Ao40, co40, eo40⟩ := Kd.R_slice HO184.out; subst eo40) | ((with_reducible refine gate_dst (N := 35) rfl ?_); (try (refine gate_guard (by rfl) ?_; dsimp only)); refine Kd.N_lit (Kd.slice 2 (Kd.int .i64)) _ 33 ?hg (N' := 35) ?hd (xs := ([y179, y182] : List (List Int))) (inner := [.slice Ao39 y179.length co39, .slice Ao40 y182.length co40]) (ok := (fun k_ => some k_ ≠ (.slice Ao16 y152.length co16 : Value).ownBlock ∧ some k_ ≠ (.slice Ao33 t155.length co33 : Value).ownBlock ∧ some k_ ≠ (.slice Ao23 y162.length co23 : Value).ownBlock ∧ some k_ ≠ (v166 : Value).ownBlock ∧ some k_ ≠ (.slice Ao34 y175.length co34 : Value).ownBlock)) (okp := (fun k_ => some k_ ≠ (.slice Ao16 y152.length co16 : Value).ownBlock ∧ some k_ ≠ (.slice Ao33 t155.length co33 : Value).ownBlock ∧ some k_ ≠ (.slice Ao23 y162.length co23 : Value).ownBlock ∧ some k_ ≠ (v166 : Value).ownBlock ∧ some k_ ≠ (.slice Ao34 y175.length co34 : Value).ownBlock)) ?hr ?hp (fun _ hk => hk) ((show ∀ k_, w37.heap.size ≤ k_ → (fun k_ => some k_ ≠ (.slice Ao16 y152.length co16 : Value).ownBlock ∧ some k_ ≠ (.slice Ao33 t155.length co33 : Value).ownBlock ∧ some k_ ≠ (.slice Ao23 y162.length co23 : Value).ownBlock ∧ some k_ ≠ (v166 : Value).ownBlock ∧ some k_ ≠ (.slice Ao34 y175.length co34 : Value).ownBlock) k_ from fun k_ hk => ⟨Kd.fresh' (Kd.N_lt (by (with_reducible repeat (first | apply Kd.N_alloc | apply Kd.N_drewN | apply Kd.N_drew)); exact HO154.out)) k_ hk, Kd.fresh' (Kd.N_lt (by (with_reducible repeat (first | apply Kd.N_alloc | apply Kd.N_drewN | apply Kd.N_drew)); exact HO157.out)) k_ hk, Kd.fresh' (Kd.N_lt (by (with_reducible repeat (first | apply Kd.N_alloc | apply Kd.N_drewN | apply Kd.N_drew)); exact HO164.out)) k_ hk, Kd.fresh' (Kd.N_lt (by (with_reducible repeat (first | apply Kd.N_alloc | apply Kd.N_drewN | apply Kd.N_drew)); exact HO167.out)) k_ hk, Kd.fresh' (Kd.N_lt (by (with_reducible repeat (first | apply Kd.N_alloc | apply Kd.N_drewN | apply Kd.N_drew)); exact HO177.out)) k_ hk⟩) _ (Nat.le_refl _)) (Below.refl _ _) (Nat.le_refl _) (by simp) ?_; (case hd => rfl); (case hg => rfl); (case hr => first | (go_simp; done) | (go_simp; rfl)); (case hp => exact (Reps.one (show Kd.FK (Kd.slice 2 (Kd.int .i64)) _ _ y179 [.slice Ao39 y179.length co39] from (Kd.FK_slice_mk (Kd.R_reads' (Kd.R_mono (ok' := (fun k_ => some k_ ≠ (.slice Ao16 y152.length co16 : Value).ownBlock ∧ some k_ ≠ (.slice Ao33 t155.length co33 : Value).ownBlock ∧ some k_ ≠ (.slice Ao23 y162.length co23 : Value).ownBlock ∧ some k_ ≠ (v166 : Value).ownBlock ∧ some k_ ≠ (.slice Ao34 y175.length co34 : Value).ownBlock)) (Kd.R_apart' (Kd.R_apart' (Kd.R_apart' (Kd.R_apart' (Kd.R_apart' (HO181.out) (Kd.N_typed HO154.out) (by decide)) (Kd.N_typed HO157.out) (by decide)) (Kd.N_typed HO164.out) (by decide)) (Kd.N_typed HO167.out) (by decide)) (Kd.N_typed HO177.out) (by decide)) (fun k_ hk => ⟨hk.1.1.1.1.2, ⟨hk.1.1.1.2, ⟨hk.1.1.2, ⟨hk.1.2, hk.2⟩⟩⟩⟩))).2.1 (Kd.R_F (Kd.R_mono (ok' := (fun k_ => some k_ ≠ (.slice Ao16 y152.length co16 : Value).ownBlock ∧ some k_ ≠ (.slice Ao33 t155.length co33 : Value).ownBlock ∧ some k_ ≠ (.slice Ao23 y162.length co23 : Value).ownBlock ∧ some k_ ≠ (v166 : Value).ownBlock ∧ some k_ ≠ (.slice Ao34 y175.length co34 : Value).ownBlock)) (Kd.R_apart' (Kd.R_apart' (Kd.R_apart' (Kd.R_apart' (Kd.R_apart' (HO181.out) (Kd.N_typed HO154.out) (by decide)) (Kd.N_typed HO157.out) (by decide)) (Kd.N_typed HO164.out) (by decide)) (Kd.N_typed HO167.out) (by decide)) (Kd.N_typed HO177.out) (by decide)) (fun k_ hk => ⟨hk.1.1.1.1.2, ⟨hk.1.1.1.2, ⟨hk.1.1.2, ⟨hk.1.2, hk.2⟩⟩⟩⟩))))) (Reps.one (show Kd.FK (Kd.slice 2 (Kd.int .i64)) _ _ y182 [.slice Ao40 y182.length co40] from (Kd.FK_slice_mk (Kd.R_reads' (Kd.R_mono (ok' := (fun k_ => some k_ ≠ (.slice Ao16 y152.length co16 : Value).ownBlock ∧ some k_ ≠ (.slice Ao33 t155.length co33 : Value).ownBlock ∧ some k_ ≠ (.slice Ao23 y162.length co23 : Value).ownBlock ∧ some k_ ≠ (v166 : Value).ownBlock ∧ some k_ ≠ (.slice Ao34 y175.length co34 : Value).ownBlock)) (Kd.R_apart' (Kd.R_apart' (Kd.R_apart' (Kd.R_apart' (Kd.R_apart' (HO184.out) (Kd.N_typed HO154.out) (by decide)) (Kd.N_typed HO157.out) (by decide)) (Kd.N_typed HO164.out) (by decide)) (Kd.N_typed HO167.out) (by decide)) (Kd.N_typed HO177.out) (by decide)) (fun k_ hk => ⟨hk.1.1.1.1.2, ⟨hk.1.1.1.2, ⟨hk.1.1.2, ⟨hk.1.2, hk.2⟩⟩⟩⟩))).2.1 (Kd.R_F (Kd.R_mono (ok' := (fun k_ => some k_ ≠ (.slice Ao16 y152.length co16 : Value).ownBlock ∧ some k_ ≠ (.slice Ao33 t155.length co33 : Value).ownBlock ∧ some k_ ≠ (.slice Ao23 y162.length co23 : Value).ownBlock ∧ some k_ ≠ (v166 : Value).ownBlock ∧ some k_ ≠ (.slice Ao34 y175.length co34 : Value).ownBlock)) (Kd.R_apart' (Kd.R_apart' (Kd.R_apart' (Kd.R_apart' (Kd.R_apart' (HO184.out) (Kd.N_typed HO154.out) (by decide)) (Kd.N_typed HO157.out) (by decide)) (Kd.N_typed HO164.out) (by decide)) (Kd.N_typed HO167.out) (by decide)) (Kd.N_typed HO177.out) (by decide)) (fun k_ hk => ⟨hk.1.1.1.1.2, ⟨hk.1.1.1.2, ⟨hk.1.1.2, ⟨hk.1.2, hk.2⟩⟩⟩⟩))))) (Reps.none _ _)))); intro v186 w41 ho42 hb hg_ hnew_; clear hg_ hnew_; (first | rw [← Ny185.out] at ho42 | (simp only [Int.reduceToNat] at ho42; rw [← Ny185.out] at ho42)); have n0_ := Aside0.mk (Kd.N_elder' (by (with_reducible repeat (first | apply Kd.N_alloc | apply Kd.N_drewN | apply Kd.N_drew)); exact HO154.out) (Kd.N_base ho42) hb); have n1_ := Aside0.mk (Kd.N_elder' (by (with_reducible repeat (first | apply Kd.N_alloc | apply Kd.N_drewN | apply Kd.N_drew)); exact HO157.out) (Kd.N_base ho42) hb); have n2_ := Aside0.mk (Kd.N_elder' (by (with_reducible repeat (first | apply Kd.N_alloc | apply Kd.N_drewN | apply Kd.N_drew)); exact HO164.out) (Kd.N_base ho42) hb); have n3_ := Aside0.mk (Kd.N_elder' (by (with_reducible repeat (first | apply Kd.N_alloc | apply Kd.N_drewN | apply Kd.N_drew)); exact HO167.out) (Kd.N_base ho42) hb); have n4_ := Aside0.mk (Kd.N_elder' (by (with_reducible repeat (first | apply Kd.N_alloc | apply Kd.N_drewN | apply Kd.N_drew)); exact HO177.out) (Kd.N_base ho42) hb); have n5_ := Aside0.mk (Kd.N_lower ho42 (below_size (by repeat (first | (with_reducible first | exact HB.out | apply below_alloc | apply pw_below_drewN | apply below_drew1) | exact HB.out)))); have n6_ := Aside0.mk (below_step (by repeat (first | (with_reducible first | exact HB.out | apply below_alloc | apply pw_below_drewN | apply below_drew1) | exact HB.out)) hb); clear HO154; clear HO157; clear HO164; clear HO167; clear HO177; clear HB; clear HO181; clear HO184; have HO154 := n0_; have HO157 := n1_; have HO164 := n2_; have HO167 := n3_; have HO177 := n4_; have HO187 := n5_; have HB := n6_; clear n0_ n1_ n2_ n3_ n4_ n5_ n6_; clear hb ho42; obtain ⟨Ao43, co43, eo43⟩ := Kd.N_slice HO167.out; subst eo43; obtain ⟨Ao44, co44, eo44⟩ := Kd.N_slice HO187.out; subst eo44) | (go_at_call 14; (with_reducible refine (petrinetref08_Same.calls k _ _ t165 _ _ y185 t188 _ ?side1 ?side2 ?side3 ?side4 A7.out).mono ?_); (case side1 => repeat (first | exact (Kd.N_reads' HO167.out).2.2 | (with_reducible refine Kd.C_alloc ?_ _) | (with_reducible refine Kd.C_drewN ?_ _) | (with_reducible refine Kd.C_drew ?_))); (case side2 => exact (Kd.N_reads' HO167.out).2.1); (case side3 => repeat (first | exact (Kd.N_reads' HO187.out).2.2 | (with_reducible refine Kd.C_alloc ?_ _) | (with_reducible refine Kd.C_drewN ?_ _) | (with_reducible refine Kd.C_drew ?_))); (case side4 => exact (Kd.N_reads' HO187.out).2.1); rintro e w' ⟨rfl, ⟨nd, rfl⟩⟩))); go_ret; (exact ⟨by first | rfl | (simp [errW_none, errW_some] <;> rfl) | (simp [*, errW_none, errW_some] <;> rfl), by repeat (first | (with_reducible first | exact HB.out | apply below_alloc | apply pw_below_drewN | apply below_drew1) | exact HB.out)⟩)
   ·
    replace c6 := Bool.eq_false_iff.mpr c6; subst c6; (have H1 : (none) = some r := by rw [if_neg (show ¬ (false = true) by decide)] at H; exact H); clear H; have H := H1; clear H1; (exact absurd H (by simp))
  ·
   rw [if_neg c4] at H; (exact absurd H (by simp))
 ·
  rw [if_neg c3] at H; (exact absurd H (by simp))

end Go.Proofs.Ytckefohfahphpaa.Z
end
section
namespace Go.Proofs.Ytckefohfahphpaa.Z
open Go.RowKit Go.Proofs.YtckefohfahphpaaW.PrintWords Go.Proofs.YtckefohfahphpaaW.PrintLast Go.Proofs.YtckefohfahphpaaW.PrintMore
set_option linter.unusedVariables false
set_option linter.unusedSimpArgs false
theorem LeO.up {α : Type} {f : Nat → Option α} (h : ∀ k, LeO (f k) (f (k + 1))) {r : α} {m : Nat} (hm : f m = some r) : ∀ n, m ≤ n → f n = some r := by
 intro n hn
 obtain ⟨d, rfl⟩ := Nat.exists_eq_add_of_le hn
 clear hn
 induction d with
 | zero => exact hm
 | succ d ih => exact h _ _ ih
theorem example_at : petrinetlaw08_exampleHolds.f 60 = some true := by kernel_rfl
theorem example_eq (n : Nat) (hn : 60 ≤ n) : petrinetlaw08_exampleHolds.f n = some true := LeO.up petrinetlaw08_exampleHolds.mono example_at n hn
def validB (a : List (List Int)) : Bool := decide (1 ≤ a.length) && decide (a.length ≤ 64) && decide (1 ≤ (rd_L1 a 0).length) && decide ((rd_L1 a 0).length ≤ 64) && a.all fun r => decide (r.length = (rd_L1 a 0).length)
theorem wrap64_small {n : Int} (h0 : 0 ≤ n) (h1 : n ≤ 1000000) : wrap64 n = n := wrap64_id ⟨by omega, by omega⟩
theorem drop_rdL {l : List (List Int)} {i : Int} (h0 : 0 ≤ i) (h1 : i < (l.length : Int)) : l.drop i.toNat = rd_L1 l i :: l.drop (i + 1).toNat := by
 have h : i.toNat < l.length := by omega
 rw [List.drop_eq_getElem_cons h, show (i + 1).toNat = i.toNat + 1 by omega]
 simp [rd_L1, List.getD_eq_getElem?_getD, h]
theorem vectors_l0 {a b : List Int} (he : a.length = b.length) (hl : a.length ≤ 1000000) : ∀ (d n : Nat) (j : Int), 0 ≤ j → (a.length : Int) - j = d → d + 2 ≤ n → a = b → petrinetref08_Vectors.l0 n a b j = some true := by
 intro d
 induction d with
 | zero =>
  intro n j h0 hd hn e
  obtain ⟨n, rfl⟩ : ∃ m, n = m + 1 := ⟨n - 1, by omega⟩
  rw [petrinetref08_Vectors.l0, if_neg (by omega)]
 | succ d ih =>
  intro n j h0 hd hn e
  obtain ⟨n, rfl⟩ : ∃ m, n = m + 1 := ⟨n - 1, by omega⟩
  rw [petrinetref08_Vectors.l0, if_pos (by omega), if_pos h0, if_pos (by omega), if_pos (by rw [e]), wrap64_small (by omega) (by omega)]
  exact ih n (j + 1) (by omega) (by omega) (by omega) e
theorem vectors_self {a : List Int} (hl : a.length ≤ 1000000) (n : Nat) (hn : a.length + 2 ≤ n) : petrinetref08_Vectors.f n a a = some true := by
 unfold petrinetref08_Vectors.f
 rw [if_pos rfl]
 exact vectors_l0 rfl hl a.length n 0 (by omega) (by omega) (by omega) rfl
theorem same_l0 {a : List (List Int)} (hl : a.length ≤ 1000000) (hr : ∀ r ∈ a, r.length ≤ 1000000) : ∀ (d n : Nat) (j : Int), 0 ≤ j → (a.length : Int) - j = d → d + 1000010 ≤ n → petrinetref08_Same.l0 n a a j = some true := by
 intro d
 induction d with
 | zero =>
  intro n j h0 hd hn
  obtain ⟨n, rfl⟩ : ∃ m, n = m + 1 := ⟨n - 1, by omega⟩
  rw [petrinetref08_Same.l0, if_neg (by omega)]
 | succ d ih =>
  intro n j h0 hd hn
  obtain ⟨n, rfl⟩ : ∃ m, n = m + 1 := ⟨n - 1, by omega⟩
  have hm : rd_L1 a j ∈ a := by
   have h : j.toNat < a.length := by omega
   have : rd_L1 a j = a[j.toNat] := by simp [rd_L1, List.getD_eq_getElem?_getD, h]
   rw [this]
   exact List.getElem_mem h
  have := hr _ hm
  rw [petrinetref08_Same.l0, if_pos (by omega), if_pos h0, if_pos (by omega), vectors_self this n (by omega)]
  simp only [Option.bind_some, if_true]
  rw [wrap64_small (by omega) (by omega)]
  exact ih n (j + 1) (by omega) (by omega) (by omega)
theorem same_self {a : List (List Int)} (hl : a.length ≤ 1000000) (hr : ∀ r ∈ a, r.length ≤ 1000000) (n : Nat) (hn : a.length + 1000010 ≤ n) : petrinetref08_Same.f n a a = some true := by
 unfold petrinetref08_Same.f
 rw [if_pos rfl]
 exact same_l0 hl hr a.length n 0 (by omega) (by omega) (by omega)
theorem rvalid_l0 {a : List (List Int)} (ha : 1 ≤ a.length) (hl : a.length ≤ 64) : ∀ (d n : Nat) (j : Int), 0 ≤ j → (a.length : Int) - j = d → d + 2 ≤ n →
  petrinetref08_Valid.l0 n a j = some ((a.drop j.toNat).all fun r => decide (1 ≤ r.length) && decide (r.length ≤ 64) && decide (r.length = (rd_L1 a 0).length)) := by
 intro d
 induction d with
 | zero =>
  intro n j h0 hd hn
  obtain ⟨n, rfl⟩ : ∃ m, n = m + 1 := ⟨n - 1, by omega⟩
  rw [petrinetref08_Valid.l0, if_neg (by omega), List.drop_of_length_le (by omega)]
  rfl
 | succ d ih =>
  intro n j h0 hd hn
  obtain ⟨n, rfl⟩ : ∃ m, n = m + 1 := ⟨n - 1, by omega⟩
  rw [petrinetref08_Valid.l0, if_pos (by omega), if_pos h0, drop_rdL h0 (by omega)]
  simp only [List.all_cons]
  by_cases c1 : ((rd_L1 a j).length : Int) < 1
  ·
   rw [if_pos c1, decide_eq_false (show ¬ 1 ≤ (rd_L1 a j).length by omega)]
   rfl
  rw [if_neg c1]
  by_cases c2 : ((rd_L1 a j).length : Int) > 64
  ·
   rw [if_pos c2, decide_eq_false (show ¬ (rd_L1 a j).length ≤ 64 by omega)]
   simp
  rw [if_neg c2, if_pos (by omega)]
  by_cases c3 : ((rd_L1 a j).length : Int) = ((rd_L1 a 0).length : Int)
  ·
   rw [if_pos c3, wrap64_small (by omega) (by omega), ih n (j + 1) (by omega) (by omega) (by omega), decide_eq_true (show 1 ≤ (rd_L1 a j).length by omega), decide_eq_true (show (rd_L1 a j).length ≤ 64 by omega), decide_eq_true (show (rd_L1 a j).length = (rd_L1 a 0).length by omega)]
   simp
  ·
   rw [if_neg c3, decide_eq_false (show ¬ (rd_L1 a j).length = (rd_L1 a 0).length by omega)]
   simp
theorem mvalid_l0 {a : List (List Int)} {x : Int} (hx : x = ((rd_L1 a 0).length : Int)) (hl : a.length ≤ 64) : ∀ (d n : Nat) (j : Int), 0 ≤ j → (a.length : Int) - j = d → d + 2 ≤ n →
  matrix_Valid.l0 n x a (a.length : Int) j = some (((a.drop j.toNat).all fun r => decide (r.length = (rd_L1 a 0).length)) && decide (1 ≤ (rd_L1 a 0).length) && decide ((rd_L1 a 0).length ≤ 64)) := by
 intro d
 induction d with
 | zero =>
  intro n j h0 hd hn
  obtain ⟨n, rfl⟩ : ∃ m, n = m + 1 := ⟨n - 1, by omega⟩
  rw [matrix_Valid.l0, if_neg (by omega), List.drop_of_length_le (by omega), hx]
  by_cases c : ((rd_L1 a 0).length : Int) ≥ 1
  ·
   rw [if_pos c, decide_eq_true (show 1 ≤ (rd_L1 a 0).length by omega)]
   simp
   omega
  ·
   rw [if_neg c, decide_eq_false (show ¬ 1 ≤ (rd_L1 a 0).length by omega)]
   simp
 | succ d ih =>
  intro n j h0 hd hn
  obtain ⟨n, rfl⟩ : ∃ m, n = m + 1 := ⟨n - 1, by omega⟩
  rw [matrix_Valid.l0, if_pos (by omega), if_pos h0, if_pos (by omega), drop_rdL h0 (by omega)]
  simp only [List.all_cons]
  by_cases c3 : ((rd_L1 a j).length : Int) = x
  ·
   rw [if_pos c3, wrap64_small (by omega) (by omega), ih n (j + 1) (by omega) (by omega) (by omega), decide_eq_true (show (rd_L1 a j).length = (rd_L1 a 0).length by omega)]
   simp
  ·
   rw [if_neg c3, decide_eq_false (show ¬ (rd_L1 a j).length = (rd_L1 a 0).length by omega)]
   simp
theorem head_mem {a : List (List Int)} (h : 1 ≤ a.length) : rd_L1 a 0 ∈ a := by
 have : rd_L1 a 0 = a[0]'(by omega) := by simp [rd_L1, List.getD_eq_getElem?_getD, show 0 < a.length by omega]
 rw [this]
 exact List.getElem_mem _
theorem mvalid_eq (a : List (List Int)) (n : Nat) (hn : 70 ≤ n) : matrix_Valid.f n a = some (validB a) := by
 obtain ⟨n, rfl⟩ : ∃ m, n = m + 1 := ⟨n - 1, by omega⟩
 unfold matrix_Valid.f validB
 by_cases c1 : (a.length : Int) < 1
 ·
  rw [if_pos c1, matrix_Valid.j0, if_pos rfl, decide_eq_false (show ¬ 1 ≤ a.length by omega)]
  rfl
 rw [if_neg c1, decide_eq_true (show 1 ≤ a.length by omega)]
 by_cases c2 : (a.length : Int) > 64
 ·
  rw [matrix_Valid.j0, if_pos (by simp; omega), decide_eq_false (show ¬ a.length ≤ 64 by omega)]
  rfl
 rw [matrix_Valid.j0, if_neg (by simp; omega), if_pos (by omega), mvalid_l0 rfl (by omega) a.length n 0 (by omega) (by omega) (by omega), decide_eq_true (show a.length ≤ 64 by omega)]
 simp only [Int.toNat_zero, List.drop_zero, Bool.true_and]
 congr 1
 generalize (a.all fun r => decide (r.length = (rd_L1 a 0).length)) = u
 generalize decide (1 ≤ (rd_L1 a 0).length) = v
 generalize decide ((rd_L1 a 0).length ≤ 64) = z
 cases u <;> cases v <;> cases z <;> rfl
theorem rvalid_eq (a : List (List Int)) (n : Nat) (hn : 70 ≤ n) : petrinetref08_Valid.f n a = some (validB a) := by
 obtain ⟨n, rfl⟩ : ∃ m, n = m + 1 := ⟨n - 1, by omega⟩
 unfold petrinetref08_Valid.f validB
 by_cases c1 : (a.length : Int) < 1
 ·
  rw [if_pos c1, petrinetref08_Valid.j0, if_pos rfl, decide_eq_false (show ¬ 1 ≤ a.length by omega)]
  rfl
 rw [if_neg c1, decide_eq_true (show 1 ≤ a.length by omega)]
 by_cases c2 : (a.length : Int) > 64
 ·
  rw [petrinetref08_Valid.j0, if_pos (by simp; omega), decide_eq_false (show ¬ a.length ≤ 64 by omega)]
  rfl
 rw [petrinetref08_Valid.j0, if_neg (by simp; omega), rvalid_l0 (by omega) (by omega) a.length n 0 (by omega) (by omega) (by omega), decide_eq_true (show a.length ≤ 64 by omega)]
 simp only [Int.toNat_zero, List.drop_zero, Bool.true_and]
 congr 1
 have hm := head_mem (a := a) (by omega)
 rw [Bool.eq_iff_iff]
 simp only [List.all_eq_true, Bool.and_eq_true, decide_eq_true_eq]
 constructor
 ·
  intro h
  exact ⟨⟨(h _ hm).1.1, (h _ hm).1.2⟩, fun r hr => (h r hr).2⟩
 ·
  rintro ⟨⟨h1, h2⟩, h3⟩ r hr
  have := h3 r hr
  exact ⟨⟨by omega, by omega⟩, this⟩
theorem rdL_mem {a : List (List Int)} {j : Int} (h0 : 0 ≤ j) (h1 : j < (a.length : Int)) : rd_L1 a j ∈ a := by
 have h : j.toNat < a.length := by omega
 have : rd_L1 a j = a[j.toNat] := by simp [rd_L1, List.getD_eq_getElem?_getD, h]
 rw [this]
 exact List.getElem_mem h
theorem validB_iff {a : List (List Int)} : validB a = true ↔ ∃ n : Nat, 1 ≤ a.length ∧ a.length ≤ 64 ∧ 1 ≤ n ∧ n ≤ 64 ∧ (∀ r ∈ a, r.length = n) ∧ (rd_L1 a 0).length = n := by
 unfold validB
 simp only [Bool.and_eq_true, decide_eq_true_eq, List.all_eq_true]
 constructor
 ·
  rintro ⟨⟨⟨⟨h1, h2⟩, h3⟩, h4⟩, h5⟩
  exact ⟨_, h1, h2, h3, h4, h5, rfl⟩
 ·
  rintro ⟨n, h1, h2, h3, h4, h5, h6⟩
  exact ⟨⟨⟨⟨h1, h2⟩, by omega⟩, by omega⟩, fun r hr => by rw [h5 r hr, h6]⟩
end Go.Proofs.Ytckefohfahphpaa.Z
end
section
namespace Go.Proofs.Ytckefohfahphpaa.Z
open Go.RowKit Go.Proofs.YtckefohfahphpaaW.PrintWords Go.Proofs.YtckefohfahphpaaW.PrintLast Go.Proofs.YtckefohfahphpaaW.PrintMore
set_option linter.unusedVariables false
set_option linter.unusedSimpArgs false
abbrev Vc := Nat → Int
/-- What a list of vectors spans, over the fractions. -/
inductive Sp (A : List Vc) : Vc → Prop
 | mem {a : Vc} : a ∈ A → Sp A a
 | zero : Sp A (fun _ => 0)
 | comb {u v : Vc} (c d : Int) : Sp A u → Sp A v → Sp A (fun x => c * u x + d * v x)
 | div {u : Vc} (c : Int) : c ≠ 0 → Sp A (fun x => c * u x) → Sp A u
theorem Sp.eq {A : List Vc} {u v : Vc} (h : ∀ x, u x = v x) (hu : Sp A u) : Sp A v := by
 have : u = v := funext h
 exact this ▸ hu
theorem Sp.scale {A : List Vc} {u : Vc} (c : Int) (hu : Sp A u) : Sp A (fun x => c * u x) :=
 (Sp.comb c 0 hu Sp.zero).eq fun x => by simp
theorem Sp.sub {A B : List Vc} (h : ∀ a ∈ A, Sp B a) {v : Vc} (hv : Sp A v) : Sp B v := by
 induction hv with
 | mem ha => exact h _ ha
 | zero => exact .zero
 | comb c d _ _ i j => exact .comb c d i j
 | div c hc _ i => exact .div c hc i
/-- What vanishes on the list vanishes on all that it spans. -/
theorem Sp.at {A : List Vc} {x : Nat} (h : ∀ a ∈ A, a x = 0) {v : Vc} (hv : Sp A v) : v x = 0 := by
 induction hv with
 | mem ha => exact h _ ha
 | zero => rfl
 | comb c d _ _ i j => simp only [i, j]; simp
 | div c hc _ i => exact (Int.mul_eq_zero.mp i).resolve_left hc
/-- The rest of a vector behind elimination by rows with pivots. -/
def res : List (Nat × Vc) → Vc → Vc
 | [], v => v
 | e :: E, v => res E (fun x => e.2 e.1 * v x - v e.1 * e.2 x)
theorem res_comb (E : List (Nat × Vc)) : ∀ (u v : Vc) (c d : Int) (x : Nat), res E (fun x => c * u x + d * v x) x = c * res E u x + d * res E v x := by
 induction E with
 | nil => intros; rfl
 | cons e E ih =>
  intro u v c d x
  simp only [res]
  rw [← ih]
  congr 1
  funext y
  grind
theorem res_zero (E : List (Nat × Vc)) (x : Nat) : res E (fun _ => 0) x = 0 := by
 have := res_comb E (fun _ => 0) (fun _ => 0) 0 0 x
 simpa using this
theorem res_scale (E : List (Nat × Vc)) (v : Vc) (c : Int) (x : Nat) : res E (fun x => c * v x) x = c * res E v x := by
 have := res_comb E v v c 0 x
 simpa using this
theorem res_off (E : List (Nat × Vc)) : ∀ (v : Vc), (∀ e ∈ E, e.2 e.1 ≠ 0) → (∀ e ∈ E, v e.1 = 0) → ∃ d : Int, d ≠ 0 ∧ ∀ x, res E v x = d * v x := by
 induction E with
 | nil => intro v _ _; exact ⟨1, by decide, fun x => by simp [res]⟩
 | cons e E ih =>
  intro v hn hv
  obtain ⟨d, hd, h⟩ := ih (fun x => e.2 e.1 * v x - v e.1 * e.2 x) (fun f hf => hn f (List.mem_cons_of_mem _ hf)) (fun f hf => by
   rw [hv f (List.mem_cons_of_mem _ hf), hv e List.mem_cons_self]; simp)
  refine ⟨d * e.2 e.1, Int.mul_ne_zero hd (hn e List.mem_cons_self), fun x => ?_⟩
  simp only [res]
  rw [h, hv e List.mem_cons_self]
  grind
/-- Rows with pivots: each is zero in the others' columns. -/
structure Piv (E : List (Nat × Vc)) : Prop where
 nz : ∀ e ∈ E, e.2 e.1 ≠ 0
 zr : E.Pairwise fun e f => e.2 f.1 = 0 ∧ f.2 e.1 = 0
theorem res_mem {E : List (Nat × Vc)} (h : E.Pairwise fun e f => e.2 f.1 = 0 ∧ f.2 e.1 = 0) {e : Nat × Vc} (he : e ∈ E) (x : Nat) : res E e.2 x = 0 := by
 induction E with
 | nil => cases he
 | cons f E ih =>
  rcases List.mem_cons.mp he with rfl | he'
  ·
   simp only [res]
   have : (fun x => e.2 e.1 * e.2 x - e.2 e.1 * e.2 x) = fun _ => (0 : Int) := by funext y; simp
   rw [this, res_zero]
  ·
   have h1 := (List.pairwise_cons.mp h).1 e he'
   simp only [res]
   have : (fun x => f.2 f.1 * e.2 x - e.2 f.1 * f.2 x) = fun x => f.2 f.1 * e.2 x := by funext y; rw [h1.2]; simp
   rw [this, res_scale, ih (List.pairwise_cons.mp h).2 he']
   simp
def rowsOf (E : List (Nat × Vc)) : List Vc := E.map (·.2)
theorem res_span {E : List (Nat × Vc)} (h : E.Pairwise fun e f => e.2 f.1 = 0 ∧ f.2 e.1 = 0) {v : Vc} (hv : Sp (rowsOf E) v) : ∀ x, res E v x = 0 := by
 induction hv with
 | mem ha =>
  obtain ⟨e, he, rfl⟩ := List.mem_map.mp ha
  exact res_mem h he
 | zero => exact res_zero E
 | comb c d _ _ i j => intro x; rw [res_comb, i, j]; simp
 | div c hc _ i => intro x; have := i x; rw [res_scale] at this; exact (Int.mul_eq_zero.mp this).resolve_left hc
/-- What is spanned and vanishes in all pivots' columns is zero. -/
theorem Piv.only {E : List (Nat × Vc)} (h : Piv E) {v : Vc} (hv : Sp (rowsOf E) v) (h0 : ∀ e ∈ E, v e.1 = 0) (x : Nat) : v x = 0 := by
 obtain ⟨d, hd, hr⟩ := res_off E v h.nz h0
 have := res_span h.zr hv x
 rw [hr] at this
 exact (Int.mul_eq_zero.mp this).resolve_left hd
theorem res_lead (E : List (Nat × Vc)) (c : Nat) : ∀ v : Vc, (∀ e ∈ E, e.2 e.1 ≠ 0) → (∀ e ∈ E, ∀ x, x < e.1 → e.2 x = 0) → (∀ e ∈ E, e.1 ≠ c) → (∀ x, x < c → v x = 0) → v c ≠ 0 → res E v c ≠ 0 := by
 induction E with
 | nil => intro v _ _ _ _ h; exact h
 | cons e E ih =>
  intro v hn hl hc h0 h1
  simp only [res]
  have hen := hn e List.mem_cons_self
  have hel := hl e List.mem_cons_self
  have hec := hc e List.mem_cons_self
  refine ih _ (fun f hf => hn f (List.mem_cons_of_mem _ hf)) (fun f hf => hl f (List.mem_cons_of_mem _ hf)) (fun f hf => hc f (List.mem_cons_of_mem _ hf)) ?_ ?_
  ·
   intro x hx
   rw [h0 x hx]
   rcases Nat.lt_or_gt_of_ne hec with h | h
   ·
    rw [h0 e.1 h]; simp
   ·
    rw [hel x (by omega)]; simp
  ·
   rcases Nat.lt_or_gt_of_ne hec with h | h
   ·
    rw [h0 e.1 h]; simp; exact ⟨hen, h1⟩
   ·
    rw [hel c h]; simp; exact ⟨hen, h1⟩
/-- The first column of a spanned vector is a pivot's. -/
theorem Piv.lead {E : List (Nat × Vc)} (h : Piv E) (hl : ∀ e ∈ E, ∀ x, x < e.1 → e.2 x = 0) {v : Vc} (hv : Sp (rowsOf E) v) {c : Nat} (h0 : ∀ x, x < c → v x = 0) (h1 : v c ≠ 0) : ∃ e ∈ E, e.1 = c := by
 apply Classical.byContradiction
 intro hno
 have := res_lead E c v h.nz hl (fun e he hc => hno ⟨e, he, hc⟩) h0 h1
 exact this (res_span h.zr hv c)
/-- Vectors whose elements have no common divisor. -/
def Prm (v : Vc) : Prop := ∀ d : Int, (∀ x, d ∣ v x) → d ∣ 1
theorem Prm.dvd {u : Vc} (h : Prm u) {p q : Int} (hq : q ≠ 0) (hd : ∀ x, q ∣ p * u x) : q ∣ p := by
 have hg : (Int.gcd q p : Int) ≠ 0 := by
  intro hz
  have := Int.gcd_eq_zero_iff.mp (Int.ofNat_eq_zero.mp hz)
  exact hq this.1
 obtain ⟨q1, hq1⟩ := Int.gcd_dvd_left q p
 obtain ⟨p1, hp1⟩ := Int.gcd_dvd_right q p
 have hc : Int.gcd q1 p1 = 1 := by
  have e := Int.gcd_mul_left (Int.gcd q p : Int) q1 p1
  rw [← hq1, ← hp1] at e
  simp at e
  have h1 : 0 < Int.gcd q p := by omega
  exact Nat.eq_of_mul_eq_mul_left h1 (by omega)
 have h1 : q1 ∣ 1 := by
  apply h
  intro x
  have := hd x
  obtain ⟨z, hz⟩ := this
  have hz1 : q1 ∣ p1 * u x := by
   refine ⟨z, ?_⟩
   have : (Int.gcd q p : Int) * (p1 * u x) = (Int.gcd q p : Int) * (q1 * z) := by
    rw [← Int.mul_assoc, ← hp1, hz, ← Int.mul_assoc, ← hq1]
   exact Int.eq_of_mul_eq_mul_left hg this
  exact Int.natAbs_dvd_natAbs.mp ((show Nat.Coprime q1.natAbs p1.natAbs from hc).dvd_of_dvd_mul_left (by rw [← Int.natAbs_mul]; exact Int.natAbs_dvd_natAbs.mpr hz1))
 obtain ⟨z, hz⟩ := h1
 refine ⟨p1 * z, ?_⟩
 rw [hq1]
 have : (Int.gcd q p : Int) * q1 * (p1 * z) = ((Int.gcd q p : Int) * p1) * (q1 * z) := by grind
 rw [this, ← hz, ← hp1]
 simp
theorem Prm.quot {u v : Vc} (h : Prm u) {a d : Int} (ha : a ≠ 0) (e : ∀ x, a * v x = d * u x) : ∃ t : Int, (∀ x, v x = t * u x) ∧ d = a * t := by
 obtain ⟨t, ht⟩ := h.dvd (p := d) ha fun x => ⟨v x, (e x).symm⟩
 refine ⟨t, fun x => Int.eq_of_mul_eq_mul_left ha ?_, ht⟩
 rw [e x, ht, Int.mul_assoc]
theorem Prm.bound {u v : Vc} (h : Prm u) {a d : Int} (ha : a ≠ 0) (hd : d ≠ 0) (e : ∀ x, a * v x = d * u x) (x : Nat) : (u x).natAbs ≤ (v x).natAbs := by
 obtain ⟨t, ht, hdt⟩ := h.quot ha e
 have : t ≠ 0 := by intro h0; rw [h0] at hdt; simp at hdt; exact hd hdt
 rw [ht x, Int.natAbs_mul]
 exact Nat.le_mul_of_pos_left _ (by omega)
theorem Prm.same {u v : Vc} (hu : Prm u) (hv : Prm v) {p q : Int} (hp : 0 < p) (hq : 0 < q) (e : ∀ x, p * u x = q * v x) : ∀ x, u x = v x := by
 have h1 : q ∣ p := hu.dvd (by omega) fun x => ⟨v x, e x⟩
 have h2 : p ∣ q := hv.dvd (by omega) fun x => ⟨u x, (e x).symm⟩
 have : p = q := Int.dvd_antisymm (by omega) (by omega) h2 h1
 intro x
 have := e x
 subst p
 exact Int.eq_of_mul_eq_mul_left (by omega) this
/-- Two reduced forms that span the same are the same. -/
structure Red (E : List (Nat × Vc)) : Prop where
 piv : Piv E
 ld : ∀ e ∈ E, ∀ x, x < e.1 → e.2 x = 0
 inc : E.Pairwise fun e f => e.1 < f.1
theorem sorted_same : ∀ (l m : List Nat), l.Pairwise (· < ·) → m.Pairwise (· < ·) → (∀ x, x ∈ l ↔ x ∈ m) → l = m := by
 intro l
 induction l with
 | nil =>
  intro m _ _ h
  cases m with
  | nil => rfl
  | cons y m => exact absurd ((h y).mpr List.mem_cons_self) (by simp)
 | cons x l ih =>
  intro m hl hm h
  cases m with
  | nil => exact absurd ((h x).mp List.mem_cons_self) (by simp)
  | cons y m =>
   have hl1 := List.pairwise_cons.mp hl
   have hm1 := List.pairwise_cons.mp hm
   have hxy : x = y := by
    rcases List.mem_cons.mp ((h x).mp List.mem_cons_self) with e | e
    ·
     exact e
    ·
     rcases List.mem_cons.mp ((h y).mpr List.mem_cons_self) with e' | e'
     ·
      exact e'.symm
     ·
      have := hl1.1 y e'; have := hm1.1 x e; omega
   subst hxy
   rw [ih m hl1.2 hm1.2 fun z => ?_]
   constructor
   ·
    intro hz
    rcases List.mem_cons.mp ((h z).mp (List.mem_cons_of_mem _ hz)) with e | e
    ·
     have := hl1.1 z hz; omega
    ·
     exact e
   ·
    intro hz
    rcases List.mem_cons.mp ((h z).mpr (List.mem_cons_of_mem _ hz)) with e | e
    ·
     have := hm1.1 z hz; omega
    ·
     exact e
theorem Red.cols_sub {E F : List (Nat × Vc)} (hE : Red E) (hF : Red F) (h : ∀ v ∈ rowsOf E, Sp (rowsOf F) v) : ∀ x ∈ E.map (·.1), x ∈ F.map (·.1) := by
 intro x hx
 obtain ⟨e, he, rfl⟩ := List.mem_map.mp hx
 obtain ⟨f, hf, h1⟩ := hF.piv.lead hF.ld (h e.2 (List.mem_map_of_mem he)) (hE.ld e he) (hE.piv.nz e he)
 rw [← h1]
 exact List.mem_map_of_mem hf
theorem Red.cols {E F : List (Nat × Vc)} (hE : Red E) (hF : Red F) (h : ∀ v ∈ rowsOf E, Sp (rowsOf F) v) (h' : ∀ v ∈ rowsOf F, Sp (rowsOf E) v) : E.map (·.1) = F.map (·.1) :=
 sorted_same _ _ (List.pairwise_map.mpr hE.inc) (List.pairwise_map.mpr hF.inc) fun x => ⟨hE.cols_sub hF h x, hF.cols_sub hE h' x⟩
theorem pw_apart {E : List (Nat × Vc)} (h : E.Pairwise fun e f => e.2 f.1 = 0 ∧ f.2 e.1 = 0) {e f : Nat × Vc} (he : e ∈ E) (hf : f ∈ E) (hne : e.1 ≠ f.1) : e.2 f.1 = 0 := by
 induction E with
 | nil => cases he
 | cons g E ih =>
  have h1 := List.pairwise_cons.mp h
  rcases List.mem_cons.mp he with rfl | he'
  ·
   rcases List.mem_cons.mp hf with rfl | hf'
   ·
    exact absurd rfl hne
   ·
    exact (h1.1 f hf').1
  ·
   rcases List.mem_cons.mp hf with rfl | hf'
   ·
    exact (h1.1 e he').2
   ·
    exact ih h1.2 he' hf'
theorem Red.rows {E F : List (Nat × Vc)} (hE : Red E) (hF : Red F) (h : ∀ v ∈ rowsOf E, Sp (rowsOf F) v) (h' : ∀ v ∈ rowsOf F, Sp (rowsOf E) v)
  (pE : ∀ e ∈ E, Prm e.2 ∧ 0 < e.2 e.1) (pF : ∀ e ∈ F, Prm e.2 ∧ 0 < e.2 e.1) : ∀ e ∈ E, ∀ f ∈ F, e.1 = f.1 → e.2 = f.2 := by
 intro e he f hf hef
 have hc := hE.cols hF h h'
 funext x
 refine (pE e he).1.same (pF f hf).1 (pF f hf).2 (pE e he).2 (fun x => ?_) x
 have hv : Sp (rowsOf E) (fun x => f.2 f.1 * e.2 x + (-(e.2 e.1)) * f.2 x) := .comb _ _ (.mem (List.mem_map_of_mem he)) (h' _ (List.mem_map_of_mem hf))
 have := hE.piv.only hv (fun g hg => by
  by_cases hge : g.1 = e.1
  ·
   rw [hge, hef]; grind
  ·
   have h1 := pw_apart hE.piv.zr he hg (fun z => hge z.symm)
   have hg2 : g.1 ∈ F.map (·.1) := hc ▸ List.mem_map_of_mem hg
   obtain ⟨g', hg', e'⟩ := List.mem_map.mp hg2
   have h2 := pw_apart hF.piv.zr hf hg' (fun z => hge (by omega))
   rw [e'] at h2
   rw [h1, h2]; simp) x
 exact Int.sub_eq_zero.mp (by rw [← this]; simp [Int.sub_eq_add_neg, Int.neg_mul])
end Go.Proofs.Ytckefohfahphpaa.Z
end
section
namespace Go.Proofs.Ytckefohfahphpaa.Z
open Go.RowKit Go.Proofs.YtckefohfahphpaaW.PrintWords Go.Proofs.YtckefohfahphpaaW.PrintLast Go.Proofs.YtckefohfahphpaaW.PrintMore
set_option linter.unusedVariables false
set_option linter.unusedSimpArgs false
/-- Expansion of a determinant along a row. -/
def ex (r : Vc) (f : List Nat → Int) : List Nat → List Nat → Int
 | _, [] => 0
 | pre, c :: C => r c * f (pre ++ C) - ex r f (pre ++ [c]) C
def det : List Vc → List Nat → Int
 | [], [] => 1
 | [], _ :: _ => 0
 | r :: R, C => ex r (det R) [] C
theorem ex_pre {r : Vc} {f : List Nat → Int} {a b : Nat} (h : ∀ P Q, f (P ++ a :: b :: Q) = -f (P ++ b :: a :: Q)) (P : List Nat) : ∀ (C S : List Nat), ex r f (P ++ a :: b :: S) C = -ex r f (P ++ b :: a :: S) C := by
 intro C
 induction C with
 | nil => intro S; simp [ex]
 | cons c C ih =>
  intro S
  simp only [ex, List.append_assoc, List.cons_append]
  have h1 := h P (S ++ C)
  have h2 := ih (S ++ [c])
  rw [h1, h2]
  grind
theorem ex_swap {r : Vc} {f : List Nat → Int} {a b : Nat} (h : ∀ P Q, f (P ++ a :: b :: Q) = -f (P ++ b :: a :: Q)) : ∀ (P S Q : List Nat), ex r f S (P ++ a :: b :: Q) = -ex r f S (P ++ b :: a :: Q) := by
 intro P
 induction P with
 | nil =>
  intro S Q
  simp only [ex, List.nil_append, List.append_assoc, List.cons_append]
  have := ex_pre (r := r) h S Q []
  grind
 | cons c P ih =>
  intro S Q
  simp only [ex, List.cons_append]
  have h1 := h (S ++ P) Q
  have h2 := ih (S ++ [c]) Q
  simp only [List.append_assoc] at h1
  rw [h1, h2]
  grind
theorem det_swap : ∀ (R : List Vc) (a b : Nat) (P Q : List Nat), det R (P ++ a :: b :: Q) = -det R (P ++ b :: a :: Q) := by
 intro R
 induction R with
 | nil => intro a b P Q; cases P <;> rfl
 | cons r R ih => intro a b P Q; simp only [det]; exact ex_swap (fun P Q => ih a b P Q) P [] Q
theorem det_move (R : List Vc) (c : Nat) : ∀ (P Q S : List Nat), (det R (S ++ P ++ c :: Q)).natAbs = (det R (S ++ c :: (P ++ Q))).natAbs := by
 intro P
 induction P with
 | nil => intro Q S; simp
 | cons p P ih =>
  intro Q S
  have h1 := ih Q (S ++ [p])
  have h2 := det_swap R p c S (P ++ Q)
  simp only [List.append_assoc, List.cons_append, List.nil_append] at h1 h2 ⊢
  rw [h1, h2, Int.natAbs_neg]
theorem det_same (R : List Vc) {c : Nat} {C : List Nat} (h : c ∈ C) : det R (c :: C) = 0 := by
 obtain ⟨P, Q, rfl⟩ := List.append_of_mem h
 have h1 := det_move R c P Q [c]
 have h2 := det_swap R c c [] (P ++ Q)
 simp only [List.cons_append, List.nil_append] at h1 h2
 omega
theorem ex_span {A : List Vc} {r : Vc} {f : List Nat → Int} (h : ∀ C, Sp A fun x => f (x :: C)) : ∀ (C P : List Nat), Sp A fun x => ex r f (x :: P) C := by
 intro C
 induction C with
 | nil => intro P; exact Sp.zero
 | cons c C ih => intro P; exact (Sp.comb (r c) (-1) (h (P ++ C)) (ih (P ++ [c]))).eq fun x => by simp only [ex, List.cons_append]; omega
theorem Sp.mono {A B : List Vc} (h : ∀ a ∈ A, a ∈ B) {v : Vc} (hv : Sp A v) : Sp B v := hv.sub fun a ha => .mem (h a ha)
theorem det_span : ∀ (R : List Vc) (C : List Nat), Sp R fun x => det R (x :: C) := by
 intro R
 induction R with
 | nil => intro C; exact Sp.zero
 | cons r R ih =>
  intro C
  have h := (ex_span (r := r) ih C []).mono (B := r :: R) (fun a ha => List.mem_cons_of_mem _ ha)
  exact (Sp.comb (det R C) (-1) (.mem List.mem_cons_self) h).eq fun x => by simp only [det, ex, List.nil_append]; grind
theorem det_head (r : Vc) (R : List Vc) (C : List Nat) : Sp R fun x => det (r :: R) (x :: C) - det R C * r x :=
 (Sp.scale (-1) (ex_span (r := r) (det_span R) C [])).eq fun x => by simp only [det, ex, List.nil_append]; grind
def hb : Nat → Nat
 | 0 => 1
 | n + 1 => (n + 1) * (3 * hb n)
theorem ex_bound {r : Vc} {f : List Nat → Int} {M m : Nat} (hr : ∀ x, (r x).natAbs ≤ 3) (hf : ∀ L, L.length = m → (f L).natAbs ≤ M) : ∀ (C P : List Nat), P.length + C.length = m + 1 → (ex r f P C).natAbs ≤ C.length * (3 * M) := by
 intro C
 induction C with
 | nil => intro P _; simp [ex]
 | cons c C ih =>
  intro P hl
  have h1 := hf (P ++ C) (by simp at hl ⊢; omega)
  have h2 := ih (P ++ [c]) (by simp at hl ⊢; omega)
  have h3 := Nat.mul_le_mul (hr c) h1
  rw [← Int.natAbs_mul] at h3
  simp only [ex, List.length_cons]
  have h4 : (C.length + 1) * (3 * M) = C.length * (3 * M) + 3 * M := Nat.succ_mul _ _
  omega
theorem det_bound : ∀ (R : List Vc) (C : List Nat), (∀ r ∈ R, ∀ x, (r x).natAbs ≤ 3) → C.length = R.length → (det R C).natAbs ≤ hb R.length := by
 intro R
 induction R with
 | nil => intro C _ hl; cases C with
  | nil => simp [det, hb]
  | cons c C => simp at hl
 | cons r R ih =>
  intro C hr hl
  have := ex_bound (r := r) (f := det R) (M := hb R.length) (m := R.length) (hr r List.mem_cons_self) (fun L hL => ih L (fun q hq => hr q (List.mem_cons_of_mem _ hq)) hL) C [] (by simpa using hl)
  simp only [det, List.length_cons, hb]
  rw [hl] at this
  exact this
theorem hb_mono {n m : Nat} (h : n ≤ m) : hb n ≤ hb m := by
 induction h with
 | refl => exact Nat.le_refl _
 | step _ ih =>
  refine Nat.le_trans ih ?_
  simp only [hb]
  have : 1 * hb _ ≤ _ := Nat.mul_le_mul (show 1 ≤ 1 from Nat.le_refl _) (Nat.le_refl (hb ‹Nat›))
  rename_i k _
  have h1 : (k + 1) * (3 * hb k) = k * (3 * hb k) + 3 * hb k := Nat.succ_mul _ _
  omega
theorem hb8 : hb 8 = 264539520 := by decide
end Go.Proofs.Ytckefohfahphpaa.Z
end
section
namespace Go.Proofs.Ytckefohfahphpaa.Z
open Go.RowKit Go.Proofs.YtckefohfahphpaaW.PrintWords Go.Proofs.YtckefohfahphpaaW.PrintLast Go.Proofs.YtckefohfahphpaaW.PrintMore
attribute [local go_sem] max2_int min2_int max_two min_two max_three min_three max_four min_four   -- for this text's walks alone
set_option linter.unusedVariables false
set_option linter.unusedSimpArgs false

/-! ### vector_Dot: function 36 -/
def vector_Dot.l0 : Nat → List Int → Int → List Int → Int → Int → Option (Int × Int)
 | 0, _, _, _, _, _ => none
 | k + 1, x1, x6, x16, x17, x18 => if x18 < x17 then (if 0 ≤ x18 then (if x18 < (x16.length : Int) then (if x18 < (x1.length : Int) then ((safeint_Mul.f (rd x16 x18) (rd x1 x18)).bind fun bt226 => (if bt226.2 = true then ((safeint_Add.f x6 bt226.1).bind fun bt228 => (if bt228.2 = true then (vector_Dot.l0 k x1 bt228.1 x16 x17 (wrap64 (x18 + 1))) else (some (0, 3)))) else (some (0, 3)))) else (none)) else (none)) else (none)) else (some (x6, 0))
def vector_Dot.f (k : Nat) (l0 : List Int) (l1 : List Int) : Option (Int × Int) := if (l0.length : Int) = (l1.length : Int) then (vector_Dot.l0 k l1 0 l0 (l0.length : Int) 0) else (some (0, 2))
theorem vector_Dot.mono_l : ∀ k, (∀ y0 y1 y2 y3 y4, LeO (vector_Dot.l0 k y0 y1 y2 y3 y4) (vector_Dot.l0 (k + 1) y0 y1 y2 y3 y4))
 | 0 => fun _ _ _ _ _ r h => by simp [vector_Dot.l0] at h
 | k + 1 => by
  have ih0 := vector_Dot.mono_l k
  ·
   intro y0 y1 y2 y3 y4
   unfold vector_Dot.l0
   repeat' first
   | (with_reducible exact ih0 _ _ _ _ _)
   | (with_reducible exact LeO.refl _)
   | (with_reducible exact LeO.none _)
   | (with_reducible refine LeO.ite ?_ ?_)
   | (with_reducible refine LeO.bind ?_ (fun _ => ?_))
   | exact ih0 _ _ _ _ _
   | exact LeO.none _
   | refine LeO.ite ?_ ?_
   | refine LeO.bind ?_ (fun _ => ?_)
theorem vector_Dot.mono : ∀ a0 a1 k, LeO (vector_Dot.f k a0 a1) (vector_Dot.f (k + 1) a0 a1) := by
 intro a0 a1 k
 have ih0 := vector_Dot.mono_l k
 unfold vector_Dot.f
 repeat' first
   | (with_reducible exact ih0 _ _ _ _ _)
   | (with_reducible exact LeO.refl _)
   | (with_reducible exact LeO.none _)
   | (with_reducible refine LeO.ite ?_ ?_)
   | (with_reducible refine LeO.bind ?_ (fun _ => ?_))
   | exact ih0 _ _ _ _ _
   | exact LeO.none _
   | refine LeO.ite ?_ ?_
   | refine LeO.bind ?_ (fun _ => ?_)
set_option maxHeartbeats 8000000 in
set_option maxRecDepth 100000 in
theorem vector_Dot.calls (k : Nat) (A0 : Option Addr) (c0 : Nat) (l0 : List Int) (A1 : Option Addr) (c1 : Nat) (l1 : List Int) (r1 : Int) (r2 : Int) (w : World) (hr0 : Kd.C (Kd.int .i64) w A0 l0.length l0) (hc0 : l0.length ≤ c0) (hr1 : Kd.C (Kd.int .i64) w A1 l1.length l1) (hc1 : l1.length ≤ c1) (h : vector_Dot.f k l0 l1 = some (r1, r2)) :
  Calls Try.prog 36 #[.slice A0 l0.length c0, .slice A1 l1.length c1] w fun e w' => e = .returned (.tuple #[.int .i64 r1, .int .i64 r2]) ∧ Below w.heap.size w w' := by
 have HR0 := Aside0.mk hr0
 have HC0 := Aside0.mk hc0
 clear hr0 hc0
 have HR1 := Aside0.mk hr1
 have HC1 := Aside0.mk hc1
 clear hr1 hc1
 have HB := Aside0.mk (Below.refl w.heap.size w)
 have H : (if (l0.length : Int) = (l1.length : Int) then (vector_Dot.l0 k l1 0 l0 (l0.length : Int) 0) else (some (0, 2))) = some (r1, r2) := h
 clear h
 by_cases c3 : (l0.length : Int) = (l1.length : Int)
 ·
  rw [if_pos c3] at H; have c3b0 : ((l0.length : Int) == (l1.length : Int)) = true := beq_iff_eq.mpr c3; have c3b1 : ((l0.length : Int) != (l1.length : Int)) = false := bne_eq_false_iff_eq.mpr c3; (have c3b2 : (l0.length == l1.length) = true := by first | simpa using c3 | (simp at c3 ⊢; omega)); clear c3; have H' := Aside0.mk H; clear H
  go_enter Try.func36, Try.ntmps36
  go_wp2
  go_loopg [6, 18] k (fun kq v6 v18 w' => ∃ (x6_1 : Int) (x18_1 : Int), v6 = .int .i64 x6_1 ∧ v18 = .int .i64 x18_1 ∧ Aside0 (vector_Dot.l0 kq l1 x6_1 l0 (l0.length : Int) x18_1 = some (r1, r2)) ∧ Aside0 (kq ≤ k) ∧ Aside0 (Below w.heap.size w w'))
  case atStart => exact ⟨(0), (0), (by first | rfl | (simp; done) | (simp [*]; done)), (by first | rfl | (simp; done) | (simp [*]; done)), H', ⟨Nat.le_refl _⟩, ⟨by repeat (first | (with_reducible first | exact HB.out | apply below_alloc | apply pw_below_drewN | apply below_drew1) | exact HB.out)⟩⟩
  case round =>
   clear H'; (try clear c1); (try clear p2); (try clear c3); (try clear c3b0); (try clear c3b1); (try clear c3b2); obtain ⟨x6_1, x18_1, rfl, rfl, HA, HK1, HB⟩ := hrel
   cases gk with
   | zero => exact absurd HA.out (by simp [vector_Dot.l0])
   | succ k1 =>
    have H := HA.out; clear HA; simp only [vector_Dot.l0] at H; by_cases c4 : x18_1 < (l0.length : Int)
    ·
     rw [if_pos c4] at H; have c4b0 : decide (x18_1 < (l0.length : Int)) = true := decide_eq_true c4; clear c4; by_cases c5 : 0 ≤ x18_1
     ·
      rw [if_pos c5] at H; have c5b0 : decide (0 ≤ x18_1) = true := decide_eq_true c5; clear c5; by_cases c6 : x18_1 < (l0.length : Int)
      ·
       rw [if_pos c6] at H; have c6b0 : decide (x18_1 < (l0.length : Int)) = true := decide_eq_true c6; clear c6; by_cases c7 : x18_1 < (l1.length : Int)
       ·
        rw [if_pos c7] at H; have c7b0 : decide (x18_1 < (l1.length : Int)) = true := decide_eq_true c7; clear c7; replace H := Option.bind_eq_some_iff.mp H; obtain ⟨⟨t226, t227⟩, A80, H⟩ := H; (replace H : (if t227 = true then ((safeint_Add.f x6_1 t226).bind fun bt228 => (if bt228.2 = true then (vector_Dot.l0 k1 l1 bt228.1 l0 (l0.length : Int) (wrap64 (x18_1 + 1))) else (some (0, 3)))) else (some (0, 3))) = some (r1, r2) := H); have A8 := Aside0.mk A80; clear A80; by_cases c9 : t227 = true
        ·
         subst c9; (have H1 : ((safeint_Add.f x6_1 t226).bind fun bt228 => (if bt228.2 = true then (vector_Dot.l0 k1 l1 bt228.1 l0 (l0.length : Int) (wrap64 (x18_1 + 1))) else (some (0, 3)))) = some (r1, r2) := by rw [if_pos rfl] at H; exact H); clear H; have H := H1; clear H1; replace H := Option.bind_eq_some_iff.mp H; obtain ⟨⟨t228, t229⟩, A100, H⟩ := H; replace H : (if t229 = true then (vector_Dot.l0 k1 l1 t228 l0 (l0.length : Int) (wrap64 (x18_1 + 1))) else (some (0, 3))) = some (r1, r2) := H; have A10 := Aside0.mk A100; clear A100; by_cases c11 : t229 = true
         ·
          subst c11; (have H1 : (vector_Dot.l0 k1 l1 t228 l0 (l0.length : Int) (wrap64 (x18_1 + 1))) = some (r1, r2) := by rw [if_pos rfl] at H; exact H); clear H; have H := H1; clear H1; have H' := Aside0.mk H; clear H; (have p224 : 0 ≤ (x18_1 : Int) := of_decide_eq_true (by first | (with_reducible assumption) | assumption)); (have q224 : x18_1 < (l0.length : Int) := of_decide_eq_true (by first | (with_reducible assumption) | assumption)); obtain ⟨ad224, e224, hx224_0⟩ := Kd.at_int HR0.out x18_1 p224 q224
          cases e224
          replace hx224_0 := (HB.out.cell (World.block_lt_of_cell? w _ hx224_0)).trans hx224_0; replace p224 := eq_true p224; replace q224 := eq_true q224; (have p225 : 0 ≤ (x18_1 : Int) := of_decide_eq_true (by first | (with_reducible assumption) | assumption)); (have q225 : x18_1 < (l1.length : Int) := of_decide_eq_true (by first | (with_reducible assumption) | assumption)); obtain ⟨ad225, e225, hx225_0⟩ := Kd.at_int HR1.out x18_1 p225 q225
          cases e225
          replace hx225_0 := (HB.out.cell (World.block_lt_of_cell? w _ hx225_0)).trans hx225_0; replace p225 := eq_true p225; replace q225 := eq_true q225; (go_wp2_with (first | ((with_reducible refine gate_callee (f := 42) rfl ?_); refine goesL_ (some 29) rfl rfl Try.func42 (by kernel_rfl) rfl #[.int .i64 (rd l0 x18_1), .int .i64 (rd l1 x18_1)] rfl (by (try simp only [List.map_toArray, List.map_cons, List.map_nil]); first | done | rfl | (simp only [List.length_drop, List.length_take]; rfl)) ?_; (with_reducible refine (safeint_Mul.calls (rd l0 x18_1) (rd l1 x18_1) t226 true _ A8.out).mono ?_); rintro e w12 ⟨rfl, hb⟩; refine ⟨_, rfl, ?_⟩; have n0_ := Aside0.mk (below_step (by repeat (first | (with_reducible first | exact HB.out | apply below_alloc | apply pw_below_drewN | apply below_drew1) | exact HB.out)) hb); clear HB; have HB := n0_; clear n0_; (try clear hb); (try clear hb2); (try clear hk); (try clear hi)) | ((with_reducible refine gate_callee (f := 45) rfl ?_); refine goesL_ (some 37) rfl rfl Try.func45 (by kernel_rfl) rfl #[.int .i64 x6_1, .int .i64 t226] rfl (by (try simp only [List.map_toArray, List.map_cons, List.map_nil]); first | done | rfl | (simp only [List.length_drop, List.length_take]; rfl)) ?_; (with_reducible refine (safeint_Add.calls x6_1 t226 t228 true _ A10.out).mono ?_); rintro e w' ⟨rfl, ⟨nd, rfl⟩⟩; refine ⟨_, rfl, ?_⟩))); go_roundg k1
          case measure => have := HK1.out; omega
          case rel => exact ⟨(t228), (wrap64 (x18_1 + 1)), (by first | rfl | (simp; done) | (simp [*]; done)), (by first | rfl | (simp; done) | (simp [*]; done)), H', ⟨by have := HK1.out; omega⟩, ⟨by repeat (first | (with_reducible first | exact HB.out | apply below_alloc | apply pw_below_drewN | apply below_drew1) | exact HB.out)⟩⟩
         ·
          replace c11 := Bool.eq_false_iff.mpr c11; subst c11; (have H1 : (some (0, 3)) = some (r1, r2) := by rw [if_neg (show ¬ (false = true) by decide)] at H; exact H); clear H; have H := H1; clear H1; simp only [Option.some.injEq, Prod.mk.injEq] at H; obtain ⟨rfl, rfl⟩ := H; (have p224 : 0 ≤ (x18_1 : Int) := of_decide_eq_true (by first | (with_reducible assumption) | assumption)); (have q224 : x18_1 < (l0.length : Int) := of_decide_eq_true (by first | (with_reducible assumption) | assumption)); obtain ⟨ad224, e224, hx224_0⟩ := Kd.at_int HR0.out x18_1 p224 q224
          cases e224
          replace hx224_0 := (HB.out.cell (World.block_lt_of_cell? w _ hx224_0)).trans hx224_0; replace p224 := eq_true p224; replace q224 := eq_true q224; (have p225 : 0 ≤ (x18_1 : Int) := of_decide_eq_true (by first | (with_reducible assumption) | assumption)); (have q225 : x18_1 < (l1.length : Int) := of_decide_eq_true (by first | (with_reducible assumption) | assumption)); obtain ⟨ad225, e225, hx225_0⟩ := Kd.at_int HR1.out x18_1 p225 q225
          cases e225
          replace hx225_0 := (HB.out.cell (World.block_lt_of_cell? w _ hx225_0)).trans hx225_0; replace p225 := eq_true p225; replace q225 := eq_true q225; (go_wp2_with (first | ((with_reducible refine gate_callee (f := 42) rfl ?_); refine goesL_ (some 29) rfl rfl Try.func42 (by kernel_rfl) rfl #[.int .i64 (rd l0 x18_1), .int .i64 (rd l1 x18_1)] rfl (by (try simp only [List.map_toArray, List.map_cons, List.map_nil]); first | done | rfl | (simp only [List.length_drop, List.length_take]; rfl)) ?_; (with_reducible refine (safeint_Mul.calls (rd l0 x18_1) (rd l1 x18_1) t226 true _ A8.out).mono ?_); rintro e w13 ⟨rfl, hb⟩; refine ⟨_, rfl, ?_⟩; have n0_ := Aside0.mk (below_step (by repeat (first | (with_reducible first | exact HB.out | apply below_alloc | apply pw_below_drewN | apply below_drew1) | exact HB.out)) hb); clear HB; have HB := n0_; clear n0_; (try clear hb); (try clear hb2); (try clear hk); (try clear hi)) | ((with_reducible refine gate_callee (f := 45) rfl ?_); refine goesL_ (some 37) rfl rfl Try.func45 (by kernel_rfl) rfl #[.int .i64 x6_1, .int .i64 t226] rfl (by (try simp only [List.map_toArray, List.map_cons, List.map_nil]); first | done | rfl | (simp only [List.length_drop, List.length_take]; rfl)) ?_; (with_reducible refine (safeint_Add.calls x6_1 t226 t228 false _ A10.out).mono ?_); rintro e w' ⟨rfl, ⟨nd, rfl⟩⟩; refine ⟨_, rfl, ?_⟩))); go_ret2; (exact ⟨by first | rfl | (simp [errW_none, errW_some] <;> rfl) | (simp [*, errW_none, errW_some] <;> rfl), by repeat (first | (with_reducible first | exact HB.out | apply below_alloc | apply pw_below_drewN | apply below_drew1) | exact HB.out)⟩)
        ·
         replace c9 := Bool.eq_false_iff.mpr c9; subst c9; (have H1 : (some (0, 3)) = some (r1, r2) := by rw [if_neg (show ¬ (false = true) by decide)] at H; exact H); clear H; have H := H1; clear H1; simp only [Option.some.injEq, Prod.mk.injEq] at H; obtain ⟨rfl, rfl⟩ := H; (have p224 : 0 ≤ (x18_1 : Int) := of_decide_eq_true (by first | (with_reducible assumption) | assumption)); (have q224 : x18_1 < (l0.length : Int) := of_decide_eq_true (by first | (with_reducible assumption) | assumption)); obtain ⟨ad224, e224, hx224_0⟩ := Kd.at_int HR0.out x18_1 p224 q224
         cases e224
         replace hx224_0 := (HB.out.cell (World.block_lt_of_cell? w _ hx224_0)).trans hx224_0; replace p224 := eq_true p224; replace q224 := eq_true q224; (have p225 : 0 ≤ (x18_1 : Int) := of_decide_eq_true (by first | (with_reducible assumption) | assumption)); (have q225 : x18_1 < (l1.length : Int) := of_decide_eq_true (by first | (with_reducible assumption) | assumption)); obtain ⟨ad225, e225, hx225_0⟩ := Kd.at_int HR1.out x18_1 p225 q225
         cases e225
         replace hx225_0 := (HB.out.cell (World.block_lt_of_cell? w _ hx225_0)).trans hx225_0; replace p225 := eq_true p225; replace q225 := eq_true q225; (go_wp2_with (first | ((with_reducible refine gate_callee (f := 42) rfl ?_); refine goesL_ (some 29) rfl rfl Try.func42 (by kernel_rfl) rfl #[.int .i64 (rd l0 x18_1), .int .i64 (rd l1 x18_1)] rfl (by (try simp only [List.map_toArray, List.map_cons, List.map_nil]); first | done | rfl | (simp only [List.length_drop, List.length_take]; rfl)) ?_; (with_reducible refine (safeint_Mul.calls (rd l0 x18_1) (rd l1 x18_1) t226 false _ A8.out).mono ?_); rintro e w14 ⟨rfl, hb⟩; refine ⟨_, rfl, ?_⟩; have n0_ := Aside0.mk (below_step (by repeat (first | (with_reducible first | exact HB.out | apply below_alloc | apply pw_below_drewN | apply below_drew1) | exact HB.out)) hb); clear HB; have HB := n0_; clear n0_; (try clear hb); (try clear hb2); (try clear hk); (try clear hi)))); go_ret2; (exact ⟨by first | rfl | (simp [errW_none, errW_some] <;> rfl) | (simp [*, errW_none, errW_some] <;> rfl), by repeat (first | (with_reducible first | exact HB.out | apply below_alloc | apply pw_below_drewN | apply below_drew1) | exact HB.out)⟩)
       ·
        rw [if_neg c7] at H; (exact absurd H (by simp))
      ·
       rw [if_neg c6] at H; (exact absurd H (by simp))
     ·
      rw [if_neg c5] at H; (exact absurd H (by simp))
    ·
     rw [if_neg c4] at H; have c4b0 : decide (x18_1 < (l0.length : Int)) = false := decide_eq_false c4; clear c4; simp only [Option.some.injEq, Prod.mk.injEq] at H; obtain ⟨rfl, rfl⟩ := H; go_wp2; go_ret2; (exact ⟨by first | rfl | (simp [errW_none, errW_some] <;> rfl) | (simp [*, errW_none, errW_some] <;> rfl), by repeat (first | (with_reducible first | exact HB.out | apply below_alloc | apply pw_below_drewN | apply below_drew1) | exact HB.out)⟩)
 ·
  rw [if_neg c3] at H; have c3b0 : ((l0.length : Int) == (l1.length : Int)) = false := beq_eq_false_iff_ne.mpr c3; have c3b1 : ((l0.length : Int) != (l1.length : Int)) = true := bne_iff_ne.mpr c3; (have c3b2 : (l0.length == l1.length) = false := by first | simpa using c3 | (simp at c3 ⊢; omega)); simp only [Option.some.injEq, Prod.mk.injEq] at H; obtain ⟨rfl, rfl⟩ := H
  go_enter Try.func36, Try.ntmps36
  go_wp2; go_ret2; (exact ⟨by first | rfl | (simp [errW_none, errW_some] <;> rfl) | (simp [*, errW_none, errW_some] <;> rfl), by repeat (first | (with_reducible first | exact HB.out | apply below_alloc | apply pw_below_drewN | apply below_drew1) | exact HB.out)⟩)

end Go.Proofs.Ytckefohfahphpaa.Z
end
section
namespace Go.Proofs.Ytckefohfahphpaa.Z
open Go.RowKit Go.Proofs.YtckefohfahphpaaW.PrintWords Go.Proofs.YtckefohfahphpaaW.PrintLast Go.Proofs.YtckefohfahphpaaW.PrintMore
set_option linter.unusedVariables false
set_option linter.unusedSimpArgs false
def chk (z : Int) : Int × Bool := if in64 z then (z, true) else (0, false)
theorem add_eq {a b : Int} (ha : in64 a) (hb : in64 b) : safeint_Add.f a b = some (chk (a + b)) := by
 unfold safeint_Add.f chk
 obtain ⟨a1, a2⟩ := ha
 obtain ⟨b1, b2⟩ := hb
 by_cases h : in64 (a + b)
 ·
  rw [if_pos h, wrap64_id h]
  obtain ⟨h1, h2⟩ := h
  unfold wrap64
  repeat' split
  all_goals first | rfl | (exfalso; omega)
 ·
  rw [if_neg h]
  have h' : a + b < -9223372036854775808 ∨ 9223372036854775807 < a + b := by unfold in64 at h; omega
  unfold wrap64
  repeat' split
  all_goals first | rfl | (exfalso; omega)
theorem mul_eq {a b : Int} (ha : in64 a) (hb : in64 b) : safeint_Mul.f a b = some (chk (a * b)) := by
 unfold safeint_Mul.f chk
 rw [if_pos ⟨ha, hb⟩]
theorem chk_in (z : Int) : in64 (chk z).1 := by
 unfold chk
 split
 ·
  assumption
 ·
  exact ⟨by decide, by decide⟩
theorem chk_ok {z : Int} (h : in64 z) : chk z = (z, true) := by unfold chk; rw [if_pos h]
theorem chk_no {z : Int} (h : ¬ in64 z) : chk z = (0, false) := by unfold chk; rw [if_neg h]
def ok64 (l : List Int) : Prop := ∀ x ∈ l, in64 x
theorem ok64_wf {l : List Int} (h : ∀ x ∈ l, (Lit.int .i64 x).wf = true) : ok64 l := fun x hx => wf64.mp (h x hx)
theorem rd_mem {l : List Int} {i : Int} (h0 : 0 ≤ i) (h1 : i < (l.length : Int)) : rd l i ∈ l := by
 have : i.toNat < l.length := by omega
 unfold rd
 rw [List.getD_eq_getElem?_getD, List.getElem?_eq_getElem this]
 exact List.getElem_mem this
theorem ok64_rd {l : List Int} (h : ok64 l) {i : Int} (h0 : 0 ≤ i) (h1 : i < (l.length : Int)) : in64 (rd l i) := h _ (rd_mem h0 h1)
theorem drop_rd {l : List Int} {i : Int} (h0 : 0 ≤ i) (h1 : i < (l.length : Int)) : l.drop i.toNat = rd l i :: l.drop (i + 1).toNat := by
 have h2 : i.toNat < l.length := by omega
 have h3 : (i + 1).toNat = i.toNat + 1 := by omega
 have h4 := drop_cons_rd h2
 rw [h3, h4]
 congr 2
 omega
theorem drop_end {l : List Int} {i : Int} (h1 : (l.length : Int) ≤ i) : l.drop i.toNat = [] := List.drop_of_length_le (by omega)
def zipP (P : Int → Int → Bool) (op : Int → Int → Int) : List Int → List Int → List Int → List Int × Int
 | x :: a, y :: b, acc => if P x y = true then zipP P op a b (acc ++ [op x y]) else ([], 3)
 | _, _, acc => (acc, 0)
theorem each_zip {g : Int → Int → Option (Int × Bool)} {P : Int → Int → Bool} {op : Int → Int → Int} : ∀ (a b acc : List Int), (∀ x ∈ a, ∀ y ∈ b, g x y = some (if P x y = true then (op x y, true) else (0, false))) → each_go g a b acc = some (zipP P op a b acc)
 | x :: a, y :: b, acc, h => by
  rw [each_go, zipP, h x (by simp) y (by simp)]
  simp only [Option.bind_some]
  by_cases hp : P x y = true
  ·
   simp only [hp, if_true]
   exact each_zip a b _ (fun u hu v hv => h u (by simp [hu]) v (by simp [hv]))
  ·
   simp only [hp]
   simp
 | [], [], acc, _ => by simp [each_go, zipP]
 | [], _ :: _, acc, _ => by simp [each_go, zipP]
 | _ :: _, [], acc, _ => by simp [each_go, zipP]
def combP (i k x y : Int) : Bool := decide (in64 (x * i)) && decide (in64 (y * k)) && decide (in64 (x * i + y * k))
theorem chk_if (z : Int) : some (chk z) = some (if decide (in64 z) = true then (z, true) else (0, false)) := by
 unfold chk
 by_cases h : in64 z
 ·
  rw [if_pos h, if_pos (decide_eq_true h)]
 ·
  rw [if_neg h, if_neg (by simp [h])]
theorem comb_eq {i k x y : Int} (hi : in64 i) (hk : in64 k) (hx : in64 x) (hy : in64 y) : comb i k x y = some (if combP i k x y = true then (x * i + y * k, true) else (0, false)) := by
 unfold comb combP
 rw [mul_eq hx hi, mul_eq hy hk]
 by_cases h1 : in64 (x * i)
 ·
  rw [chk_ok h1]
  simp only [Option.bind_some, if_true]
  by_cases h2 : in64 (y * k)
  ·
   rw [chk_ok h2]
   simp only [if_true]
   rw [add_eq h1 h2, chk_if]
   simp [h1, h2]
  ·
   rw [chk_no h2]
   simp [h2]
 ·
  rw [chk_no h1]
  simp [h1]
theorem vcomb_eq {a b : List Int} {i k : Int} (ha : ok64 a) (hb : ok64 b) (hi : in64 i) (hk : in64 k) (hl : a.length ≤ 100) : vector_Combine.f a i b k = some (if a.length = b.length then zipP (combP i k) (fun x y => x * i + y * k) a b [] else ([], 2)) := by
 unfold vector_Combine.f each_f
 rw [if_pos (by omega)]
 split
 ·
  exact each_zip a b [] (fun x hx y hy => comb_eq hi hk (ha x hx) (hb y hy))
 ·
  rfl
def scaleP (k x _ : Int) : Bool := decide (in64 (x * k))
theorem vscale_eq {a : List Int} {k : Int} (ha : ok64 a) (hk : in64 k) (hl : a.length ≤ 100) : vector_Scale.f a k = some (zipP (scaleP k) (fun x _ => x * k) a a []) := by
 unfold vector_Scale.f each_f
 rw [if_pos (by omega), if_pos rfl]
 exact each_zip a a [] (fun x hx y hy => by rw [mul_eq (ha x hx) hk, chk_if]; rfl)
def dotG : List Int → List Int → Int → Int × Int
 | x :: a, y :: b, s => if in64 (x * y) then (if in64 (s + x * y) then dotG a b (s + x * y) else (0, 3)) else (0, 3)
 | _, _, s => (s, 0)
theorem vdot_l0 {a b : List Int} (ha : ok64 a) (hb : ok64 b) (hl : a.length ≤ 100) (he : a.length = b.length) :
  ∀ (d n : Nat) (j s : Int), 0 ≤ j → (a.length : Int) - j = d → d + 2 ≤ n → in64 s → vector_Dot.l0 n b s a (a.length : Int) j = some (dotG (a.drop j.toNat) (b.drop j.toNat) s) := by
 intro d
 induction d with
 | zero =>
  intro n j s h0 hd hn hs
  obtain ⟨n, rfl⟩ : ∃ m, n = m + 1 := ⟨n - 1, by omega⟩
  simp only [vector_Dot.l0]
  rw [if_neg (by omega), drop_end (by omega)]
  simp [dotG]
 | succ d ih =>
  intro n j s h0 hd hn hs
  obtain ⟨n, rfl⟩ : ∃ m, n = m + 1 + 1 := ⟨n - 2, by omega⟩
  have h1 : j < (a.length : Int) := by omega
  have h2 : j < (b.length : Int) := by omega
  have xa := ok64_rd ha h0 h1
  have xb := ok64_rd hb h0 h2
  rw [vector_Dot.l0, if_pos h1, if_pos h0, if_pos h1, if_pos h2, mul_eq xa xb]
  simp only [Option.bind_some]
  rw [drop_rd h0 h1, drop_rd h0 h2, dotG]
  by_cases e1 : in64 (rd a j * rd b j)
  ·
   rw [chk_ok e1, if_pos e1]
   simp only [if_true]
   rw [add_eq hs e1]
   simp only [Option.bind_some]
   by_cases e2 : in64 (s + rd a j * rd b j)
   ·
    rw [chk_ok e2, if_pos e2]
    simp only [if_true]
    rw [wrap64_id ⟨by omega, by omega⟩, ih (n + 1) (j + 1) _ (by omega) (by omega) (by omega) e2]
   ·
    rw [chk_no e2, if_neg e2]
    simp
  ·
   rw [chk_no e1, if_neg e1]
   simp
theorem vdot_eq {a b : List Int} (ha : ok64 a) (hb : ok64 b) (hl : a.length ≤ 100) (n : Nat) (hn : 102 ≤ n) : vector_Dot.f n a b = some (if a.length = b.length then dotG a b 0 else (0, 2)) := by
 unfold vector_Dot.f
 by_cases h : a.length = b.length
 ·
  rw [if_pos (by omega), if_pos h, vdot_l0 ha hb hl h a.length n 0 0 (by omega) (by omega) (by omega) ⟨by decide, by decide⟩]
  simp
 ·
  rw [if_neg (by omega), if_neg h]
def gcdL : List Int → Int → Int
 | [], g => g
 | x :: a, g => gcdL a (Int.gcd g x : Int)
theorem gcdL_nonneg : ∀ (a : List Int) (g : Int), 0 ≤ g → 0 ≤ gcdL a g
 | [], _, h => h
 | _ :: a, _, _ => gcdL_nonneg a _ (by omega)
def least : Int := -9223372036854775808
theorem gcd_le_right {g x : Int} (hx : x ≠ 0) : (Int.gcd g x : Int) ≤ (x.natAbs : Int) := by
 have := Nat.gcd_le_right (n := x.natAbs) g.natAbs (by omega)
 show ((Nat.gcd g.natAbs x.natAbs : Nat) : Int) ≤ _
 omega
theorem gcd_bound {g x : Int} (hg : 0 ≤ g) (hg' : g ≤ 9223372036854775807) (hx : in64 x) (hl : x ≠ least) : (Int.gcd g x : Int) ≤ 9223372036854775807 := by
 unfold in64 at hx
 unfold least at hl
 by_cases h : x = 0
 ·
  subst h
  simp
  omega
 ·
  have := gcd_le_right (g := g) h
  omega
def primG (a : List Int) : List Int × Int := if least ∈ a then ([], 3) else (a.map fun x => if gcdL a 0 > 0 then Int.tdiv x (gcdL a 0) else 0, 0)
theorem rd_take_all {l : List Int} {f : Int → Int} {j : Nat} (h : j < l.length) : (l.map f).take (j + 1) = (l.map f).take j ++ [f (rd l j)] := by
 rw [List.take_succ_eq_append_getElem (by simpa using h)]
 simp [rd, List.getD_eq_getElem?_getD, h]
theorem tdiv_in {x g : Int} (hx : in64 x) (hg : 0 < g) : in64 (Int.tdiv x g) := by
 unfold in64 at *
 have h : (Int.tdiv x g).natAbs = x.natAbs / g.natAbs := Int.natAbs_tdiv x g
 have h1 : x.natAbs / g.natAbs ≤ x.natAbs := Nat.div_le_self _ _
 by_cases h2 : 0 ≤ x
 ·
  have := Int.tdiv_nonneg h2 (Int.le_of_lt hg)
  omega
 ·
  have h3 : Int.tdiv x g ≤ 0 := by
   have := Int.neg_tdiv x g
   have h4 := Int.tdiv_nonneg (a := -x) (b := g) (by omega) (Int.le_of_lt hg)
   omega
  omega
theorem vprim_l1 {a : List Int} {g : Int} (ha : ok64 a) (hl : a.length ≤ 1000000) :
  ∀ (d n : Nat) (j : Nat), (a.length : Int) - j = d → d + 2 ≤ n → vector_Prim.l1 n g ((a.map fun x => if g > 0 then Int.tdiv x g else 0).take j ++ List.replicate (a.length - j) 0) a (a.length : Int) j = some (a.map fun x => if g > 0 then Int.tdiv x g else 0, 0) := by
 intro d
 induction d with
 | zero =>
  intro n j hd hn
  obtain ⟨n, rfl⟩ : ∃ m, n = m + 1 := ⟨n - 1, by omega⟩
  simp only [vector_Prim.l1]
  rw [if_neg (by omega), List.take_of_length_le (by simp; omega), show a.length - j = 0 by omega]
  simp
 | succ d ih =>
  intro n j hd hn
  obtain ⟨n, rfl⟩ : ∃ m, n = m + 1 + 1 := ⟨n - 2, by omega⟩
  have h1 : (j : Int) < (a.length : Int) := by omega
  have ht := rd_take_all (l := a) (f := fun x => if g > 0 then Int.tdiv x g else 0) (j := j) (by omega)
  have hw : wrap64 ((j : Int) + 1) = ((j + 1 : Nat) : Int) := by rw [wrap64_id ⟨by omega, by omega⟩]; omega
  have hr : a.length - j = (a.length - (j + 1)) + 1 := by omega
  have hlen : ((a.map fun x => if g > 0 then Int.tdiv x g else 0).take j).length = j := by simp; omega
  rw [vector_Prim.l1, if_pos h1, if_pos (by omega), if_pos h1]
  by_cases hp : g > 0
  ·
   rw [if_pos hp, if_neg (by omega), if_pos (by simp; omega), hw]
   have hs := set_zeros (acc := (a.map fun x => if g > 0 then Int.tdiv x g else 0).take j) (m := a.length - (j + 1)) (Int.tdiv (rd a j) g)
   rw [hlen] at hs
   rw [wrap64_id (tdiv_in (ok64_rd ha (by omega) h1) hp), show ((j : Int)).toNat = j by omega, hr, hs]
   have := ih (n + 1) (j + 1) (by omega) (by omega)
   rw [ht] at this
   simp only [if_pos hp] at this ⊢
   exact this
  ·
   rw [if_neg hp, hw]
   have := ih (n + 1) (j + 1) (by omega) (by omega)
   rw [ht] at this
   rw [hr, List.replicate_succ]
   simp only [if_neg hp] at this ⊢
   simpa using this
theorem vprim_l0 {a : List Int} (ha : ok64 a) (hl : a.length ≤ 1000000) :
  ∀ (d n : Nat) (j g : Int), 0 ≤ j → (a.length : Int) - j = d → d + a.length + 4 ≤ n → 0 ≤ g → g ≤ 9223372036854775807 →
   vector_Prim.l0 n a g a (a.length : Int) j = some (if least ∈ a.drop j.toNat then ([], 3) else (a.map fun x => if gcdL (a.drop j.toNat) g > 0 then Int.tdiv x (gcdL (a.drop j.toNat) g) else 0, 0)) := by
 intro d
 induction d with
 | zero =>
  intro n j g h0 hd hn hg hg'
  obtain ⟨n, rfl⟩ : ∃ m, n = m + 1 := ⟨n - 1, by omega⟩
  simp only [vector_Prim.l0]
  rw [if_neg (by omega), drop_end (by omega), if_pos (by omega), if_pos (by omega)]
  have := vprim_l1 (g := g) ha hl a.length n 0 (by omega) (by omega)
  simp only [List.take_zero, List.nil_append, Nat.sub_zero] at this
  simp only [gcdL, List.not_mem_nil, if_false]
  rw [show ((a.length : Int) : Int).toNat = a.length by omega]
  exact this
 | succ d ih =>
  intro n j g h0 hd hn hg hg'
  obtain ⟨n, rfl⟩ : ∃ m, n = m + 1 + 1 := ⟨n - 2, by omega⟩
  have h1 : j < (a.length : Int) := by omega
  have hx := ok64_rd ha h0 h1
  rw [vector_Prim.l0, if_pos h1, if_pos h0, if_pos h1, drop_rd h0 h1]
  by_cases e : rd a j = -9223372036854775808
  ·
   rw [if_pos e, if_pos (by rw [e]; simp [least])]
  ·
   rw [if_neg e]
   have hb := gcd_bound hg hg' hx e
   have hgc : safeint_Gcd.f g (rd a j) = some ((Int.gcd g (rd a j) : Int), true) := by
    unfold safeint_Gcd.f
    rw [if_pos ⟨⟨by omega, hg'⟩, hx⟩, if_pos hb]
   rw [hgc]
   simp only [Option.bind_some]
   rw [wrap64_id ⟨by omega, by omega⟩, ih (n + 1) (j + 1) _ (by omega) (by omega) (by omega) (by omega) hb]
   have e' : ¬ least = rd a j := fun h => e h.symm
   simp only [List.mem_cons, e', false_or, gcdL]
   rfl
theorem vprim_eq {a : List Int} (ha : ok64 a) (hl : a.length ≤ 1000000) (n : Nat) (hn : 2 * a.length + 4 ≤ n) : vector_Prim.f n a = some (primG a) := by
 unfold vector_Prim.f primG
 rw [vprim_l0 ha hl a.length n 0 0 (by omega) (by omega) (by omega) (by omega) (by omega)]
 simp
theorem abs_mul_le {x y m n : Int} (hx : -m ≤ x ∧ x ≤ m) (hy : -n ≤ y ∧ y ≤ n) (hm : 0 ≤ m) (hn : 0 ≤ n) : -(m * n) ≤ x * y ∧ x * y ≤ m * n := by
 have h : (x * y).natAbs ≤ (m * n).natAbs := by
  rw [Int.natAbs_mul, Int.natAbs_mul]
  exact Nat.mul_le_mul (by omega) (by omega)
 have := Int.mul_nonneg hm hn
 omega
theorem zip_all {P : Int → Int → Bool} {op : Int → Int → Int} : ∀ (a b acc : List Int), (∀ x ∈ a, ∀ y ∈ b, P x y = true) → zipP P op a b acc = (acc ++ List.zipWith op a b, 0)
 | x :: a, y :: b, acc, h => by
  rw [zipP, if_pos (h x (by simp) y (by simp)), zip_all a b _ (fun u hu v hv => h u (by simp [hu]) v (by simp [hv]))]
  simp
 | [], [], acc, _ => by simp [zipP]
 | [], _ :: _, acc, _ => by simp [zipP]
 | _ :: _, [], acc, _ => by simp [zipP]
theorem zipWith_mem {op : Int → Int → Int} {z : Int} : ∀ {a b : List Int}, z ∈ List.zipWith op a b → ∃ x ∈ a, ∃ y ∈ b, z = op x y
 | x :: a, y :: b, h => by
  rw [List.zipWith_cons_cons, List.mem_cons] at h
  rcases h with h | h
  ·
   exact ⟨x, by simp, y, by simp, h⟩
  ·
   obtain ⟨u, hu, v, hv, e⟩ := zipWith_mem h
   exact ⟨u, by simp [hu], v, by simp [hv], e⟩
 | [], [], h => by simp at h
 | [], _ :: _, h => by simp at h
 | _ :: _, [], h => by simp at h
theorem rd_zip {op : Int → Int → Int} : ∀ {a b : List Int} {j : Int}, 0 ≤ j → j < (a.length : Int) → j < (b.length : Int) → rd (List.zipWith op a b) j = op (rd a j) (rd b j) := by
 intro a b j h0 h1 h2
 have g1 : j.toNat < a.length := by omega
 have g2 : j.toNat < b.length := by omega
 simp [rd, List.getD_eq_getElem?_getD, List.getElem?_zipWith, g1, g2]
theorem gcdL_dvd : ∀ (a : List Int) (s : Int), gcdL a s ∣ s ∧ ∀ x ∈ a, gcdL a s ∣ x
 | [], s => ⟨Int.dvd_refl s, fun x hx => by simp at hx⟩
 | y :: a, s => by
  obtain ⟨h1, h2⟩ := gcdL_dvd a (Int.gcd s y : Int)
  have hl : (Int.gcd s y : Int) ∣ s := Int.gcd_dvd_left ..
  have hr : (Int.gcd s y : Int) ∣ y := Int.gcd_dvd_right ..
  refine ⟨Int.dvd_trans h1 hl, fun x hx => ?_⟩
  rcases List.mem_cons.1 hx with rfl | hx
  ·
   exact Int.dvd_trans h1 hr
  ·
   exact h2 x hx
theorem gcdL_zero : ∀ p : List Int, (∀ x ∈ p, x = 0) → gcdL p 0 = 0
 | [], _ => rfl
 | x :: p, h => by
  have hx := h x (by simp)
  subst hx
  exact gcdL_zero p (fun y hy => h y (by simp [hy]))
/-! chk add_eq mul_eq chk_in chk_ok chk_no ok64 ok64_wf ok64_rd rd_mem zipP each_zip combP comb_eq vcomb_eq scaleP vscale_eq dotG vdot_eq gcdL gcdL_nonneg gcdL_dvd gcdL_zero least primG tdiv_in vprim_eq zip_all zipWith_mem rd_zip abs_mul_le -/
end Go.Proofs.Ytckefohfahphpaa.Z
end
section
namespace Go.Proofs.Ytckefohfahphpaa.Z
open Go.RowKit Go.Proofs.YtckefohfahphpaaW.PrintWords Go.Proofs.YtckefohfahphpaaW.PrintLast Go.Proofs.YtckefohfahphpaaW.PrintMore
set_option linter.unusedVariables false
set_option linter.unusedSimpArgs false
def vs (T : Nat → Vc) (m : Nat) : List Vc := (List.range m).map T
theorem mem_vs {T : Nat → Vc} {m : Nat} {v : Vc} : v ∈ vs T m ↔ ∃ i, i < m ∧ T i = v := by simp [vs]
theorem vs_of {T : Nat → Vc} {m i : Nat} (h : i < m) : T i ∈ vs T m := mem_vs.mpr ⟨i, h, rfl⟩
/-- A stage of elimination: the first k rows have pivots p, the columns before c are done. -/
structure Stg (A : List Vc) (m : Nat) (T : Nat → Vc) (k : Nat) (p : Nat → Nat) (c : Nat) : Prop where
 km : k ≤ m
 up : ∀ i, i < m → Sp A (T i)
 dn : ∀ v ∈ A, Sp (vs T m) v
 inc : ∀ i j, i < j → j < k → p i < p j
 lt : ∀ i, i < k → p i < c
 nz : ∀ i, i < k → T i (p i) ≠ 0
 zr : ∀ i, i < m → ∀ j, j < k → i ≠ j → T i (p j) = 0
 ld : ∀ i, i < k → ∀ x, x < p i → T i x = 0
 lo : ∀ i, k ≤ i → i < m → ∀ x, x < c → T i x = 0
 pr : ∀ i, i < k → Prm (T i)
/-- What one column's turn does to the rows. -/
structure Stp (m k q c : Nat) (T U : Nat → Vc) : Prop where
 qk : k ≤ q
 qm : q < m
 nq : T q c ≠ 0
 piv : ∃ a g : Int, a ≠ 0 ∧ g ≠ 0 ∧ ∀ x, g * U k x = a * T q x
 prm : Prm (U k)
 oth : ∀ i, i < m → i ≠ k → ∃ a b g : Int, a ≠ 0 ∧ g ≠ 0 ∧ ∀ x, g * U i x = a * T (if i = q then k else i) x + b * U k x
 clr : ∀ i, i < m → i ≠ k → U i c = 0
 hold : ∀ i, i < m → i ≠ k → (∀ x, U i x = T (if i = q then k else i) x) ∨ Prm (U i) ∨ ∀ x, U i x = 0
theorem zero_of_mul {g y : Int} (hg : g ≠ 0) (h : g * y = 0) : y = 0 := (Int.mul_eq_zero.mp h).resolve_left hg
theorem Sp.from {A : List Vc} {u v w : Vc} {a b g : Int} (hg : g ≠ 0) (e : ∀ x, g * u x = a * v x + b * w x) (hv : Sp A v) (hw : Sp A w) : Sp A u :=
 Sp.div g hg ((Sp.comb a b hv hw).eq fun x => (e x).symm)
theorem Stp.swap {m k q c : Nat} {T U : Nat → Vc} (h : Stp m k q c T U) {j : Nat} (hj : j < m) (hq : j ≠ q) : ∃ i, i < m ∧ i ≠ k ∧ (if i = q then k else i) = j ∧ (j < k → i = j) := by
 have := h.qk
 have := h.qm
 by_cases hjk : j = k
 ·
  exact ⟨q, h.qm, by omega, by rw [if_pos rfl]; omega, by omega⟩
 ·
  exact ⟨j, hj, hjk, by rw [if_neg hq], fun _ => rfl⟩
theorem Stp.back {m k q c : Nat} {T U : Nat → Vc} (h : Stp m k q c T U) (B : List Vc) (hk : Sp B (U k)) {i : Nat} (hi : i < m) (hik : i ≠ k) (hB : Sp B (U i)) : Sp B (T (if i = q then k else i)) := by
 obtain ⟨a, b, g, ha, hg, e⟩ := h.oth i hi hik
 exact Sp.from (a := g) (b := -b) ha (fun x => by rw [e x]; grind) hB hk
theorem Stp.backq {m k q c : Nat} {T U : Nat → Vc} (h : Stp m k q c T U) (B : List Vc) (hk : Sp B (U k)) : Sp B (T q) := by
 obtain ⟨a, g, ha, hg, e⟩ := h.piv
 exact Sp.from (a := g) (b := 0) (w := U k) ha (fun x => by rw [← e x]; simp) hk hk
theorem Stg.ukz {A : List Vc} {m k c q : Nat} {T U : Nat → Vc} {p : Nat → Nat} (h : Stg A m T k p c) (s : Stp m k q c T U) : (∀ x, x < c → U k x = 0) ∧ (∀ j, j < k → U k (p j) = 0) ∧ U k c ≠ 0 := by
 obtain ⟨a, g, ha, hg, e⟩ := s.piv
 have := s.qk
 refine ⟨fun x hx => zero_of_mul hg ?_, fun j hj => zero_of_mul hg ?_, fun h0 => ?_⟩
 ·
  rw [e x, h.lo q s.qk s.qm x hx]; simp
 ·
  rw [e _, h.zr q s.qm j hj (by omega)]; simp
 ·
  have := e c
  rw [h0, Int.mul_zero] at this
  exact s.nq (zero_of_mul ha this.symm)
theorem Stg.step {A : List Vc} {m k c q : Nat} {T U : Nat → Vc} {p : Nat → Nat} (h : Stg A m T k p c) (s : Stp m k q c T U) : Stg A m U (k + 1) (fun i => if i = k then c else p i) (c + 1) := by
 have hqk := s.qk
 have hqm := s.qm
 obtain ⟨uz, up, uc⟩ := h.ukz s
 have hnz : ∀ i, i < k → U i (p i) ≠ 0 := fun i hi => by
  obtain ⟨a, b, g, ha, hg, e⟩ := s.oth i (by omega) (by omega)
  intro h0
  have := e (p i)
  rw [h0, if_neg (by omega), up i (by omega), Int.mul_zero, Int.mul_zero, Int.add_zero] at this
  exact h.nz i (by omega) (zero_of_mul ha this.symm)
 refine ⟨by omega, fun i hi => ?_, fun v hv => ?_, fun i j hij hj => ?_, fun i hi => ?_, fun i hi => ?_, fun i hi j hj hij => ?_, fun i hi x hx => ?_, fun i hki hi x hx => ?_, fun i hi => ?_⟩
 ·
  have hk : Sp A (U k) := by
   obtain ⟨a, g, ha, hg, e⟩ := s.piv
   exact Sp.from (a := a) (b := 0) (w := T q) hg (fun x => by rw [e x]; simp) (h.up q hqm) (h.up q hqm)
  by_cases hik : i = k
  ·
   rw [hik]; exact hk
  ·
   obtain ⟨a, b, g, ha, hg, e⟩ := s.oth i hi hik
   exact Sp.from hg e (h.up _ (by split <;> omega)) hk
 ·
  refine (h.dn v hv).sub fun a ha => ?_
  obtain ⟨j, hj, rfl⟩ := mem_vs.mp ha
  have hk : Sp (vs U m) (U k) := .mem (vs_of (by omega))
  by_cases hjq : j = q
  ·
   rw [hjq]; exact s.backq _ hk
  ·
   obtain ⟨i, hi, hik, he, _⟩ := s.swap hj hjq
   have := s.back _ hk hi hik (.mem (vs_of hi))
   rwa [he] at this
 ·
  by_cases hjk : j = k
  ·
   simp only [hjk, if_true]; rw [if_neg (by omega)]; exact h.lt i (by omega)
  ·
   simp only [hjk, if_false]; rw [if_neg (by omega)]; exact h.inc i j hij (by omega)
 ·
  by_cases hik : i = k
  ·
   simp only [hik, if_true]; omega
  ·
   simp only [hik, if_false]; have := h.lt i (by omega); omega
 ·
  by_cases hik : i = k
  ·
   simp only [hik, if_true]; exact uc
  ·
   simp only [hik, if_false]
   exact hnz i (by omega)
 ·
  by_cases hjk : j = k
  ·
   simp only [hjk, if_true]; exact s.clr i hi (by omega)
  ·
   simp only [hjk, if_false]
   by_cases hik : i = k
   ·
    rw [hik]; exact up j (by omega)
   ·
    obtain ⟨a, b, g, ha, hg, e⟩ := s.oth i hi hik
    refine zero_of_mul hg ?_
    rw [e, up j (by omega), h.zr _ (by split <;> omega) j (by omega) (by split <;> omega)]
    simp
 ·
  by_cases hik : i = k
  ·
   simp only [hik, if_true] at hx ⊢; exact uz x hx
  ·
   simp only [hik, if_false] at hx ⊢
   obtain ⟨a, b, g, ha, hg, e⟩ := s.oth i (by omega) hik
   refine zero_of_mul hg ?_
   have := h.lt i (by omega)
   rw [e, uz x (by omega), if_neg (by omega), h.ld i (by omega) x hx]
   simp
 ·
  by_cases hxc : x = c
  ·
   rw [hxc]; exact s.clr i hi (by omega)
  ·
   obtain ⟨a, b, g, ha, hg, e⟩ := s.oth i hi (by omega)
   refine zero_of_mul hg ?_
   rw [e, uz x (by omega), h.lo _ (by split <;> omega) (by split <;> omega) x (by omega)]
   simp
 ·
  by_cases hik : i = k
  ·
   rw [hik]; exact s.prm
  ·
   rcases s.hold i (by omega) hik with h1 | h1 | h1
   ·
    rw [if_neg (by omega)] at h1
    rw [funext h1]
    exact h.pr i (by omega)
   ·
    exact h1
   ·
    exact absurd (h1 _) (hnz i (by omega))
theorem Stg.skip {A : List Vc} {m k c : Nat} {T : Nat → Vc} {p : Nat → Nat} (h : Stg A m T k p c) (h0 : ∀ i, k ≤ i → i < m → T i c = 0) : Stg A m T k p (c + 1) :=
 ⟨h.km, h.up, h.dn, h.inc, fun i hi => by have := h.lt i hi; omega, h.nz, h.zr, h.ld, fun i h1 h2 x hx => by
  by_cases e : x = c
  ·
   rw [e]; exact h0 i h1 h2
  ·
   exact h.lo i h1 h2 x (by omega), h.pr⟩
theorem Stg.start (T : Nat → Vc) (m : Nat) (p : Nat → Nat) : Stg (vs T m) m T 0 p 0 :=
 ⟨Nat.zero_le _, fun i hi => .mem (vs_of hi), fun v hv => .mem hv, fun i j _ h => by omega, fun i h => by omega, fun i h => by omega, fun i _ j h => by omega, fun i h => by omega, fun i _ _ x h => by omega, fun i h => by omega⟩
def pairs (T : Nat → Vc) (p : Nat → Nat) (k : Nat) : List (Nat × Vc) := (List.range k).map fun i => (p i, T i)
theorem mem_pairs {T : Nat → Vc} {p : Nat → Nat} {k : Nat} {e : Nat × Vc} : e ∈ pairs T p k ↔ ∃ i, i < k ∧ (p i, T i) = e := by simp [pairs]
theorem rowsOf_pairs (T : Nat → Vc) (p : Nat → Nat) (k : Nat) : rowsOf (pairs T p k) = vs T k := by simp [rowsOf, pairs, vs]
theorem pw_range {P : Nat → Nat → Prop} (k : Nat) (h : ∀ i j, i < j → j < k → P i j) : (List.range k).Pairwise P := by
 have := List.pairwise_lt_range (n := k)
 refine List.Pairwise.imp_of_mem ?_ this
 intro a b _ hb hab
 exact h a b hab (List.mem_range.mp hb)
theorem Stg.piv {A : List Vc} {m k c : Nat} {T : Nat → Vc} {p : Nat → Nat} (h : Stg A m T k p c) : Piv (pairs T p k) := by
 have := h.km
 refine ⟨fun e he => ?_, ?_⟩
 ·
  obtain ⟨i, hi, rfl⟩ := mem_pairs.mp he
  exact h.nz i hi
 ·
  exact List.pairwise_map.mpr (pw_range k fun i j hij hj => ⟨h.zr i (by omega) j hj (by omega), h.zr j (by omega) i (by omega) (by omega)⟩)
theorem Stg.red {A : List Vc} {m k c : Nat} {T : Nat → Vc} {p : Nat → Nat} (h : Stg A m T k p c) : Red (pairs T p k) := by
 refine ⟨h.piv, fun e he => ?_, ?_⟩
 ·
  obtain ⟨i, hi, rfl⟩ := mem_pairs.mp he
  exact h.ld i hi
 ·
  exact List.pairwise_map.mpr (pw_range k fun i j hij hj => h.inc i j hij hj)
/-- Behind the last column (or the last row) the rows with pivots span what the given rows span. -/
theorem Stg.full {A : List Vc} {m k c : Nat} {T : Nat → Vc} {p : Nat → Nat} (h : Stg A m T k p c) (hd : k = m ∨ ∀ i, k ≤ i → i < m → ∀ x, T i x = 0) : ∀ v ∈ A, Sp (vs T k) v := by
 intro v hv
 refine (h.dn v hv).sub fun a ha => ?_
 obtain ⟨i, hi, rfl⟩ := mem_vs.mp ha
 by_cases hik : i < k
 ·
  exact .mem (vs_of hik)
 ·
  rcases hd with hd | hd
  ·
   omega
  ·
   exact Sp.zero.eq fun x => (hd i (by omega) hi x).symm
theorem Stg.only {A : List Vc} {m k c : Nat} {T : Nat → Vc} {p : Nat → Nat} (h : Stg A m T k p c) {v : Vc} (hv : Sp (vs T k) v) (h0 : ∀ i, i < k → v (p i) = 0) (x : Nat) : v x = 0 := by
 refine h.piv.only (v := v) (by rw [rowsOf_pairs]; exact hv) (fun e he => ?_) x
 obtain ⟨i, hi, rfl⟩ := mem_pairs.mp he
 exact h0 i hi
/-- What bounds the rows: minors of the given rows. -/
structure Bnd (A : List Vc) (m : Nat) (T : Nat → Vc) (k : Nat) (p : Nat → Nat) (R : List Vc) (C : List Nat) : Prop where
 rl : R.length = k
 cl : C.length = k
 cp : ∀ x, x ∈ C ↔ ∃ i, i < k ∧ p i = x
 ra : ∀ r ∈ R, r ∈ A
 rt : ∀ r ∈ R, Sp (vs T k) r
 dt : det R C ≠ 0
 lo : ∀ i, k ≤ i → i < m → (T i ∈ A ∨ Prm (T i) ∨ ∀ x, T i x = 0) ∧ ∃ b ∈ A, ∃ a g : Int, a ≠ 0 ∧ g ≠ 0 ∧ Sp R fun x => g * T i x - a * b x
theorem Bnd.start (T : Nat → Vc) (m : Nat) (p : Nat → Nat) : Bnd (vs T m) m T 0 p [] [] :=
 ⟨rfl, rfl, fun x => ⟨fun h => by simp at h, fun ⟨i, hi, _⟩ => by omega⟩, fun r h => by simp at h, fun r h => by simp at h, by decide, fun i _ hi => ⟨.inl (vs_of hi), T i, vs_of hi, 1, 1, by decide, by decide, Sp.zero.eq fun x => by simp⟩⟩
theorem Bnd.minor {A : List Vc} {m k c : Nat} {T : Nat → Vc} {p : Nat → Nat} {R : List Vc} {C : List Nat} (h : Stg A m T k p c) (b : Bnd A m T k p R C) {i : Nat} (h1 : k ≤ i) (h2 : i < m) {v : Vc} {a g : Int} (hv : Sp R fun x => g * T i x - a * v x) (x : Nat) :
  a * det (v :: R) (x :: C) = (det R C * g) * T i x := by
 have hs : Sp (vs T k) fun x => a * (det (v :: R) (x :: C) - det R C * v x) + (-det R C) * (g * T i x - a * v x) := .comb _ _ ((det_head v R C).sub b.rt) (hv.sub b.rt)
 have := h.only hs (fun j hj => by
  rw [det_same _ ((b.cp _).mpr ⟨j, hj, rfl⟩), h.zr i h2 j hj (by omega)]
  grind) x
 grind
theorem Bnd.cramer {A : List Vc} {m k c : Nat} {T : Nat → Vc} {p : Nat → Nat} {R : List Vc} {C : List Nat} (h : Stg A m T k p c) (b : Bnd A m T k p R C) {i : Nat} (hi : i < k) : ∃ (v : Vc) (D : Int), (∃ C' : List Nat, C'.length + 1 = k ∧ ∀ x, v x = det R (x :: C')) ∧ D.natAbs = (det R C).natAbs ∧ D ≠ 0 ∧ ∀ x, T i (p i) * v x = D * T i x := by
 obtain ⟨P, Q, hC⟩ := List.append_of_mem ((b.cp (p i)).mpr ⟨i, hi, rfl⟩)
 have hmv := det_move R (p i) P Q []
 simp only [List.nil_append] at hmv
 have hD : (det R (p i :: (P ++ Q))).natAbs = (det R C).natAbs := by rw [hC, hmv]
 have hdt := b.dt
 have hcl := b.cl
 have hkm := h.km
 refine ⟨fun x => det R (x :: (P ++ Q)), det R (p i :: (P ++ Q)), ⟨P ++ Q, by rw [hC] at hcl; simp at hcl ⊢; omega, fun x => rfl⟩, hD, by omega, fun x => ?_⟩
 have hs : Sp (vs T k) fun x => T i (p i) * det R (x :: (P ++ Q)) + (-det R (p i :: (P ++ Q))) * T i x := .comb _ _ ((det_span R (P ++ Q)).sub b.rt) (.mem (vs_of hi))
 have := h.only hs (fun j hj => by
  by_cases hji : j = i
  ·
   rw [hji]; grind
  ·
   have hpn : p j ≠ p i := by
    rcases Nat.lt_or_gt_of_ne hji with e | e
    ·
     have := h.inc j i e hi; omega
    ·
     have := h.inc i j e hj; omega
   have hm : p j ∈ P ++ Q := by
    have := (b.cp (p j)).mpr ⟨j, hj, rfl⟩
    rw [hC] at this
    simp at this ⊢
    rcases this with e | e | e
    ·
     exact .inl e
    ·
     exact absurd e hpn
    ·
     exact .inr e
   rw [det_same _ hm, h.zr i (by omega) j hj (fun z => hji z.symm)]
   simp) x
 grind
theorem Bnd.step {A : List Vc} {m k c q : Nat} {T U : Nat → Vc} {p : Nat → Nat} {R : List Vc} {C : List Nat} (h : Stg A m T k p c) (b : Bnd A m T k p R C) (s : Stp m k q c T U) : ∃ R' C', Bnd A m U (k + 1) (fun i => if i = k then c else p i) R' C' := by
 have hqk := s.qk
 have hqm := s.qm
 obtain ⟨hq, v, hvA, a, g, ha, hg, hv⟩ := b.lo q hqk hqm
 have hsub : ∀ r ∈ R, r ∈ v :: R := fun r hr => List.mem_cons_of_mem _ hr
 have hUk : Sp (v :: R) (U k) := by
  obtain ⟨a', g', ha', hg', e'⟩ := s.piv
  have hTq : Sp (v :: R) (T q) := Sp.from (a := 1) (b := a) (w := v) hg (fun x => by grind) (hv.mono hsub) (.mem List.mem_cons_self)
  exact Sp.from (a := a') (b := 0) (w := T q) hg' (fun x => by rw [e' x]; simp) hTq hTq
 have hk1 : Sp (vs U (k + 1)) (U k) := .mem (vs_of (by omega))
 have hTi : ∀ i, i < k → Sp (vs U (k + 1)) (T i) := fun i hi => by
  have := s.back _ hk1 (i := i) (by omega) (by omega) (.mem (vs_of (by omega)))
  rwa [if_neg (by omega)] at this
 have hRU : ∀ r ∈ R, Sp (vs U (k + 1)) r := fun r hr => (b.rt r hr).sub fun z hz => by
  obtain ⟨i, hi, rfl⟩ := mem_vs.mp hz
  exact hTi i hi
 refine ⟨v :: R, c :: C, by simp [b.rl], by simp [b.cl], fun x => ?_, fun r hr => ?_, fun r hr => ?_, ?_, fun i hki hi => ?_⟩
 ·
  rw [List.mem_cons, b.cp]
  constructor
  ·
   rintro (rfl | ⟨i, hi, rfl⟩)
   ·
    exact ⟨k, by omega, by simp⟩
   ·
    exact ⟨i, by omega, if_neg (by omega)⟩
  ·
   rintro ⟨i, hi, rfl⟩
   by_cases hik : i = k
   ·
    left; simp [hik]
   ·
    right; exact ⟨i, by omega, by simp [hik]⟩
 ·
  rcases List.mem_cons.mp hr with rfl | hr
  ·
   exact hvA
  ·
   exact b.ra r hr
 ·
  rcases List.mem_cons.mp hr with rfl | hr
  ·
   exact Sp.from (a := g) (b := -1) (v := T q) ha (fun x => by grind) (s.backq _ hk1) (hv.sub hRU)
  ·
   exact hRU r hr
 ·
  intro h0
  have := b.minor h hqk hqm hv c
  rw [h0, Int.mul_zero] at this
  exact s.nq (zero_of_mul (Int.mul_ne_zero b.dt hg) this.symm)
 ·
  obtain ⟨a', b', g', ha', hg', e'⟩ := s.oth i hi (by omega)
  obtain ⟨h1, v1, hv1, a1, g1, ha1, hg1, hs1⟩ := b.lo (if i = q then k else i) (by split <;> omega) (by split <;> omega)
  refine ⟨?_, v1, hv1, a' * a1, g1 * g', Int.mul_ne_zero ha' ha1, Int.mul_ne_zero hg1 hg', ?_⟩
  ·
   rcases s.hold i hi (by omega) with h2 | h2
   ·
    rw [funext h2]; exact h1
   ·
    exact .inr h2
  ·
   refine (Sp.comb a' (g1 * b') (hs1.mono hsub) hUk).eq fun x => ?_
   have := e' x
   grind
theorem Bnd.skip {A : List Vc} {m k c : Nat} {T : Nat → Vc} {p : Nat → Nat} {R : List Vc} {C : List Nat} (h : Stg A m T k p c) (b : Bnd A m T k p R C) (hm : m ≤ 8) (hA : ∀ r ∈ A, ∀ x, (r x).natAbs ≤ 3) : ∀ i, i < m → ∀ x, (T i x).natAbs ≤ hb 8 := by
 intro i hi x
 have h8 : 3 ≤ hb 8 := by rw [hb8]; decide
 by_cases hik : i < k
 ·
  obtain ⟨v, D, ⟨C', hl, hv⟩, _, hD, e⟩ := b.cramer h hik
  have h1 := (h.pr i hik).bound (h.nz i hik) hD e x
  have h2 := det_bound R (x :: C') (fun r hr => hA r (b.ra r hr)) (by simp [b.rl, hl])
  rw [← hv] at h2
  have h3 := hb_mono (n := R.length) (m := 8) (by rw [b.rl]; have := h.km; omega)
  omega
 ·
  obtain ⟨h1, v, hvA, a, g, ha, hg, hs⟩ := b.lo i (by omega) hi
  rcases h1 with h1 | h1 | h1
  ·
   have := hA _ h1 x; omega
  ·
   have h2 := h1.bound (v := fun x => det (v :: R) (x :: C)) ha (Int.mul_ne_zero b.dt hg) (fun x => b.minor h (by omega) hi hs x) x
   have h3 := det_bound (v :: R) (x :: C) (fun r hr => by
    rcases List.mem_cons.mp hr with rfl | hr
    ·
     exact hA _ hvA
    ·
     exact hA r (b.ra r hr)) (by simp [b.rl, b.cl])
   have h4 := hb_mono (n := (v :: R).length) (m := 8) (by simp [b.rl]; omega)
   omega
  ·
   rw [h1 x]; simp
/-- The outcome: a reduced form of what is spanned, each row without a common divisor and with a positive pivot. -/
structure Fnl (A : List Vc) (T : Nat → Vc) (k : Nat) (p : Nat → Nat) : Prop where
 red : Red (pairs T p k)
 up : ∀ i, i < k → Sp A (T i)
 dn : ∀ v ∈ A, Sp (vs T k) v
 pr : ∀ i, i < k → Prm (T i) ∧ 0 < T i (p i)
theorem Stg.fnl {A : List Vc} {m k c : Nat} {T : Nat → Vc} {p : Nat → Nat} (h : Stg A m T k p c) (hd : k = m ∨ ∀ i, k ≤ i → i < m → ∀ x, T i x = 0) (hp : ∀ i, i < k → 0 < T i (p i)) : Fnl A T k p :=
 ⟨h.red, fun i hi => h.up i (by have := h.km; omega), h.full hd, fun i hi => ⟨h.pr i hi, hp i hi⟩⟩
theorem Fnl.cols {A A' : List Vc} {T T' : Nat → Vc} {k k' : Nat} {p p' : Nat → Nat} (h : Fnl A T k p) (h' : Fnl A' T' k' p') (hs : ∀ v ∈ A, Sp A' v) : ∀ i, i < k → ∃ j, j < k' ∧ p' j = p i := by
 intro i hi
 have := h.red.cols_sub h'.red (fun v hv => by
  rw [rowsOf_pairs] at hv ⊢
  obtain ⟨i, hi, rfl⟩ := mem_vs.mp hv
  exact ((h.up i hi).sub hs).sub h'.dn) (p i) (List.mem_map.mpr ⟨_, mem_pairs.mpr ⟨i, hi, rfl⟩, rfl⟩)
 obtain ⟨e, he, h1⟩ := List.mem_map.mp this
 obtain ⟨j, hj, rfl⟩ := mem_pairs.mp he
 exact ⟨j, hj, h1⟩
theorem Fnl.uniq {A A' : List Vc} {T T' : Nat → Vc} {k k' : Nat} {p p' : Nat → Nat} (h : Fnl A T k p) (h' : Fnl A' T' k' p') (hs : ∀ v ∈ A, Sp A' v) (hs' : ∀ v ∈ A', Sp A v) : k = k' ∧ ∀ i, i < k → p i = p' i ∧ T i = T' i := by
 have h1 : ∀ v ∈ rowsOf (pairs T p k), Sp (rowsOf (pairs T' p' k')) v := fun v hv => by
  rw [rowsOf_pairs] at hv ⊢
  obtain ⟨i, hi, rfl⟩ := mem_vs.mp hv
  exact ((h.up i hi).sub hs).sub h'.dn
 have h2 : ∀ v ∈ rowsOf (pairs T' p' k'), Sp (rowsOf (pairs T p k)) v := fun v hv => by
  rw [rowsOf_pairs] at hv ⊢
  obtain ⟨i, hi, rfl⟩ := mem_vs.mp hv
  exact ((h'.up i hi).sub hs').sub h.dn
 have hc := h.red.cols h'.red h1 h2
 have hk : k = k' := by
  have := congrArg List.length hc
  simpa [pairs] using this
 refine ⟨hk, fun i hi => ?_⟩
 have hp : p i = p' i := by
  have := congrArg (fun l => l[i]?) hc
  simpa [pairs, hi, show i < k' by omega] using this
 refine ⟨hp, h.red.rows h'.red h1 h2 (fun e he => ?_) (fun e he => ?_) (p i, T i) (mem_pairs.mpr ⟨i, hi, rfl⟩) (p' i, T' i) (mem_pairs.mpr ⟨i, by omega, rfl⟩) hp⟩
 ·
  obtain ⟨j, hj, rfl⟩ := mem_pairs.mp he
  exact h.pr j hj
 ·
  obtain ⟨j, hj, rfl⟩ := mem_pairs.mp he
  exact h'.pr j hj
end Go.Proofs.Ytckefohfahphpaa.Z
end
