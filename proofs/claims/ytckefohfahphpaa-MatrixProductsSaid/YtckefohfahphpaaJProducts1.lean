/- Walks of the program's functions and plain laws, for the statement Products, for all inputs that each lemma names. -/
import Derived.Test.YtckefohfahphpaaWRepsOne
import Derived.Test.YtckefohfahphpaaJProducts0
section
namespace Go.Proofs.Ytckefohfahphpaa.Z
open Go.RowKit Go.Proofs.YtckefohfahphpaaW.PrintWords Go.Proofs.YtckefohfahphpaaW.PrintLast Go.Proofs.YtckefohfahphpaaW.PrintMore
attribute [local go_sem] max2_int min2_int max_two min_two max_three min_three max_four min_four   -- for this text's walks alone
set_option linter.unusedVariables false
set_option linter.unusedSimpArgs false

/-! ### safeint_Lcm: function 41 -/
def safeint_Lcm.j0 : Nat → Int → Int → Bool → Option (Int × Bool)
 | 0, _, _, _ => none
 | k + 1, x0, x1, x12 => if x12 = true then (some (0, true)) else ((safeint_size.f x0).bind fun t131 => ((safeint_size.f x0).bind fun t132 => ((safeint_size.f x1).bind fun t133 => ((safeint_common.f t132 t133).bind fun t134 => (if t134 = 0 then (none) else ((safeint_size.f x1).bind fun t135 => ((safeint_times.f (IntKind.u64.wrap (Int.tdiv t131 t134)) t135).bind fun bt136 => (if bt136.1 = 0 then ((safeint_signed.f k bt136.2 false).bind fun bt139 => (some (bt139.1, bt139.2))) else (some (0, false))))))))))
def safeint_Lcm.f (k : Nat) (a0 : Int) (a1 : Int) : Option (Int × Bool) := if a0 = 0 then (safeint_Lcm.j0 k a0 a1 true) else (safeint_Lcm.j0 k a0 a1 (a1 == 0))
theorem safeint_Lcm.mono_l : ∀ k, (∀ y0 y1 y2, LeO (safeint_Lcm.j0 k y0 y1 y2) (safeint_Lcm.j0 (k + 1) y0 y1 y2))
 | 0 => fun _ _ _ r h => by simp [safeint_Lcm.j0] at h
 | k + 1 => by
  have ih0 := safeint_Lcm.mono_l k
  ·
   intro y0 y1 y2
   unfold safeint_Lcm.j0
   repeat' first
   | (with_reducible exact ih0 _ _ _)
   | (with_reducible exact safeint_signed.mono _ _ _)
   | (with_reducible exact LeO.refl _)
   | (with_reducible exact LeO.none _)
   | (with_reducible refine LeO.ite ?_ ?_)
   | (with_reducible refine LeO.bind ?_ (fun _ => ?_))
   | exact ih0 _ _ _
   | exact safeint_signed.mono _ _ _
   | exact LeO.none _
   | refine LeO.ite ?_ ?_
   | refine LeO.bind ?_ (fun _ => ?_)
theorem safeint_Lcm.mono : ∀ a0 a1 k, LeO (safeint_Lcm.f k a0 a1) (safeint_Lcm.f (k + 1) a0 a1) := by
 intro a0 a1 k
 have ih0 := safeint_Lcm.mono_l k
 unfold safeint_Lcm.f
 repeat' first
   | (with_reducible exact ih0 _ _ _)
   | (with_reducible exact safeint_signed.mono _ _ _)
   | (with_reducible exact LeO.refl _)
   | (with_reducible exact LeO.none _)
   | (with_reducible refine LeO.ite ?_ ?_)
   | (with_reducible refine LeO.bind ?_ (fun _ => ?_))
   | exact ih0 _ _ _
   | exact safeint_signed.mono _ _ _
   | exact LeO.none _
   | refine LeO.ite ?_ ?_
   | refine LeO.bind ?_ (fun _ => ?_)
def safeint_Lcm.T3 : Bool × List (List Nat × List Nat) := (true, [([], []), ([0], [0]), ([], []), ([2, 1], [2]), ([], []), ([4, 3], [4]), ([3, 5, 5], [3, 5]), ([1, 6], [1, 6]), ([], []), ([8, 6], [8]), ([7, 9, 9], [7, 9]), ([], []), ([11, 10, 10, 0, 1, 2, 3, 4, 5, 6, 7, 8, 9, 10, 11], [10, 11])])
def safeint_Lcm.B3 : List Nat := [0, 1, 0, 7, 0, 31, 63, 127, 0, 383, 1023, 0, 4095]
theorem safeint_Lcm.tab3 : rtab .any (opsOf Try.f41 3) = safeint_Lcm.T3 := by kernel_rfl
theorem safeint_Lcm.bits3 : waitsOk safeint_Lcm.T3.2 safeint_Lcm.B3 = true := by kernel_rfl
set_option maxHeartbeats 8000000 in
set_option maxRecDepth 100000 in
theorem safeint_Lcm.calls (k : Nat) (a0 : Int) (a1 : Int) (r1 : Int) (r2 : Bool) (w : World) (h : safeint_Lcm.f k a0 a1 = some (r1, r2)) :
  Calls Try.prog 41 #[.int .i64 a0, .int .i64 a1] w fun e w' => e = .returned (.tuple #[.int .i64 r1, .bool r2]) ∧ Below w.heap.size w w' := by
 have hu74 := Try.underlying74
 have HB := Aside0.mk (Below.refl w.heap.size w)
 have H : (if a0 = 0 then (safeint_Lcm.j0 k a0 a1 true) else (safeint_Lcm.j0 k a0 a1 (a1 == 0))) = some (r1, r2) := h
 clear h
 have HC3 := Aside0.mk H
 clear H
 go_enter Try.func41, Try.ntmps41
 go_upto_region 1 with (fail)
 go_cut [12] (fun v12 wc => ∃ (kq : Nat) (x12_2 : Bool), v12 = .bool x12_2 ∧ Aside0 (safeint_Lcm.j0 kq a0 a1 x12_2 = some (r1, r2)) ∧ Aside0 (kq ≤ k) ∧ Aside0 (Below w.heap.size w wc))
 case first =>
  have H := HC3.out
  clear HC3
  by_cases c4 : a0 = 0
  ·
   rw [if_pos c4] at H
   have c4b0 : (a0 == 0) = true := beq_iff_eq.mpr c4
   have c4b1 : (a0 != 0) = false := bne_eq_false_iff_eq.mpr c4
   clear c4
   (first | rw [c4b0] | (simp only [i64_w, i32_w]; rw [c4b0]) | skip)
   have H' := Aside0.mk H
   clear H
   go_wp2
   go_meet
   case rel => exact ⟨_, (true), (by first | rfl | (simp; done) | (simp [*]; done)), H', ⟨by first | omega | exact Nat.le_refl _⟩, ⟨by repeat (first | (with_reducible first | exact HB.out | apply below_alloc | apply pw_below_drewN | apply below_drew1) | exact HB.out)⟩⟩
  ·
   rw [if_neg c4] at H
   have c4b0 : (a0 == 0) = false := beq_eq_false_iff_ne.mpr c4
   have c4b1 : (a0 != 0) = true := bne_iff_ne.mpr c4
   (first | rw [c4b0] | (simp only [i64_w, i32_w]; rw [c4b0]) | skip)
   have H' := Aside0.mk H
   clear H
   go_wp2
   go_meet
   case rel => exact ⟨_, ((a1 == 0)), (by first | rfl | (simp; done) | (simp [*]; done)), H', ⟨by first | omega | exact Nat.le_refl _⟩, ⟨by repeat (first | (with_reducible first | exact HB.out | apply below_alloc | apply pw_below_drewN | apply below_drew1) | exact HB.out)⟩⟩
 case rest =>
  clear HC3
  try clear p2
  try clear c4
  try clear c4b0
  try clear c4b1
  obtain ⟨kq, x12_2, rfl, HA, HJ2, HB⟩ := hcut
  cases kq with
  | zero => exact absurd HA.out (by simp [safeint_Lcm.j0])
  | succ kj2 =>
   have H := HA.out
   clear HA
   simp only [safeint_Lcm.j0] at H
   by_cases c5 : x12_2 = true
   ·
    subst c5
    have H1 : (some (0, true)) = some (r1, r2) := by rw [if_pos rfl] at H; exact H
    clear H
    have H := H1
    clear H1
    simp only [Option.some.injEq, Prod.mk.injEq] at H
    obtain ⟨rfl, rfl⟩ := H
    go_wp2
    go_ret2
    exact ⟨by first | rfl | (simp [errW_none, errW_some] <;> rfl) | (simp [*, errW_none, errW_some] <;> rfl), by repeat (first | (with_reducible first | exact HB.out | apply below_alloc | apply pw_below_drewN | apply below_drew1) | exact HB.out)⟩
   ·
    replace c5 := Bool.eq_false_iff.mpr c5
    subst c5
    have H1 : ((safeint_size.f a0).bind fun t131 => ((safeint_size.f a0).bind fun t132 => ((safeint_size.f a1).bind fun t133 => ((safeint_common.f t132 t133).bind fun t134 => (if t134 = 0 then (none) else ((safeint_size.f a1).bind fun t135 => ((safeint_times.f (IntKind.u64.wrap (Int.tdiv t131 t134)) t135).bind fun bt136 => (if bt136.1 = 0 then ((safeint_signed.f kj2 bt136.2 false).bind fun bt139 => (some (bt139.1, bt139.2))) else (some (0, false)))))))))) = some (r1, r2) := by rw [if_neg (show ¬ (false = true) by decide)] at H; exact H
    clear H
    have H := H1
    clear H1
    replace H := Option.bind_eq_some_iff.mp H
    obtain ⟨t131, A60, H⟩ := H
    replace H : ((safeint_size.f a0).bind fun t132 => ((safeint_size.f a1).bind fun t133 => ((safeint_common.f t132 t133).bind fun t134 => (if t134 = 0 then (none) else ((safeint_size.f a1).bind fun t135 => ((safeint_times.f (IntKind.u64.wrap (Int.tdiv t131 t134)) t135).bind fun bt136 => (if bt136.1 = 0 then ((safeint_signed.f kj2 bt136.2 false).bind fun bt139 => (some (bt139.1, bt139.2))) else (some (0, false))))))))) = some (r1, r2) := H
    have A6 := Aside0.mk A60
    clear A60
    replace H := Option.bind_eq_some_iff.mp H
    obtain ⟨t132, A70, H⟩ := H
    replace H : ((safeint_size.f a1).bind fun t133 => ((safeint_common.f t132 t133).bind fun t134 => (if t134 = 0 then (none) else ((safeint_size.f a1).bind fun t135 => ((safeint_times.f (IntKind.u64.wrap (Int.tdiv t131 t134)) t135).bind fun bt136 => (if bt136.1 = 0 then ((safeint_signed.f kj2 bt136.2 false).bind fun bt139 => (some (bt139.1, bt139.2))) else (some (0, false)))))))) = some (r1, r2) := H
    have A7 := Aside0.mk A70
    clear A70
    replace H := Option.bind_eq_some_iff.mp H
    obtain ⟨t133, A80, H⟩ := H
    replace H : ((safeint_common.f t132 t133).bind fun t134 => (if t134 = 0 then (none) else ((safeint_size.f a1).bind fun t135 => ((safeint_times.f (IntKind.u64.wrap (Int.tdiv t131 t134)) t135).bind fun bt136 => (if bt136.1 = 0 then ((safeint_signed.f kj2 bt136.2 false).bind fun bt139 => (some (bt139.1, bt139.2))) else (some (0, false))))))) = some (r1, r2) := H
    have A8 := Aside0.mk A80
    clear A80
    replace H := Option.bind_eq_some_iff.mp H
    obtain ⟨t134, A90, H⟩ := H
    replace H : (if t134 = 0 then (none) else ((safeint_size.f a1).bind fun t135 => ((safeint_times.f (IntKind.u64.wrap (Int.tdiv t131 t134)) t135).bind fun bt136 => (if bt136.1 = 0 then ((safeint_signed.f kj2 bt136.2 false).bind fun bt139 => (some (bt139.1, bt139.2))) else (some (0, false)))))) = some (r1, r2) := H
    have A9 := Aside0.mk A90
    clear A90
    by_cases c10 : t134 = 0
    ·
     rw [if_pos c10] at H
     exact absurd H (by simp)
    ·
     rw [if_neg c10] at H
     have c10b0 : (t134 == 0) = false := beq_eq_false_iff_ne.mpr c10
     have c10b1 : (t134 != 0) = true := bne_iff_ne.mpr c10
     replace H := Option.bind_eq_some_iff.mp H
     obtain ⟨t135, A110, H⟩ := H
     replace H : ((safeint_times.f (IntKind.u64.wrap (Int.tdiv t131 t134)) t135).bind fun bt136 => (if bt136.1 = 0 then ((safeint_signed.f kj2 bt136.2 false).bind fun bt139 => (some (bt139.1, bt139.2))) else (some (0, false)))) = some (r1, r2) := H
     have A11 := Aside0.mk A110
     clear A110
     replace H := Option.bind_eq_some_iff.mp H
     obtain ⟨⟨t136, t137⟩, A120, H⟩ := H
     replace H : (if t136 = 0 then ((safeint_signed.f kj2 t137 false).bind fun bt139 => (some (bt139.1, bt139.2))) else (some (0, false))) = some (r1, r2) := H
     have A12 := Aside0.mk A120
     clear A120
     by_cases c13 : t136 = 0
     ·
      rw [if_pos c13] at H
      have c13b0 : (t136 == 0) = true := beq_iff_eq.mpr c13
      have c13b1 : (t136 != 0) = false := bne_eq_false_iff_eq.mpr c13
      clear c13
      replace H := Option.bind_eq_some_iff.mp H
      obtain ⟨⟨t139, t140⟩, A140, H⟩ := H
      replace H : (some (t139, t140)) = some (r1, r2) := H
      have A14 := Aside0.mk A140
      clear A140
      simp only [Option.some.injEq, Prod.mk.injEq] at H
      obtain ⟨rfl, rfl⟩ := H
      try go_wp2
      have n0_ := Aside0.mk (below_drew1 HB.out)
      clear HB
      have HB := n0_
      clear n0_
      refine start_ (n := 13) (S := fun w' => True) (ds := []) #[false, false, false, false, false, false, false, false, false, false, false, false, false] (by kernel_rfl) rfl rfl trivial (fun hHeld => ?_); refine with_tabW safeint_Lcm.tab3 safeint_Lcm.bits3 (fun HT_ HW_ => ?_)
      generalize wc.drew = w15 at HB hHeld ⊢
      refine pure_ (i := 0) (N := some 13) (v := ?_) (a' := ?_) #[true, false, false, false, false, false, false, false, false, false, false, false, false] rfl rfl (any_of HT_.out (by kernel_rfl)) (fun _ _ _ h => h) (Or.inl ⟨by rfl, ?_⟩) ?_ ?_
      rotate_left
      ·
       intro w'
       go_simp
       with_reducible rfl
      rotate_left
      ·
       simp only [Act.put, List.setIfInBounds_toArray, List.set_cons_zero, List.set_cons_succ, i64_w, i32_w]
       rfl
      refine pure_ (i := 2) (N := some 15) (v := ?_) (a' := ?_) #[true, false, true, false, false, false, false, false, false, false, false, false, false] rfl rfl (any_of HT_.out (by kernel_rfl)) (fun _ _ _ h => h) (Or.inl ⟨by rfl, ?_⟩) ?_ ?_
      rotate_left
      ·
       intro w'
       go_simp
       with_reducible rfl
      rotate_left
      ·
       simp only [Act.put, List.setIfInBounds_toArray, List.set_cons_zero, List.set_cons_succ, i64_w, i32_w]
       rfl
      refine pure_ (i := 4) (N := some 17) (v := ?_) (a' := ?_) #[true, false, true, false, true, false, false, false, false, false, false, false, false] rfl rfl (any_of HT_.out (by kernel_rfl)) (fun _ _ _ h => h) (Or.inl ⟨by rfl, ?_⟩) ?_ ?_
      rotate_left
      ·
       intro w'
       go_simp
       with_reducible rfl
      rotate_left
      ·
       simp only [Act.put, List.setIfInBounds_toArray, List.set_cons_zero, List.set_cons_succ, i64_w, i32_w]
       rfl
      refine pure_ (i := 8) (N := some 21) (v := ?_) (a' := ?_) #[true, false, true, false, true, false, false, false, true, false, false, false, false] rfl rfl (any_of HT_.out (by kernel_rfl)) (fun _ _ _ h => h) (Or.inl ⟨by rfl, ?_⟩) ?_ ?_
      rotate_left
      ·
       intro w'
       go_simp
       with_reducible rfl
      rotate_left
      ·
       simp only [Act.put, List.setIfInBounds_toArray, List.set_cons_zero, List.set_cons_succ, i64_w, i32_w]
       rfl
      refine join_ (σ := Nat) 1 #[true, true, true, true, true, true, true, true, true, true, true, true, false] (fun s_ => [(14, .int .u64 t131), (16, .int .u64 t132), (18, .int .u64 t133), (19, .int .u64 t134), (22, .int .u64 t135), (23, .agg #[.int .u64 t136, .int .u64 t137]), (6, .pointer (some ⟨s_, 0, none⟩)), (20, .int .u64 (IntKind.u64.wrap (Int.tdiv t131 t134)))]) (fun s_ w' => (w'.heap[s_]? = some (.cells #[.int .u64 0, .int .u64 0] 74 (0, 0))) ∧ (w.heap.size ≤ s_) ∧ (w.heap.size ≤ s_) ∧ (Below w.heap.size w w')) ?_ ?_
      rotate_left
      ·
       intro hJ1_3_5_6_9_10_11
       refine join_ (σ := Unit) 2 #[true, true, true, true, true, true, true, true, true, true, true, false, false] (fun s_ => [(14, .int .u64 t131), (16, .int .u64 t132), (18, .int .u64 t133), (19, .int .u64 t134), (22, .int .u64 t135), (23, .agg #[.int .u64 t136, .int .u64 t137]), (20, .int .u64 (IntKind.u64.wrap (Int.tdiv t131 t134)))]) (fun s_ w' => (Below w.heap.size w w')) ?_ ?_
       rotate_left
       ·
        intro hJ1_3_5_6_9_10
        refine join_ (σ := Nat) 2 #[true, true, true, true, true, true, true, true, true, true, false, true, false] (fun s_ => [(14, .int .u64 t131), (16, .int .u64 t132), (18, .int .u64 t133), (19, .int .u64 t134), (22, .int .u64 t135), (6, .pointer (some ⟨s_, 0, none⟩)), (20, .int .u64 (IntKind.u64.wrap (Int.tdiv t131 t134)))]) (fun s_ w' => (w'.heap[s_]? = some (.cells #[.int .u64 0, .int .u64 0] 74 (0, 0))) ∧ (w.heap.size ≤ s_) ∧ (w.heap.size ≤ s_) ∧ (Below w.heap.size w w')) ?_ ?_
        rotate_left
        ·
         intro hJ1_3_5_6_9_11
         refine join_ (σ := Unit) 3 #[true, true, true, true, true, true, true, true, true, true, false, false, false] (fun s_ => [(14, .int .u64 t131), (16, .int .u64 t132), (18, .int .u64 t133), (19, .int .u64 t134), (22, .int .u64 t135), (20, .int .u64 (IntKind.u64.wrap (Int.tdiv t131 t134)))]) (fun s_ w' => (Below w.heap.size w w')) ?_ ?_
         rotate_left
         ·
          intro hJ1_3_5_6_9
          refine join_ (σ := Nat) 3 #[true, true, true, true, true, true, true, true, true, false, false, true, false] (fun s_ => [(14, .int .u64 t131), (16, .int .u64 t132), (18, .int .u64 t133), (19, .int .u64 t134), (6, .pointer (some ⟨s_, 0, none⟩)), (20, .int .u64 (IntKind.u64.wrap (Int.tdiv t131 t134)))]) (fun s_ w' => (w'.heap[s_]? = some (.cells #[.int .u64 0, .int .u64 0] 74 (0, 0))) ∧ (w.heap.size ≤ s_) ∧ (w.heap.size ≤ s_) ∧ (Below w.heap.size w w')) ?_ ?_
          rotate_left
          ·
           intro hJ1_3_5_6_11
           refine join_ (σ := Unit) 4 #[true, true, true, true, true, true, true, true, true, false, false, false, false] (fun s_ => [(14, .int .u64 t131), (16, .int .u64 t132), (18, .int .u64 t133), (19, .int .u64 t134), (20, .int .u64 (IntKind.u64.wrap (Int.tdiv t131 t134)))]) (fun s_ w' => (Below w.heap.size w w')) ?_ ?_
           rotate_left
           ·
            intro hJ1_3_5_6
            refine join_ (σ := Nat) 5 #[true, true, true, true, true, true, false, false, true, false, false, true, false] (fun s_ => [(14, .int .u64 t131), (16, .int .u64 t132), (18, .int .u64 t133), (6, .pointer (some ⟨s_, 0, none⟩))]) (fun s_ w' => (w'.heap[s_]? = some (.cells #[.int .u64 0, .int .u64 0] 74 (0, 0))) ∧ (w.heap.size ≤ s_) ∧ (w.heap.size ≤ s_) ∧ (Below w.heap.size w w')) ?_ ?_
            rotate_left
            ·
             intro hJ1_3_5_11
             refine join_ (σ := Unit) 6 #[true, true, true, true, true, true, false, false, true, false, false, false, false] (fun s_ => [(14, .int .u64 t131), (16, .int .u64 t132), (18, .int .u64 t133)]) (fun s_ w' => (Below w.heap.size w w')) ?_ ?_
             rotate_left
             ·
              intro hJ1_3_5
              refine join_ (σ := Nat) 6 #[true, true, true, true, true, false, false, false, true, false, false, true, false] (fun s_ => [(14, .int .u64 t131), (16, .int .u64 t132), (6, .pointer (some ⟨s_, 0, none⟩))]) (fun s_ w' => (w'.heap[s_]? = some (.cells #[.int .u64 0, .int .u64 0] 74 (0, 0))) ∧ (w.heap.size ≤ s_) ∧ (w.heap.size ≤ s_) ∧ (Below w.heap.size w w')) ?_ ?_
              rotate_left
              ·
               intro hJ1_3_11
               refine join_ (σ := Unit) 7 #[true, true, true, true, true, false, false, false, true, false, false, false, false] (fun s_ => [(14, .int .u64 t131), (16, .int .u64 t132)]) (fun s_ w' => (Below w.heap.size w w')) ?_ ?_
               rotate_left
               ·
                intro hJ1_3
                refine join_ (σ := Nat) 7 #[true, true, true, false, true, false, false, false, true, false, false, true, false] (fun s_ => [(14, .int .u64 t131), (6, .pointer (some ⟨s_, 0, none⟩))]) (fun s_ w' => (w'.heap[s_]? = some (.cells #[.int .u64 0, .int .u64 0] 74 (0, 0))) ∧ (w.heap.size ≤ s_) ∧ (w.heap.size ≤ s_) ∧ (Below w.heap.size w w')) ?_ ?_
                rotate_left
                ·
                 intro hJ1_11
                 refine join_ (σ := Unit) 8 #[true, true, true, false, true, false, false, false, true, false, false, false, false] (fun s_ => [(14, .int .u64 t131)]) (fun s_ w' => (Below w.heap.size w w')) ?_ ?_
                 rotate_left
                 ·
                  intro hJ1
                  refine join_ (σ := Nat) 8 #[true, false, true, false, true, false, false, false, true, false, false, true, false] (fun s_ => [(6, .pointer (some ⟨s_, 0, none⟩))]) (fun s_ w' => (w'.heap[s_]? = some (.cells #[.int .u64 0, .int .u64 0] 74 (0, 0))) ∧ (w.heap.size ≤ s_) ∧ (w.heap.size ≤ s_) ∧ (Below w.heap.size w w')) ?_ ?_
                  rotate_left
                  ·
                   intro hJ11
                   refine two_ (i := 1) (j := 11) (Ni := some 14) (Nj := some 6) #[true, true, true, false, true, false, false, false, true, false, false, false, false] #[true, false, true, false, true, false, false, false, true, false, false, true, false] rfl rfl rfl rfl (two_of HT_.out (by kernel_rfl)) (by decide) (by decide) (fun K hK => ?_) (fun K hK => ?_)
                   ·
                    skip
                    refine goes_ Try.func51 (by kernel_rfl) rfl #[.int .i64 a0] (by rfl) rfl rfl (by (try simp only [List.map_toArray, List.map_cons, List.map_nil]); first | done | rfl | (simp only [List.length_drop, List.length_take]; rfl)) ?_
                    with_reducible refine (safeint_size.calls a0 t131 _ A6.out).mono ?_
                    rintro e w' ⟨rfl, ⟨nd, rfl⟩⟩
                    refine ⟨_, rfl, ?_⟩
                    refine hK.out _ _ trivial (fun hHeld => ?_)
                    clear hK K
                    refine norm_ (a' := ?_) ?_ ?_
                    rotate_left
                    ·
                     show Act.put _ (some 14) _ = _
                     simp only [Act.put, List.setIfInBounds_toArray, List.set_cons_zero, List.set_cons_succ, i64_w, i32_w]
                     rfl
                    exact norm_ (by first | (simp only [putAll, Act.put, List.setIfInBounds_toArray, List.set_cons_zero, List.set_cons_succ]; done) | (simp only [putAll, Act.put, List.setIfInBounds_toArray, List.set_cons_zero, List.set_cons_succ]; rfl)) (hJ1 () _ (by repeat (first | (with_reducible first | exact HB.out | apply below_alloc | apply pw_below_drewN | apply below_drew1) | exact HB.out)))
                   ·
                    skip
                    refine box_step ?hg (N := 6) ?hd (cs := #[.int .u64 0, .int .u64 0]) (t := 74) ?hr ?_; (case hd => rfl); (case hg => rfl); (case hr => first | (go_simp; done) | (go_simp; rfl))
                    intro gb138 hg w16 hbox hb
                    have n0_ := Aside0.mk (below_step (by repeat (first | (with_reducible first | exact HB.out | apply below_alloc | apply pw_below_drewN | apply below_drew1) | exact HB.out)) hb)
                    have n1_ := Aside0.mk (hbox)
                    have n2_ := Aside0.mk ((by rw [hg]; exact (below_size (by repeat (first | (with_reducible first | exact HB.out | apply below_alloc | apply pw_below_drewN | apply below_drew1) | exact HB.out))) : w.heap.size ≤ gb138))
                    have n3_ := Aside0.mk ((by rw [hg]; exact (below_size (by repeat (first | (with_reducible first | exact HB.out | apply below_alloc | apply pw_below_drewN | apply below_drew1) | exact HB.out))) : w.heap.size ≤ gb138))
                    clear HB
                    have HB := n0_
                    have BK138 := n1_
                    have GW138 := n2_
                    have GE138 := n3_
                    clear n0_ n1_ n2_ n3_
                    clear hb hbox hg
                    refine hK.out _ _ trivial (fun hHeld => ?_)
                    clear hK K
                    refine norm_ (a' := ?_) ?_ ?_
                    rotate_left
                    ·
                     show Act.put _ (some 6) _ = _
                     simp only [Act.put, List.setIfInBounds_toArray, List.set_cons_zero, List.set_cons_succ, i64_w, i32_w]
                     rfl
                    exact norm_ (by first | (simp only [putAll, Act.put, List.setIfInBounds_toArray, List.set_cons_zero, List.set_cons_succ]; done) | (simp only [putAll, Act.put, List.setIfInBounds_toArray, List.set_cons_zero, List.set_cons_succ]; rfl)) (hJ11 (gb138) _ ⟨(by (with_reducible repeat (first | refine blk_drewN ?_ _ | refine blk_drew ?_ | refine blk_alloc ?_ _)); exact BK138.out), GW138.out, GE138.out, (by repeat (first | (with_reducible first | exact HB.out | apply below_alloc | apply pw_below_drewN | apply below_drew1 | refine below_set ?_ GE138.out) | exact HB.out))⟩)
                  ·
                   skip
                   rintro gb138 w17 ⟨h0_, h1_, h2_, h3_⟩
                   have n0_ : Aside0 (w17.heap[gb138]? = some (.cells #[.int .u64 0, .int .u64 0] 74 (0, 0))) := ⟨h0_⟩
                   have n1_ : Aside0 (w.heap.size ≤ gb138) := ⟨h1_⟩
                   have n2_ : Aside0 (w.heap.size ≤ gb138) := ⟨h2_⟩
                   have n3_ : Aside0 (Below w.heap.size w w17) := ⟨h3_⟩
                   clear HB
                   clear h0_ h1_ h2_ h3_
                   have BK138 := n0_
                   have GW138 := n1_
                   have GE138 := n2_
                   have HB := n3_
                   clear n0_ n1_ n2_ n3_
                   have hHeld := trivial
                   refine norm_ (a' := ?_) ?_ ?_
                   rotate_left
                   ·
                    simp only [putAll, Act.put, List.setIfInBounds_toArray, List.set_cons_zero, List.set_cons_succ]
                    rfl
                   refine one_ (i := 1) (N := some 14) #[true, true, true, false, true, false, false, false, true, false, false, true, false] rfl rfl (one_of HT_.out (by kernel_rfl)) (by decide) (fun K hK => ?_)
                   refine goes_ Try.func51 (by kernel_rfl) rfl #[.int .i64 a0] (by rfl) rfl rfl (by (try simp only [List.map_toArray, List.map_cons, List.map_nil]); first | done | rfl | (simp only [List.length_drop, List.length_take]; rfl)) ?_
                   with_reducible refine (safeint_size.calls a0 t131 _ A6.out).mono ?_
                   rintro e w' ⟨rfl, ⟨nd, rfl⟩⟩
                   refine ⟨_, rfl, ?_⟩
                   refine hK.out _ _ trivial (fun hHeld => ?_)
                   clear hK K
                   refine norm_ (a' := ?_) ?_ ?_
                   rotate_left
                   ·
                    show Act.put _ (some 14) _ = _
                    simp only [Act.put, List.setIfInBounds_toArray, List.set_cons_zero, List.set_cons_succ, i64_w, i32_w]
                    rfl
                   exact norm_ (by first | (simp only [putAll, Act.put, List.setIfInBounds_toArray, List.set_cons_zero, List.set_cons_succ]; done) | (simp only [putAll, Act.put, List.setIfInBounds_toArray, List.set_cons_zero, List.set_cons_succ]; rfl)) (hJ1_11 (gb138) _ ⟨(by (with_reducible repeat (first | refine blk_drewN ?_ _ | refine blk_drew ?_ | refine blk_alloc ?_ _)); exact BK138.out), GW138.out, GE138.out, (by repeat (first | (with_reducible first | exact HB.out | apply below_alloc | apply pw_below_drewN | apply below_drew1 | refine below_set ?_ GE138.out) | exact HB.out))⟩)
                 ·
                  skip
                  rintro _ w16 h0_
                  have n0_ : Aside0 (Below w.heap.size w w16) := ⟨h0_⟩
                  clear HB
                  clear h0_
                  have HB := n0_
                  clear n0_
                  have hHeld := trivial
                  refine norm_ (a' := ?_) ?_ ?_
                  rotate_left
                  ·
                   simp only [putAll, Act.put, List.setIfInBounds_toArray, List.set_cons_zero, List.set_cons_succ]
                   rfl
                  refine two_ (i := 3) (j := 11) (Ni := some 16) (Nj := some 6) #[true, true, true, true, true, false, false, false, true, false, false, false, false] #[true, true, true, false, true, false, false, false, true, false, false, true, false] rfl rfl rfl rfl (two_of HT_.out (by kernel_rfl)) (by decide) (by decide) (fun K hK => ?_) (fun K hK => ?_)
                  ·
                   skip
                   refine goes_ Try.func51 (by kernel_rfl) rfl #[.int .i64 a0] (by rfl) rfl rfl (by (try simp only [List.map_toArray, List.map_cons, List.map_nil]); first | done | rfl | (simp only [List.length_drop, List.length_take]; rfl)) ?_
                   with_reducible refine (safeint_size.calls a0 t132 _ A7.out).mono ?_
                   rintro e w' ⟨rfl, ⟨nd, rfl⟩⟩
                   refine ⟨_, rfl, ?_⟩
                   refine hK.out _ _ trivial (fun hHeld => ?_)
                   clear hK K
                   refine norm_ (a' := ?_) ?_ ?_
                   rotate_left
                   ·
                    show Act.put _ (some 16) _ = _
                    simp only [Act.put, List.setIfInBounds_toArray, List.set_cons_zero, List.set_cons_succ, i64_w, i32_w]
                    rfl
                   exact norm_ (by first | (simp only [putAll, Act.put, List.setIfInBounds_toArray, List.set_cons_zero, List.set_cons_succ]; done) | (simp only [putAll, Act.put, List.setIfInBounds_toArray, List.set_cons_zero, List.set_cons_succ]; rfl)) (hJ1_3 () _ (by repeat (first | (with_reducible first | exact HB.out | apply below_alloc | apply pw_below_drewN | apply below_drew1) | exact HB.out)))
                  ·
                   skip
                   refine box_step ?hg (N := 6) ?hd (cs := #[.int .u64 0, .int .u64 0]) (t := 74) ?hr ?_; (case hd => rfl); (case hg => rfl); (case hr => first | (go_simp; done) | (go_simp; rfl))
                   intro gb138 hg w17 hbox hb
                   have n0_ := Aside0.mk (below_step (by repeat (first | (with_reducible first | exact HB.out | apply below_alloc | apply pw_below_drewN | apply below_drew1) | exact HB.out)) hb)
                   have n1_ := Aside0.mk (hbox)
                   have n2_ := Aside0.mk ((by rw [hg]; exact (below_size (by repeat (first | (with_reducible first | exact HB.out | apply below_alloc | apply pw_below_drewN | apply below_drew1) | exact HB.out))) : w.heap.size ≤ gb138))
                   have n3_ := Aside0.mk ((by rw [hg]; exact (below_size (by repeat (first | (with_reducible first | exact HB.out | apply below_alloc | apply pw_below_drewN | apply below_drew1) | exact HB.out))) : w.heap.size ≤ gb138))
                   clear HB
                   have HB := n0_
                   have BK138 := n1_
                   have GW138 := n2_
                   have GE138 := n3_
                   clear n0_ n1_ n2_ n3_
                   clear hb hbox hg
                   refine hK.out _ _ trivial (fun hHeld => ?_)
                   clear hK K
                   refine norm_ (a' := ?_) ?_ ?_
                   rotate_left
                   ·
                    show Act.put _ (some 6) _ = _
                    simp only [Act.put, List.setIfInBounds_toArray, List.set_cons_zero, List.set_cons_succ, i64_w, i32_w]
                    rfl
                   exact norm_ (by first | (simp only [putAll, Act.put, List.setIfInBounds_toArray, List.set_cons_zero, List.set_cons_succ]; done) | (simp only [putAll, Act.put, List.setIfInBounds_toArray, List.set_cons_zero, List.set_cons_succ]; rfl)) (hJ1_11 (gb138) _ ⟨(by (with_reducible repeat (first | refine blk_drewN ?_ _ | refine blk_drew ?_ | refine blk_alloc ?_ _)); exact BK138.out), GW138.out, GE138.out, (by repeat (first | (with_reducible first | exact HB.out | apply below_alloc | apply pw_below_drewN | apply below_drew1 | refine below_set ?_ GE138.out) | exact HB.out))⟩)
                ·
                 skip
                 rintro gb138 w17 ⟨h0_, h1_, h2_, h3_⟩
                 have n0_ : Aside0 (w17.heap[gb138]? = some (.cells #[.int .u64 0, .int .u64 0] 74 (0, 0))) := ⟨h0_⟩
                 have n1_ : Aside0 (w.heap.size ≤ gb138) := ⟨h1_⟩
                 have n2_ : Aside0 (w.heap.size ≤ gb138) := ⟨h2_⟩
                 have n3_ : Aside0 (Below w.heap.size w w17) := ⟨h3_⟩
                 clear HB
                 clear h0_ h1_ h2_ h3_
                 have BK138 := n0_
                 have GW138 := n1_
                 have GE138 := n2_
                 have HB := n3_
                 clear n0_ n1_ n2_ n3_
                 have hHeld := trivial
                 refine norm_ (a' := ?_) ?_ ?_
                 rotate_left
                 ·
                  simp only [putAll, Act.put, List.setIfInBounds_toArray, List.set_cons_zero, List.set_cons_succ]
                  rfl
                 refine one_ (i := 3) (N := some 16) #[true, true, true, true, true, false, false, false, true, false, false, true, false] rfl rfl (one_of HT_.out (by kernel_rfl)) (by decide) (fun K hK => ?_)
                 refine goes_ Try.func51 (by kernel_rfl) rfl #[.int .i64 a0] (by rfl) rfl rfl (by (try simp only [List.map_toArray, List.map_cons, List.map_nil]); first | done | rfl | (simp only [List.length_drop, List.length_take]; rfl)) ?_
                 with_reducible refine (safeint_size.calls a0 t132 _ A7.out).mono ?_
                 rintro e w' ⟨rfl, ⟨nd, rfl⟩⟩
                 refine ⟨_, rfl, ?_⟩
                 refine hK.out _ _ trivial (fun hHeld => ?_)
                 clear hK K
                 refine norm_ (a' := ?_) ?_ ?_
                 rotate_left
                 ·
                  show Act.put _ (some 16) _ = _
                  simp only [Act.put, List.setIfInBounds_toArray, List.set_cons_zero, List.set_cons_succ, i64_w, i32_w]
                  rfl
                 exact norm_ (by first | (simp only [putAll, Act.put, List.setIfInBounds_toArray, List.set_cons_zero, List.set_cons_succ]; done) | (simp only [putAll, Act.put, List.setIfInBounds_toArray, List.set_cons_zero, List.set_cons_succ]; rfl)) (hJ1_3_11 (gb138) _ ⟨(by (with_reducible repeat (first | refine blk_drewN ?_ _ | refine blk_drew ?_ | refine blk_alloc ?_ _)); exact BK138.out), GW138.out, GE138.out, (by repeat (first | (with_reducible first | exact HB.out | apply below_alloc | apply pw_below_drewN | apply below_drew1 | refine below_set ?_ GE138.out) | exact HB.out))⟩)
               ·
                skip
                rintro _ w16 h0_
                have n0_ : Aside0 (Below w.heap.size w w16) := ⟨h0_⟩
                clear HB
                clear h0_
                have HB := n0_
                clear n0_
                have hHeld := trivial
                refine norm_ (a' := ?_) ?_ ?_
                rotate_left
                ·
                 simp only [putAll, Act.put, List.setIfInBounds_toArray, List.set_cons_zero, List.set_cons_succ]
                 rfl
                refine two_ (i := 5) (j := 11) (Ni := some 18) (Nj := some 6) #[true, true, true, true, true, true, false, false, true, false, false, false, false] #[true, true, true, true, true, false, false, false, true, false, false, true, false] rfl rfl rfl rfl (two_of HT_.out (by kernel_rfl)) (by decide) (by decide) (fun K hK => ?_) (fun K hK => ?_)
                ·
                 skip
                 refine goes_ Try.func51 (by kernel_rfl) rfl #[.int .i64 a1] (by rfl) rfl rfl (by (try simp only [List.map_toArray, List.map_cons, List.map_nil]); first | done | rfl | (simp only [List.length_drop, List.length_take]; rfl)) ?_
                 with_reducible refine (safeint_size.calls a1 t133 _ A8.out).mono ?_
                 rintro e w' ⟨rfl, ⟨nd, rfl⟩⟩
                 refine ⟨_, rfl, ?_⟩
                 refine hK.out _ _ trivial (fun hHeld => ?_)
                 clear hK K
                 refine norm_ (a' := ?_) ?_ ?_
                 rotate_left
                 ·
                  show Act.put _ (some 18) _ = _
                  simp only [Act.put, List.setIfInBounds_toArray, List.set_cons_zero, List.set_cons_succ, i64_w, i32_w]
                  rfl
                 exact norm_ (by first | (simp only [putAll, Act.put, List.setIfInBounds_toArray, List.set_cons_zero, List.set_cons_succ]; done) | (simp only [putAll, Act.put, List.setIfInBounds_toArray, List.set_cons_zero, List.set_cons_succ]; rfl)) (hJ1_3_5 () _ (by repeat (first | (with_reducible first | exact HB.out | apply below_alloc | apply pw_below_drewN | apply below_drew1) | exact HB.out)))
                ·
                 skip
                 refine box_step ?hg (N := 6) ?hd (cs := #[.int .u64 0, .int .u64 0]) (t := 74) ?hr ?_; (case hd => rfl); (case hg => rfl); (case hr => first | (go_simp; done) | (go_simp; rfl))
                 intro gb138 hg w17 hbox hb
                 have n0_ := Aside0.mk (below_step (by repeat (first | (with_reducible first | exact HB.out | apply below_alloc | apply pw_below_drewN | apply below_drew1) | exact HB.out)) hb)
                 have n1_ := Aside0.mk (hbox)
                 have n2_ := Aside0.mk ((by rw [hg]; exact (below_size (by repeat (first | (with_reducible first | exact HB.out | apply below_alloc | apply pw_below_drewN | apply below_drew1) | exact HB.out))) : w.heap.size ≤ gb138))
                 have n3_ := Aside0.mk ((by rw [hg]; exact (below_size (by repeat (first | (with_reducible first | exact HB.out | apply below_alloc | apply pw_below_drewN | apply below_drew1) | exact HB.out))) : w.heap.size ≤ gb138))
                 clear HB
                 have HB := n0_
                 have BK138 := n1_
                 have GW138 := n2_
                 have GE138 := n3_
                 clear n0_ n1_ n2_ n3_
                 clear hb hbox hg
                 refine hK.out _ _ trivial (fun hHeld => ?_)
                 clear hK K
                 refine norm_ (a' := ?_) ?_ ?_
                 rotate_left
                 ·
                  show Act.put _ (some 6) _ = _
                  simp only [Act.put, List.setIfInBounds_toArray, List.set_cons_zero, List.set_cons_succ, i64_w, i32_w]
                  rfl
                 exact norm_ (by first | (simp only [putAll, Act.put, List.setIfInBounds_toArray, List.set_cons_zero, List.set_cons_succ]; done) | (simp only [putAll, Act.put, List.setIfInBounds_toArray, List.set_cons_zero, List.set_cons_succ]; rfl)) (hJ1_3_11 (gb138) _ ⟨(by (with_reducible repeat (first | refine blk_drewN ?_ _ | refine blk_drew ?_ | refine blk_alloc ?_ _)); exact BK138.out), GW138.out, GE138.out, (by repeat (first | (with_reducible first | exact HB.out | apply below_alloc | apply pw_below_drewN | apply below_drew1 | refine below_set ?_ GE138.out) | exact HB.out))⟩)
              ·
               skip
               rintro gb138 w17 ⟨h0_, h1_, h2_, h3_⟩
               have n0_ : Aside0 (w17.heap[gb138]? = some (.cells #[.int .u64 0, .int .u64 0] 74 (0, 0))) := ⟨h0_⟩
               have n1_ : Aside0 (w.heap.size ≤ gb138) := ⟨h1_⟩
               have n2_ : Aside0 (w.heap.size ≤ gb138) := ⟨h2_⟩
               have n3_ : Aside0 (Below w.heap.size w w17) := ⟨h3_⟩
               clear HB
               clear h0_ h1_ h2_ h3_
               have BK138 := n0_
               have GW138 := n1_
               have GE138 := n2_
               have HB := n3_
               clear n0_ n1_ n2_ n3_
               have hHeld := trivial
               refine norm_ (a' := ?_) ?_ ?_
               rotate_left
               ·
                simp only [putAll, Act.put, List.setIfInBounds_toArray, List.set_cons_zero, List.set_cons_succ]
                rfl
               refine one_ (i := 5) (N := some 18) #[true, true, true, true, true, true, false, false, true, false, false, true, false] rfl rfl (one_of HT_.out (by kernel_rfl)) (by decide) (fun K hK => ?_)
               refine goes_ Try.func51 (by kernel_rfl) rfl #[.int .i64 a1] (by rfl) rfl rfl (by (try simp only [List.map_toArray, List.map_cons, List.map_nil]); first | done | rfl | (simp only [List.length_drop, List.length_take]; rfl)) ?_
               with_reducible refine (safeint_size.calls a1 t133 _ A8.out).mono ?_
               rintro e w' ⟨rfl, ⟨nd, rfl⟩⟩
               refine ⟨_, rfl, ?_⟩
               refine hK.out _ _ trivial (fun hHeld => ?_)
               clear hK K
               refine norm_ (a' := ?_) ?_ ?_
               rotate_left
               ·
                show Act.put _ (some 18) _ = _
                simp only [Act.put, List.setIfInBounds_toArray, List.set_cons_zero, List.set_cons_succ, i64_w, i32_w]
                rfl
               exact norm_ (by first | (simp only [putAll, Act.put, List.setIfInBounds_toArray, List.set_cons_zero, List.set_cons_succ]; done) | (simp only [putAll, Act.put, List.setIfInBounds_toArray, List.set_cons_zero, List.set_cons_succ]; rfl)) (hJ1_3_5_11 (gb138) _ ⟨(by (with_reducible repeat (first | refine blk_drewN ?_ _ | refine blk_drew ?_ | refine blk_alloc ?_ _)); exact BK138.out), GW138.out, GE138.out, (by repeat (first | (with_reducible first | exact HB.out | apply below_alloc | apply pw_below_drewN | apply below_drew1 | refine below_set ?_ GE138.out) | exact HB.out))⟩)
             ·
              skip
              rintro _ w16 h0_
              have n0_ : Aside0 (Below w.heap.size w w16) := ⟨h0_⟩
              clear HB
              clear h0_
              have HB := n0_
              clear n0_
              have hHeld := trivial
              refine norm_ (a' := ?_) ?_ ?_
              rotate_left
              ·
               simp only [putAll, Act.put, List.setIfInBounds_toArray, List.set_cons_zero, List.set_cons_succ]
               rfl
              refine two_ (i := 6) (j := 11) (Ni := some 19) (Nj := some 6) #[true, true, true, true, true, true, true, false, true, false, false, false, false] #[true, true, true, true, true, true, false, false, true, false, false, true, false] rfl rfl rfl rfl (two_of HT_.out (by kernel_rfl)) (by decide) (by decide) (fun K hK => ?_) (fun K hK => ?_)
              ·
               skip
               refine goes_ Try.func50 (by kernel_rfl) rfl #[.int .u64 t132, .int .u64 t133] (by rfl) rfl rfl (by (try simp only [List.map_toArray, List.map_cons, List.map_nil]); first | done | rfl | (simp only [List.length_drop, List.length_take]; rfl)) ?_
               with_reducible refine (safeint_common.calls t132 t133 t134 _ A9.out).mono ?_
               rintro e w' ⟨rfl, ⟨nd, rfl⟩⟩
               refine ⟨_, rfl, ?_⟩
               refine hK.out _ _ trivial (fun hHeld => ?_)
               clear hK K
               refine norm_ (a' := ?_) ?_ ?_
               rotate_left
               ·
                show Act.put _ (some 19) _ = _
                simp only [Act.put, List.setIfInBounds_toArray, List.set_cons_zero, List.set_cons_succ, i64_w, i32_w]
                rfl
               refine pure_ (i := 7) (N := some 20) (v := ?_) (a' := ?_) #[true, true, true, true, true, true, true, true, true, false, false, false, false] rfl rfl (any_of HT_.out (by kernel_rfl)) (fun _ _ _ h => h) (Or.inl ⟨by rfl, ?_⟩) ?_ ?_
               rotate_left
               ·
                intro w'
                go_simp
                with_reducible rfl
               rotate_left
               ·
                simp only [Act.put, List.setIfInBounds_toArray, List.set_cons_zero, List.set_cons_succ, i64_w, i32_w]
                rfl
               exact norm_ (by first | (simp only [putAll, Act.put, List.setIfInBounds_toArray, List.set_cons_zero, List.set_cons_succ]; done) | (simp only [putAll, Act.put, List.setIfInBounds_toArray, List.set_cons_zero, List.set_cons_succ]; rfl)) (hJ1_3_5_6 () _ (by repeat (first | (with_reducible first | exact HB.out | apply below_alloc | apply pw_below_drewN | apply below_drew1) | exact HB.out)))
              ·
               skip
               refine box_step ?hg (N := 6) ?hd (cs := #[.int .u64 0, .int .u64 0]) (t := 74) ?hr ?_; (case hd => rfl); (case hg => rfl); (case hr => first | (go_simp; done) | (go_simp; rfl))
               intro gb138 hg w17 hbox hb
               have n0_ := Aside0.mk (below_step (by repeat (first | (with_reducible first | exact HB.out | apply below_alloc | apply pw_below_drewN | apply below_drew1) | exact HB.out)) hb)
               have n1_ := Aside0.mk (hbox)
               have n2_ := Aside0.mk ((by rw [hg]; exact (below_size (by repeat (first | (with_reducible first | exact HB.out | apply below_alloc | apply pw_below_drewN | apply below_drew1) | exact HB.out))) : w.heap.size ≤ gb138))
               have n3_ := Aside0.mk ((by rw [hg]; exact (below_size (by repeat (first | (with_reducible first | exact HB.out | apply below_alloc | apply pw_below_drewN | apply below_drew1) | exact HB.out))) : w.heap.size ≤ gb138))
               clear HB
               have HB := n0_
               have BK138 := n1_
               have GW138 := n2_
               have GE138 := n3_
               clear n0_ n1_ n2_ n3_
               clear hb hbox hg
               refine hK.out _ _ trivial (fun hHeld => ?_)
               clear hK K
               refine norm_ (a' := ?_) ?_ ?_
               rotate_left
               ·
                show Act.put _ (some 6) _ = _
                simp only [Act.put, List.setIfInBounds_toArray, List.set_cons_zero, List.set_cons_succ, i64_w, i32_w]
                rfl
               exact norm_ (by first | (simp only [putAll, Act.put, List.setIfInBounds_toArray, List.set_cons_zero, List.set_cons_succ]; done) | (simp only [putAll, Act.put, List.setIfInBounds_toArray, List.set_cons_zero, List.set_cons_succ]; rfl)) (hJ1_3_5_11 (gb138) _ ⟨(by (with_reducible repeat (first | refine blk_drewN ?_ _ | refine blk_drew ?_ | refine blk_alloc ?_ _)); exact BK138.out), GW138.out, GE138.out, (by repeat (first | (with_reducible first | exact HB.out | apply below_alloc | apply pw_below_drewN | apply below_drew1 | refine below_set ?_ GE138.out) | exact HB.out))⟩)
            ·
             skip
             rintro gb138 w17 ⟨h0_, h1_, h2_, h3_⟩
             have n0_ : Aside0 (w17.heap[gb138]? = some (.cells #[.int .u64 0, .int .u64 0] 74 (0, 0))) := ⟨h0_⟩
             have n1_ : Aside0 (w.heap.size ≤ gb138) := ⟨h1_⟩
             have n2_ : Aside0 (w.heap.size ≤ gb138) := ⟨h2_⟩
             have n3_ : Aside0 (Below w.heap.size w w17) := ⟨h3_⟩
             clear HB
             clear h0_ h1_ h2_ h3_
             have BK138 := n0_
             have GW138 := n1_
             have GE138 := n2_
             have HB := n3_
             clear n0_ n1_ n2_ n3_
             have hHeld := trivial
             refine norm_ (a' := ?_) ?_ ?_
             rotate_left
             ·
              simp only [putAll, Act.put, List.setIfInBounds_toArray, List.set_cons_zero, List.set_cons_succ]
              rfl
             refine one_ (i := 6) (N := some 19) #[true, true, true, true, true, true, true, false, true, false, false, true, false] rfl rfl (one_of HT_.out (by kernel_rfl)) (by decide) (fun K hK => ?_)
             refine goes_ Try.func50 (by kernel_rfl) rfl #[.int .u64 t132, .int .u64 t133] (by rfl) rfl rfl (by (try simp only [List.map_toArray, List.map_cons, List.map_nil]); first | done | rfl | (simp only [List.length_drop, List.length_take]; rfl)) ?_
             with_reducible refine (safeint_common.calls t132 t133 t134 _ A9.out).mono ?_
             rintro e w' ⟨rfl, ⟨nd, rfl⟩⟩
             refine ⟨_, rfl, ?_⟩
             refine hK.out _ _ trivial (fun hHeld => ?_)
             clear hK K
             refine norm_ (a' := ?_) ?_ ?_
             rotate_left
             ·
              show Act.put _ (some 19) _ = _
              simp only [Act.put, List.setIfInBounds_toArray, List.set_cons_zero, List.set_cons_succ, i64_w, i32_w]
              rfl
             refine pure_ (i := 7) (N := some 20) (v := ?_) (a' := ?_) #[true, true, true, true, true, true, true, true, true, false, false, true, false] rfl rfl (any_of HT_.out (by kernel_rfl)) (fun _ _ _ h => h) (Or.inl ⟨by rfl, ?_⟩) ?_ ?_
             rotate_left
             ·
              intro w'
              go_simp
              with_reducible rfl
             rotate_left
             ·
              simp only [Act.put, List.setIfInBounds_toArray, List.set_cons_zero, List.set_cons_succ, i64_w, i32_w]
              rfl
             exact norm_ (by first | (simp only [putAll, Act.put, List.setIfInBounds_toArray, List.set_cons_zero, List.set_cons_succ]; done) | (simp only [putAll, Act.put, List.setIfInBounds_toArray, List.set_cons_zero, List.set_cons_succ]; rfl)) (hJ1_3_5_6_11 (gb138) _ ⟨(by (with_reducible repeat (first | refine blk_drewN ?_ _ | refine blk_drew ?_ | refine blk_alloc ?_ _)); exact BK138.out), GW138.out, GE138.out, (by repeat (first | (with_reducible first | exact HB.out | apply below_alloc | apply pw_below_drewN | apply below_drew1 | refine below_set ?_ GE138.out) | exact HB.out))⟩)
           ·
            skip
            rintro _ w16 h0_
            have n0_ : Aside0 (Below w.heap.size w w16) := ⟨h0_⟩
            clear HB
            clear h0_
            have HB := n0_
            clear n0_
            have hHeld := trivial
            refine norm_ (a' := ?_) ?_ ?_
            rotate_left
            ·
             simp only [putAll, Act.put, List.setIfInBounds_toArray, List.set_cons_zero, List.set_cons_succ]
             rfl
            refine two_ (i := 9) (j := 11) (Ni := some 22) (Nj := some 6) #[true, true, true, true, true, true, true, true, true, true, false, false, false] #[true, true, true, true, true, true, true, true, true, false, false, true, false] rfl rfl rfl rfl (two_of HT_.out (by kernel_rfl)) (by decide) (by decide) (fun K hK => ?_) (fun K hK => ?_)
            ·
             skip
             refine goes_ Try.func51 (by kernel_rfl) rfl #[.int .i64 a1] (by rfl) rfl rfl (by (try simp only [List.map_toArray, List.map_cons, List.map_nil]); first | done | rfl | (simp only [List.length_drop, List.length_take]; rfl)) ?_
             with_reducible refine (safeint_size.calls a1 t135 _ A11.out).mono ?_
             rintro e w' ⟨rfl, ⟨nd, rfl⟩⟩
             refine ⟨_, rfl, ?_⟩
             refine hK.out _ _ trivial (fun hHeld => ?_)
             clear hK K
             refine norm_ (a' := ?_) ?_ ?_
             rotate_left
             ·
              show Act.put _ (some 22) _ = _
              simp only [Act.put, List.setIfInBounds_toArray, List.set_cons_zero, List.set_cons_succ, i64_w, i32_w]
              rfl
             exact norm_ (by first | (simp only [putAll, Act.put, List.setIfInBounds_toArray, List.set_cons_zero, List.set_cons_succ]; done) | (simp only [putAll, Act.put, List.setIfInBounds_toArray, List.set_cons_zero, List.set_cons_succ]; rfl)) (hJ1_3_5_6_9 () _ (by repeat (first | (with_reducible first | exact HB.out | apply below_alloc | apply pw_below_drewN | apply below_drew1) | exact HB.out)))
            ·
             skip
             refine box_step ?hg (N := 6) ?hd (cs := #[.int .u64 0, .int .u64 0]) (t := 74) ?hr ?_; (case hd => rfl); (case hg => rfl); (case hr => first | (go_simp; done) | (go_simp; rfl))
             intro gb138 hg w17 hbox hb
             have n0_ := Aside0.mk (below_step (by repeat (first | (with_reducible first | exact HB.out | apply below_alloc | apply pw_below_drewN | apply below_drew1) | exact HB.out)) hb)
             have n1_ := Aside0.mk (hbox)
             have n2_ := Aside0.mk ((by rw [hg]; exact (below_size (by repeat (first | (with_reducible first | exact HB.out | apply below_alloc | apply pw_below_drewN | apply below_drew1) | exact HB.out))) : w.heap.size ≤ gb138))
             have n3_ := Aside0.mk ((by rw [hg]; exact (below_size (by repeat (first | (with_reducible first | exact HB.out | apply below_alloc | apply pw_below_drewN | apply below_drew1) | exact HB.out))) : w.heap.size ≤ gb138))
             clear HB
             have HB := n0_
             have BK138 := n1_
             have GW138 := n2_
             have GE138 := n3_
             clear n0_ n1_ n2_ n3_
             clear hb hbox hg
             refine hK.out _ _ trivial (fun hHeld => ?_)
             clear hK K
             refine norm_ (a' := ?_) ?_ ?_
             rotate_left
             ·
              show Act.put _ (some 6) _ = _
              simp only [Act.put, List.setIfInBounds_toArray, List.set_cons_zero, List.set_cons_succ, i64_w, i32_w]
              rfl
             exact norm_ (by first | (simp only [putAll, Act.put, List.setIfInBounds_toArray, List.set_cons_zero, List.set_cons_succ]; done) | (simp only [putAll, Act.put, List.setIfInBounds_toArray, List.set_cons_zero, List.set_cons_succ]; rfl)) (hJ1_3_5_6_11 (gb138) _ ⟨(by (with_reducible repeat (first | refine blk_drewN ?_ _ | refine blk_drew ?_ | refine blk_alloc ?_ _)); exact BK138.out), GW138.out, GE138.out, (by repeat (first | (with_reducible first | exact HB.out | apply below_alloc | apply pw_below_drewN | apply below_drew1 | refine below_set ?_ GE138.out) | exact HB.out))⟩)
          ·
           skip
           rintro gb138 w17 ⟨h0_, h1_, h2_, h3_⟩
           have n0_ : Aside0 (w17.heap[gb138]? = some (.cells #[.int .u64 0, .int .u64 0] 74 (0, 0))) := ⟨h0_⟩
           have n1_ : Aside0 (w.heap.size ≤ gb138) := ⟨h1_⟩
           have n2_ : Aside0 (w.heap.size ≤ gb138) := ⟨h2_⟩
           have n3_ : Aside0 (Below w.heap.size w w17) := ⟨h3_⟩
           clear HB
           clear h0_ h1_ h2_ h3_
           have BK138 := n0_
           have GW138 := n1_
           have GE138 := n2_
           have HB := n3_
           clear n0_ n1_ n2_ n3_
           have hHeld := trivial
           refine norm_ (a' := ?_) ?_ ?_
           rotate_left
           ·
            simp only [putAll, Act.put, List.setIfInBounds_toArray, List.set_cons_zero, List.set_cons_succ]
            rfl
           refine one_ (i := 9) (N := some 22) #[true, true, true, true, true, true, true, true, true, true, false, true, false] rfl rfl (one_of HT_.out (by kernel_rfl)) (by decide) (fun K hK => ?_)
           refine goes_ Try.func51 (by kernel_rfl) rfl #[.int .i64 a1] (by rfl) rfl rfl (by (try simp only [List.map_toArray, List.map_cons, List.map_nil]); first | done | rfl | (simp only [List.length_drop, List.length_take]; rfl)) ?_
           with_reducible refine (safeint_size.calls a1 t135 _ A11.out).mono ?_
           rintro e w' ⟨rfl, ⟨nd, rfl⟩⟩
           refine ⟨_, rfl, ?_⟩
           refine hK.out _ _ trivial (fun hHeld => ?_)
           clear hK K
           refine norm_ (a' := ?_) ?_ ?_
           rotate_left
           ·
            show Act.put _ (some 22) _ = _
            simp only [Act.put, List.setIfInBounds_toArray, List.set_cons_zero, List.set_cons_succ, i64_w, i32_w]
            rfl
           exact norm_ (by first | (simp only [putAll, Act.put, List.setIfInBounds_toArray, List.set_cons_zero, List.set_cons_succ]; done) | (simp only [putAll, Act.put, List.setIfInBounds_toArray, List.set_cons_zero, List.set_cons_succ]; rfl)) (hJ1_3_5_6_9_11 (gb138) _ ⟨(by (with_reducible repeat (first | refine blk_drewN ?_ _ | refine blk_drew ?_ | refine blk_alloc ?_ _)); exact BK138.out), GW138.out, GE138.out, (by repeat (first | (with_reducible first | exact HB.out | apply below_alloc | apply pw_below_drewN | apply below_drew1 | refine below_set ?_ GE138.out) | exact HB.out))⟩)
         ·
          skip
          rintro _ w16 h0_
          have n0_ : Aside0 (Below w.heap.size w w16) := ⟨h0_⟩
          clear HB
          clear h0_
          have HB := n0_
          clear n0_
          have hHeld := trivial
          refine norm_ (a' := ?_) ?_ ?_
          rotate_left
          ·
           simp only [putAll, Act.put, List.setIfInBounds_toArray, List.set_cons_zero, List.set_cons_succ]
           rfl
          refine two_ (i := 10) (j := 11) (Ni := some 23) (Nj := some 6) #[true, true, true, true, true, true, true, true, true, true, true, false, false] #[true, true, true, true, true, true, true, true, true, true, false, true, false] rfl rfl rfl rfl (two_of HT_.out (by kernel_rfl)) (by decide) (by decide) (fun K hK => ?_) (fun K hK => ?_)
          ·
           skip
           refine goes_ Try.func52 (by kernel_rfl) rfl #[.int .u64 (IntKind.u64.wrap (Int.tdiv t131 t134)), .int .u64 t135] (by rfl) rfl rfl (by (try simp only [List.map_toArray, List.map_cons, List.map_nil]); first | done | rfl | (simp only [List.length_drop, List.length_take]; rfl)) ?_
           with_reducible refine (safeint_times.calls (IntKind.u64.wrap (Int.tdiv t131 t134)) t135 t136 t137 _ A12.out).mono ?_
           rintro e w17 ⟨rfl, hb⟩
           refine ⟨_, rfl, ?_⟩
           have n0_ := Aside0.mk (below_step (by repeat (first | (with_reducible first | exact HB.out | apply below_alloc | apply pw_below_drewN | apply below_drew1) | exact HB.out)) hb)
           clear HB
           have HB := n0_
           clear n0_
           (try clear hb)
           (try clear hb2)
           (try clear hk)
           (try clear hi)
           refine hK.out _ _ trivial (fun hHeld => ?_)
           clear hK K
           refine norm_ (a' := ?_) ?_ ?_
           rotate_left
           ·
            show Act.put _ (some 23) _ = _
            simp only [Act.put, List.setIfInBounds_toArray, List.set_cons_zero, List.set_cons_succ, i64_w, i32_w]
            rfl
           exact norm_ (by first | (simp only [putAll, Act.put, List.setIfInBounds_toArray, List.set_cons_zero, List.set_cons_succ]; done) | (simp only [putAll, Act.put, List.setIfInBounds_toArray, List.set_cons_zero, List.set_cons_succ]; rfl)) (hJ1_3_5_6_9_10 () _ (by repeat (first | (with_reducible first | exact HB.out | apply below_alloc | apply pw_below_drewN | apply below_drew1) | exact HB.out)))
          ·
           skip
           refine box_step ?hg (N := 6) ?hd (cs := #[.int .u64 0, .int .u64 0]) (t := 74) ?hr ?_; (case hd => rfl); (case hg => rfl); (case hr => first | (go_simp; done) | (go_simp; rfl))
           intro gb138 hg w17 hbox hb
           have n0_ := Aside0.mk (below_step (by repeat (first | (with_reducible first | exact HB.out | apply below_alloc | apply pw_below_drewN | apply below_drew1) | exact HB.out)) hb)
           have n1_ := Aside0.mk (hbox)
           have n2_ := Aside0.mk ((by rw [hg]; exact (below_size (by repeat (first | (with_reducible first | exact HB.out | apply below_alloc | apply pw_below_drewN | apply below_drew1) | exact HB.out))) : w.heap.size ≤ gb138))
           have n3_ := Aside0.mk ((by rw [hg]; exact (below_size (by repeat (first | (with_reducible first | exact HB.out | apply below_alloc | apply pw_below_drewN | apply below_drew1) | exact HB.out))) : w.heap.size ≤ gb138))
           clear HB
           have HB := n0_
           have BK138 := n1_
           have GW138 := n2_
           have GE138 := n3_
           clear n0_ n1_ n2_ n3_
           clear hb hbox hg
           refine hK.out _ _ trivial (fun hHeld => ?_)
           clear hK K
           refine norm_ (a' := ?_) ?_ ?_
           rotate_left
           ·
            show Act.put _ (some 6) _ = _
            simp only [Act.put, List.setIfInBounds_toArray, List.set_cons_zero, List.set_cons_succ, i64_w, i32_w]
            rfl
           exact norm_ (by first | (simp only [putAll, Act.put, List.setIfInBounds_toArray, List.set_cons_zero, List.set_cons_succ]; done) | (simp only [putAll, Act.put, List.setIfInBounds_toArray, List.set_cons_zero, List.set_cons_succ]; rfl)) (hJ1_3_5_6_9_11 (gb138) _ ⟨(by (with_reducible repeat (first | refine blk_drewN ?_ _ | refine blk_drew ?_ | refine blk_alloc ?_ _)); exact BK138.out), GW138.out, GE138.out, (by repeat (first | (with_reducible first | exact HB.out | apply below_alloc | apply pw_below_drewN | apply below_drew1 | refine below_set ?_ GE138.out) | exact HB.out))⟩)
        ·
         skip
         rintro gb138 w17 ⟨h0_, h1_, h2_, h3_⟩
         have n0_ : Aside0 (w17.heap[gb138]? = some (.cells #[.int .u64 0, .int .u64 0] 74 (0, 0))) := ⟨h0_⟩
         have n1_ : Aside0 (w.heap.size ≤ gb138) := ⟨h1_⟩
         have n2_ : Aside0 (w.heap.size ≤ gb138) := ⟨h2_⟩
         have n3_ : Aside0 (Below w.heap.size w w17) := ⟨h3_⟩
         clear HB
         clear h0_ h1_ h2_ h3_
         have BK138 := n0_
         have GW138 := n1_
         have GE138 := n2_
         have HB := n3_
         clear n0_ n1_ n2_ n3_
         have hHeld := trivial
         refine norm_ (a' := ?_) ?_ ?_
         rotate_left
         ·
          simp only [putAll, Act.put, List.setIfInBounds_toArray, List.set_cons_zero, List.set_cons_succ]
          rfl
         refine one_ (i := 10) (N := some 23) #[true, true, true, true, true, true, true, true, true, true, true, true, false] rfl rfl (one_of HT_.out (by kernel_rfl)) (by decide) (fun K hK => ?_)
         refine goes_ Try.func52 (by kernel_rfl) rfl #[.int .u64 (IntKind.u64.wrap (Int.tdiv t131 t134)), .int .u64 t135] (by rfl) rfl rfl (by (try simp only [List.map_toArray, List.map_cons, List.map_nil]); first | done | rfl | (simp only [List.length_drop, List.length_take]; rfl)) ?_
         with_reducible refine (safeint_times.calls (IntKind.u64.wrap (Int.tdiv t131 t134)) t135 t136 t137 _ A12.out).mono ?_
         rintro e w18 ⟨rfl, hb⟩
         refine ⟨_, rfl, ?_⟩
         have n0_ := Aside0.mk (blk_below (g := gb138) (o := .cells #[.int .u64 0, .int .u64 0] 74 (0, 0)) (by (with_reducible repeat (first | refine blk_drewN ?_ _ | refine blk_drew ?_ | refine blk_alloc ?_ _)); exact BK138.out) hb)
         have n1_ := Aside0.mk (below_step (by repeat (first | (with_reducible first | exact HB.out | apply below_alloc | apply pw_below_drewN | apply below_drew1 | refine below_set ?_ GE138.out) | exact HB.out)) hb)
         clear BK138
         clear HB
         have BK138 := n0_
         have HB := n1_
         clear n0_ n1_
         (try clear hb)
         (try clear hb2)
         (try clear hk)
         (try clear hi)
         refine hK.out _ _ trivial (fun hHeld => ?_)
         clear hK K
         refine norm_ (a' := ?_) ?_ ?_
         rotate_left
         ·
          show Act.put _ (some 23) _ = _
          simp only [Act.put, List.setIfInBounds_toArray, List.set_cons_zero, List.set_cons_succ, i64_w, i32_w]
          rfl
         exact norm_ (by first | (simp only [putAll, Act.put, List.setIfInBounds_toArray, List.set_cons_zero, List.set_cons_succ]; done) | (simp only [putAll, Act.put, List.setIfInBounds_toArray, List.set_cons_zero, List.set_cons_succ]; rfl)) (hJ1_3_5_6_9_10_11 (gb138) _ ⟨(by (with_reducible repeat (first | refine blk_drewN ?_ _ | refine blk_drew ?_ | refine blk_alloc ?_ _)); exact BK138.out), GW138.out, GE138.out, (by repeat (first | (with_reducible first | exact HB.out | apply below_alloc | apply pw_below_drewN | apply below_drew1 | refine below_set ?_ GE138.out) | exact HB.out))⟩)
       ·
        skip
        rintro _ w17 h0_
        have n0_ : Aside0 (Below w.heap.size w w17) := ⟨h0_⟩
        clear HB
        clear h0_
        have HB := n0_
        clear n0_
        have hHeld := trivial
        refine norm_ (a' := ?_) ?_ ?_
        rotate_left
        ·
         simp only [putAll, Act.put, List.setIfInBounds_toArray, List.set_cons_zero, List.set_cons_succ]
         rfl
        refine one_ (i := 11) (N := some 6) #[true, true, true, true, true, true, true, true, true, true, true, true, false] rfl rfl (one_of HT_.out (by kernel_rfl)) (by decide) (fun K hK => ?_)
        refine box_step ?hg (N := 6) ?hd (cs := #[.int .u64 0, .int .u64 0]) (t := 74) ?hr ?_; (case hd => rfl); (case hg => rfl); (case hr => first | (go_simp; done) | (go_simp; rfl))
        intro gb138 hg w18 hbox hb
        have n0_ := Aside0.mk (below_step (by repeat (first | (with_reducible first | exact HB.out | apply below_alloc | apply pw_below_drewN | apply below_drew1) | exact HB.out)) hb)
        have n1_ := Aside0.mk (hbox)
        have n2_ := Aside0.mk ((by rw [hg]; exact (below_size (by repeat (first | (with_reducible first | exact HB.out | apply below_alloc | apply pw_below_drewN | apply below_drew1) | exact HB.out))) : w.heap.size ≤ gb138))
        have n3_ := Aside0.mk ((by rw [hg]; exact (below_size (by repeat (first | (with_reducible first | exact HB.out | apply below_alloc | apply pw_below_drewN | apply below_drew1) | exact HB.out))) : w.heap.size ≤ gb138))
        clear HB
        have HB := n0_
        have BK138 := n1_
        have GW138 := n2_
        have GE138 := n3_
        clear n0_ n1_ n2_ n3_
        clear hb hbox hg
        refine hK.out _ _ trivial (fun hHeld => ?_)
        clear hK K
        refine norm_ (a' := ?_) ?_ ?_
        rotate_left
        ·
         show Act.put _ (some 6) _ = _
         simp only [Act.put, List.setIfInBounds_toArray, List.set_cons_zero, List.set_cons_succ, i64_w, i32_w]
         rfl
        exact norm_ (by first | (simp only [putAll, Act.put, List.setIfInBounds_toArray, List.set_cons_zero, List.set_cons_succ]; done) | (simp only [putAll, Act.put, List.setIfInBounds_toArray, List.set_cons_zero, List.set_cons_succ]; rfl)) (hJ1_3_5_6_9_10_11 (gb138) _ ⟨(by (with_reducible repeat (first | refine blk_drewN ?_ _ | refine blk_drew ?_ | refine blk_alloc ?_ _)); exact BK138.out), GW138.out, GE138.out, (by repeat (first | (with_reducible first | exact HB.out | apply below_alloc | apply pw_below_drewN | apply below_drew1 | refine below_set ?_ GE138.out) | exact HB.out))⟩)
      rintro gb138 w18 ⟨h0_, h1_, h2_, h3_⟩
      have n0_ : Aside0 (w18.heap[gb138]? = some (.cells #[.int .u64 0, .int .u64 0] 74 (0, 0))) := ⟨h0_⟩
      have n1_ : Aside0 (w.heap.size ≤ gb138) := ⟨h1_⟩
      have n2_ : Aside0 (w.heap.size ≤ gb138) := ⟨h2_⟩
      have n3_ : Aside0 (Below w.heap.size w w18) := ⟨h3_⟩
      clear HB
      clear h0_ h1_ h2_ h3_
      have BK138 := n0_
      have GW138 := n1_
      have GE138 := n2_
      have HB := n3_
      clear n0_ n1_ n2_ n3_
      have hHeld := trivial
      refine norm_ (a' := ?_) ?_ ?_
      rotate_left
      ·
       simp only [putAll, Act.put, List.setIfInBounds_toArray, List.set_cons_zero, List.set_cons_succ]
       rfl
      refine one_ (i := 12) (N := none) #[true, true, true, true, true, true, true, true, true, true, true, true, true] rfl rfl (one_of HT_.out (by kernel_rfl)) (by decide) (fun K hK => ?_)
      have hs19 : w18.cell? ⟨gb138, 0, none⟩ = some (.int .u64 0) := (blk_cell BK138.out 0).trans rfl
      have hfs19 := blk_frozen BK138.out 0
      have hs20 : w18.cell? ⟨gb138, 1, none⟩ = some (.int .u64 0) := (blk_cell BK138.out 1).trans rfl
      have hfs20 := blk_frozen BK138.out 1
      refine skip_ (w1 := ?_) (by rfl) rfl ?_ ?_
      rotate_left
      ·
       go_simp
       rfl
      refine hK.out _ _ trivial (fun hHeld => ?_)
      clear hK K
      refine done_ (done_of HT_.out (by kernel_rfl)) ?_
      have hcz21_0 : w18.cell? ⟨gb138, 0, none⟩ = some (.int .u64 0) := (blk_cell BK138.out 0).trans rfl
      have hcz21_1 : w18.cell? ⟨gb138, 1, none⟩ = some (.int .u64 0) := (blk_cell BK138.out 1).trans rfl
      have hfz21_0 := blk_frozen BK138.out 0
      have hfz21_1 := blk_frozen BK138.out 1
      try go_wp2_with (first | ((with_reducible refine gate_callee (f := 49) rfl ?_); refine goesL_ (some 29) rfl rfl Try.func49 (by kernel_rfl) rfl #[.int .u64 t137, .bool false] rfl (by (try simp only [List.map_toArray, List.map_cons, List.map_nil]); first | done | rfl | (simp only [List.length_drop, List.length_take]; rfl)) ?_; (with_reducible refine (safeint_signed.calls kj2 t137 false t139 t140 _ A14.out).mono ?_); rintro e w' ⟨rfl, ⟨nd, rfl⟩⟩; refine ⟨_, rfl, ?_⟩))
      go_ret2
      exact ⟨by first | rfl | (simp [errW_none, errW_some] <;> rfl) | (simp [*, errW_none, errW_some] <;> rfl), by repeat (first | (with_reducible first | exact HB.out | apply below_alloc | apply pw_below_drewN | apply below_drew1 | refine below_set ?_ GE138.out) | exact HB.out)⟩
     ·
      rw [if_neg c13] at H
      have c13b0 : (t136 == 0) = false := beq_eq_false_iff_ne.mpr c13
      have c13b1 : (t136 != 0) = true := bne_iff_ne.mpr c13
      simp only [Option.some.injEq, Prod.mk.injEq] at H
      obtain ⟨rfl, rfl⟩ := H
      try go_wp2
      have n0_ := Aside0.mk (below_drew1 HB.out)
      clear HB
      have HB := n0_
      clear n0_
      refine start_ (n := 13) (S := fun w' => True) (ds := []) #[false, false, false, false, false, false, false, false, false, false, false, false, false] (by kernel_rfl) rfl rfl trivial (fun hHeld => ?_); refine with_tabW safeint_Lcm.tab3 safeint_Lcm.bits3 (fun HT_ HW_ => ?_)
      generalize wc.drew = w22 at HB hHeld ⊢
      refine pure_ (i := 0) (N := some 13) (v := ?_) (a' := ?_) #[true, false, false, false, false, false, false, false, false, false, false, false, false] rfl rfl (any_of HT_.out (by kernel_rfl)) (fun _ _ _ h => h) (Or.inl ⟨by rfl, ?_⟩) ?_ ?_
      rotate_left
      ·
       intro w'
       go_simp
       with_reducible rfl
      rotate_left
      ·
       simp only [Act.put, List.setIfInBounds_toArray, List.set_cons_zero, List.set_cons_succ, i64_w, i32_w]
       rfl
      refine pure_ (i := 2) (N := some 15) (v := ?_) (a' := ?_) #[true, false, true, false, false, false, false, false, false, false, false, false, false] rfl rfl (any_of HT_.out (by kernel_rfl)) (fun _ _ _ h => h) (Or.inl ⟨by rfl, ?_⟩) ?_ ?_
      rotate_left
      ·
       intro w'
       go_simp
       with_reducible rfl
      rotate_left
      ·
       simp only [Act.put, List.setIfInBounds_toArray, List.set_cons_zero, List.set_cons_succ, i64_w, i32_w]
       rfl
      refine pure_ (i := 4) (N := some 17) (v := ?_) (a' := ?_) #[true, false, true, false, true, false, false, false, false, false, false, false, false] rfl rfl (any_of HT_.out (by kernel_rfl)) (fun _ _ _ h => h) (Or.inl ⟨by rfl, ?_⟩) ?_ ?_
      rotate_left
      ·
       intro w'
       go_simp
       with_reducible rfl
      rotate_left
      ·
       simp only [Act.put, List.setIfInBounds_toArray, List.set_cons_zero, List.set_cons_succ, i64_w, i32_w]
       rfl
      refine pure_ (i := 8) (N := some 21) (v := ?_) (a' := ?_) #[true, false, true, false, true, false, false, false, true, false, false, false, false] rfl rfl (any_of HT_.out (by kernel_rfl)) (fun _ _ _ h => h) (Or.inl ⟨by rfl, ?_⟩) ?_ ?_
      rotate_left
      ·
       intro w'
       go_simp
       with_reducible rfl
      rotate_left
      ·
       simp only [Act.put, List.setIfInBounds_toArray, List.set_cons_zero, List.set_cons_succ, i64_w, i32_w]
       rfl
      refine join_ (σ := Nat) 1 #[true, true, true, true, true, true, true, true, true, true, true, true, false] (fun s_ => [(14, .int .u64 t131), (16, .int .u64 t132), (18, .int .u64 t133), (19, .int .u64 t134), (22, .int .u64 t135), (23, .agg #[.int .u64 t136, .int .u64 t137]), (6, .pointer (some ⟨s_, 0, none⟩)), (20, .int .u64 (IntKind.u64.wrap (Int.tdiv t131 t134)))]) (fun s_ w' => (w'.heap[s_]? = some (.cells #[.int .u64 0, .int .u64 0] 74 (0, 0))) ∧ (w.heap.size ≤ s_) ∧ (w.heap.size ≤ s_) ∧ (Below w.heap.size w w')) ?_ ?_
      rotate_left
      ·
       intro hJ1_3_5_6_9_10_11
       refine join_ (σ := Unit) 2 #[true, true, true, true, true, true, true, true, true, true, true, false, false] (fun s_ => [(14, .int .u64 t131), (16, .int .u64 t132), (18, .int .u64 t133), (19, .int .u64 t134), (22, .int .u64 t135), (23, .agg #[.int .u64 t136, .int .u64 t137]), (20, .int .u64 (IntKind.u64.wrap (Int.tdiv t131 t134)))]) (fun s_ w' => (Below w.heap.size w w')) ?_ ?_
       rotate_left
       ·
        intro hJ1_3_5_6_9_10
        refine join_ (σ := Nat) 2 #[true, true, true, true, true, true, true, true, true, true, false, true, false] (fun s_ => [(14, .int .u64 t131), (16, .int .u64 t132), (18, .int .u64 t133), (19, .int .u64 t134), (22, .int .u64 t135), (6, .pointer (some ⟨s_, 0, none⟩)), (20, .int .u64 (IntKind.u64.wrap (Int.tdiv t131 t134)))]) (fun s_ w' => (w'.heap[s_]? = some (.cells #[.int .u64 0, .int .u64 0] 74 (0, 0))) ∧ (w.heap.size ≤ s_) ∧ (w.heap.size ≤ s_) ∧ (Below w.heap.size w w')) ?_ ?_
        rotate_left
        ·
         intro hJ1_3_5_6_9_11
         refine join_ (σ := Unit) 3 #[true, true, true, true, true, true, true, true, true, true, false, false, false] (fun s_ => [(14, .int .u64 t131), (16, .int .u64 t132), (18, .int .u64 t133), (19, .int .u64 t134), (22, .int .u64 t135), (20, .int .u64 (IntKind.u64.wrap (Int.tdiv t131 t134)))]) (fun s_ w' => (Below w.heap.size w w')) ?_ ?_
         rotate_left
         ·
          intro hJ1_3_5_6_9
          refine join_ (σ := Nat) 3 #[true, true, true, true, true, true, true, true, true, false, false, true, false] (fun s_ => [(14, .int .u64 t131), (16, .int .u64 t132), (18, .int .u64 t133), (19, .int .u64 t134), (6, .pointer (some ⟨s_, 0, none⟩)), (20, .int .u64 (IntKind.u64.wrap (Int.tdiv t131 t134)))]) (fun s_ w' => (w'.heap[s_]? = some (.cells #[.int .u64 0, .int .u64 0] 74 (0, 0))) ∧ (w.heap.size ≤ s_) ∧ (w.heap.size ≤ s_) ∧ (Below w.heap.size w w')) ?_ ?_
          rotate_left
          ·
           intro hJ1_3_5_6_11
           refine join_ (σ := Unit) 4 #[true, true, true, true, true, true, true, true, true, false, false, false, false] (fun s_ => [(14, .int .u64 t131), (16, .int .u64 t132), (18, .int .u64 t133), (19, .int .u64 t134), (20, .int .u64 (IntKind.u64.wrap (Int.tdiv t131 t134)))]) (fun s_ w' => (Below w.heap.size w w')) ?_ ?_
           rotate_left
           ·
            intro hJ1_3_5_6
            refine join_ (σ := Nat) 5 #[true, true, true, true, true, true, false, false, true, false, false, true, false] (fun s_ => [(14, .int .u64 t131), (16, .int .u64 t132), (18, .int .u64 t133), (6, .pointer (some ⟨s_, 0, none⟩))]) (fun s_ w' => (w'.heap[s_]? = some (.cells #[.int .u64 0, .int .u64 0] 74 (0, 0))) ∧ (w.heap.size ≤ s_) ∧ (w.heap.size ≤ s_) ∧ (Below w.heap.size w w')) ?_ ?_
            rotate_left
            ·
             intro hJ1_3_5_11
             refine join_ (σ := Unit) 6 #[true, true, true, true, true, true, false, false, true, false, false, false, false] (fun s_ => [(14, .int .u64 t131), (16, .int .u64 t132), (18, .int .u64 t133)]) (fun s_ w' => (Below w.heap.size w w')) ?_ ?_
             rotate_left
             ·
              intro hJ1_3_5
              refine join_ (σ := Nat) 6 #[true, true, true, true, true, false, false, false, true, false, false, true, false] (fun s_ => [(14, .int .u64 t131), (16, .int .u64 t132), (6, .pointer (some ⟨s_, 0, none⟩))]) (fun s_ w' => (w'.heap[s_]? = some (.cells #[.int .u64 0, .int .u64 0] 74 (0, 0))) ∧ (w.heap.size ≤ s_) ∧ (w.heap.size ≤ s_) ∧ (Below w.heap.size w w')) ?_ ?_
              rotate_left
              ·
               intro hJ1_3_11
               refine join_ (σ := Unit) 7 #[true, true, true, true, true, false, false, false, true, false, false, false, false] (fun s_ => [(14, .int .u64 t131), (16, .int .u64 t132)]) (fun s_ w' => (Below w.heap.size w w')) ?_ ?_
               rotate_left
               ·
                intro hJ1_3
                refine join_ (σ := Nat) 7 #[true, true, true, false, true, false, false, false, true, false, false, true, false] (fun s_ => [(14, .int .u64 t131), (6, .pointer (some ⟨s_, 0, none⟩))]) (fun s_ w' => (w'.heap[s_]? = some (.cells #[.int .u64 0, .int .u64 0] 74 (0, 0))) ∧ (w.heap.size ≤ s_) ∧ (w.heap.size ≤ s_) ∧ (Below w.heap.size w w')) ?_ ?_
                rotate_left
                ·
                 intro hJ1_11
                 refine join_ (σ := Unit) 8 #[true, true, true, false, true, false, false, false, true, false, false, false, false] (fun s_ => [(14, .int .u64 t131)]) (fun s_ w' => (Below w.heap.size w w')) ?_ ?_
                 rotate_left
                 ·
                  intro hJ1
                  refine join_ (σ := Nat) 8 #[true, false, true, false, true, false, false, false, true, false, false, true, false] (fun s_ => [(6, .pointer (some ⟨s_, 0, none⟩))]) (fun s_ w' => (w'.heap[s_]? = some (.cells #[.int .u64 0, .int .u64 0] 74 (0, 0))) ∧ (w.heap.size ≤ s_) ∧ (w.heap.size ≤ s_) ∧ (Below w.heap.size w w')) ?_ ?_
                  rotate_left
                  ·
                   intro hJ11
                   refine two_ (i := 1) (j := 11) (Ni := some 14) (Nj := some 6) #[true, true, true, false, true, false, false, false, true, false, false, false, false] #[true, false, true, false, true, false, false, false, true, false, false, true, false] rfl rfl rfl rfl (two_of HT_.out (by kernel_rfl)) (by decide) (by decide) (fun K hK => ?_) (fun K hK => ?_)
                   ·
                    skip
                    refine goes_ Try.func51 (by kernel_rfl) rfl #[.int .i64 a0] (by rfl) rfl rfl (by (try simp only [List.map_toArray, List.map_cons, List.map_nil]); first | done | rfl | (simp only [List.length_drop, List.length_take]; rfl)) ?_
                    with_reducible refine (safeint_size.calls a0 t131 _ A6.out).mono ?_
                    rintro e w' ⟨rfl, ⟨nd, rfl⟩⟩
                    refine ⟨_, rfl, ?_⟩
                    refine hK.out _ _ trivial (fun hHeld => ?_)
                    clear hK K
                    refine norm_ (a' := ?_) ?_ ?_
                    rotate_left
                    ·
                     show Act.put _ (some 14) _ = _
                     simp only [Act.put, List.setIfInBounds_toArray, List.set_cons_zero, List.set_cons_succ, i64_w, i32_w]
                     rfl
                    exact norm_ (by first | (simp only [putAll, Act.put, List.setIfInBounds_toArray, List.set_cons_zero, List.set_cons_succ]; done) | (simp only [putAll, Act.put, List.setIfInBounds_toArray, List.set_cons_zero, List.set_cons_succ]; rfl)) (hJ1 () _ (by repeat (first | (with_reducible first | exact HB.out | apply below_alloc | apply pw_below_drewN | apply below_drew1) | exact HB.out)))
                   ·
                    skip
                    refine box_step ?hg (N := 6) ?hd (cs := #[.int .u64 0, .int .u64 0]) (t := 74) ?hr ?_; (case hd => rfl); (case hg => rfl); (case hr => first | (go_simp; done) | (go_simp; rfl))
                    intro gb138 hg w23 hbox hb
                    have n0_ := Aside0.mk (below_step (by repeat (first | (with_reducible first | exact HB.out | apply below_alloc | apply pw_below_drewN | apply below_drew1) | exact HB.out)) hb)
                    have n1_ := Aside0.mk (hbox)
                    have n2_ := Aside0.mk ((by rw [hg]; exact (below_size (by repeat (first | (with_reducible first | exact HB.out | apply below_alloc | apply pw_below_drewN | apply below_drew1) | exact HB.out))) : w.heap.size ≤ gb138))
                    have n3_ := Aside0.mk ((by rw [hg]; exact (below_size (by repeat (first | (with_reducible first | exact HB.out | apply below_alloc | apply pw_below_drewN | apply below_drew1) | exact HB.out))) : w.heap.size ≤ gb138))
                    clear HB
                    have HB := n0_
                    have BK138 := n1_
                    have GW138 := n2_
                    have GE138 := n3_
                    clear n0_ n1_ n2_ n3_
                    clear hb hbox hg
                    refine hK.out _ _ trivial (fun hHeld => ?_)
                    clear hK K
                    refine norm_ (a' := ?_) ?_ ?_
                    rotate_left
                    ·
                     show Act.put _ (some 6) _ = _
                     simp only [Act.put, List.setIfInBounds_toArray, List.set_cons_zero, List.set_cons_succ, i64_w, i32_w]
                     rfl
                    exact norm_ (by first | (simp only [putAll, Act.put, List.setIfInBounds_toArray, List.set_cons_zero, List.set_cons_succ]; done) | (simp only [putAll, Act.put, List.setIfInBounds_toArray, List.set_cons_zero, List.set_cons_succ]; rfl)) (hJ11 (gb138) _ ⟨(by (with_reducible repeat (first | refine blk_drewN ?_ _ | refine blk_drew ?_ | refine blk_alloc ?_ _)); exact BK138.out), GW138.out, GE138.out, (by repeat (first | (with_reducible first | exact HB.out | apply below_alloc | apply pw_below_drewN | apply below_drew1 | refine below_set ?_ GE138.out) | exact HB.out))⟩)
                  ·
                   skip
                   rintro gb138 w24 ⟨h0_, h1_, h2_, h3_⟩
                   have n0_ : Aside0 (w24.heap[gb138]? = some (.cells #[.int .u64 0, .int .u64 0] 74 (0, 0))) := ⟨h0_⟩
                   have n1_ : Aside0 (w.heap.size ≤ gb138) := ⟨h1_⟩
                   have n2_ : Aside0 (w.heap.size ≤ gb138) := ⟨h2_⟩
                   have n3_ : Aside0 (Below w.heap.size w w24) := ⟨h3_⟩
                   clear HB
                   clear h0_ h1_ h2_ h3_
                   have BK138 := n0_
                   have GW138 := n1_
                   have GE138 := n2_
                   have HB := n3_
                   clear n0_ n1_ n2_ n3_
                   have hHeld := trivial
                   refine norm_ (a' := ?_) ?_ ?_
                   rotate_left
                   ·
                    simp only [putAll, Act.put, List.setIfInBounds_toArray, List.set_cons_zero, List.set_cons_succ]
                    rfl
                   refine one_ (i := 1) (N := some 14) #[true, true, true, false, true, false, false, false, true, false, false, true, false] rfl rfl (one_of HT_.out (by kernel_rfl)) (by decide) (fun K hK => ?_)
                   refine goes_ Try.func51 (by kernel_rfl) rfl #[.int .i64 a0] (by rfl) rfl rfl (by (try simp only [List.map_toArray, List.map_cons, List.map_nil]); first | done | rfl | (simp only [List.length_drop, List.length_take]; rfl)) ?_
                   with_reducible refine (safeint_size.calls a0 t131 _ A6.out).mono ?_
                   rintro e w' ⟨rfl, ⟨nd, rfl⟩⟩
                   refine ⟨_, rfl, ?_⟩
                   refine hK.out _ _ trivial (fun hHeld => ?_)
                   clear hK K
                   refine norm_ (a' := ?_) ?_ ?_
                   rotate_left
                   ·
                    show Act.put _ (some 14) _ = _
                    simp only [Act.put, List.setIfInBounds_toArray, List.set_cons_zero, List.set_cons_succ, i64_w, i32_w]
                    rfl
                   exact norm_ (by first | (simp only [putAll, Act.put, List.setIfInBounds_toArray, List.set_cons_zero, List.set_cons_succ]; done) | (simp only [putAll, Act.put, List.setIfInBounds_toArray, List.set_cons_zero, List.set_cons_succ]; rfl)) (hJ1_11 (gb138) _ ⟨(by (with_reducible repeat (first | refine blk_drewN ?_ _ | refine blk_drew ?_ | refine blk_alloc ?_ _)); exact BK138.out), GW138.out, GE138.out, (by repeat (first | (with_reducible first | exact HB.out | apply below_alloc | apply pw_below_drewN | apply below_drew1 | refine below_set ?_ GE138.out) | exact HB.out))⟩)
                 ·
                  skip
                  rintro _ w23 h0_
                  have n0_ : Aside0 (Below w.heap.size w w23) := ⟨h0_⟩
                  clear HB
                  clear h0_
                  have HB := n0_
                  clear n0_
                  have hHeld := trivial
                  refine norm_ (a' := ?_) ?_ ?_
                  rotate_left
                  ·
                   simp only [putAll, Act.put, List.setIfInBounds_toArray, List.set_cons_zero, List.set_cons_succ]
                   rfl
                  refine two_ (i := 3) (j := 11) (Ni := some 16) (Nj := some 6) #[true, true, true, true, true, false, false, false, true, false, false, false, false] #[true, true, true, false, true, false, false, false, true, false, false, true, false] rfl rfl rfl rfl (two_of HT_.out (by kernel_rfl)) (by decide) (by decide) (fun K hK => ?_) (fun K hK => ?_)
                  ·
                   skip
                   refine goes_ Try.func51 (by kernel_rfl) rfl #[.int .i64 a0] (by rfl) rfl rfl (by (try simp only [List.map_toArray, List.map_cons, List.map_nil]); first | done | rfl | (simp only [List.length_drop, List.length_take]; rfl)) ?_
                   with_reducible refine (safeint_size.calls a0 t132 _ A7.out).mono ?_
                   rintro e w' ⟨rfl, ⟨nd, rfl⟩⟩
                   refine ⟨_, rfl, ?_⟩
                   refine hK.out _ _ trivial (fun hHeld => ?_)
                   clear hK K
                   refine norm_ (a' := ?_) ?_ ?_
                   rotate_left
                   ·
                    show Act.put _ (some 16) _ = _
                    simp only [Act.put, List.setIfInBounds_toArray, List.set_cons_zero, List.set_cons_succ, i64_w, i32_w]
                    rfl
                   exact norm_ (by first | (simp only [putAll, Act.put, List.setIfInBounds_toArray, List.set_cons_zero, List.set_cons_succ]; done) | (simp only [putAll, Act.put, List.setIfInBounds_toArray, List.set_cons_zero, List.set_cons_succ]; rfl)) (hJ1_3 () _ (by repeat (first | (with_reducible first | exact HB.out | apply below_alloc | apply pw_below_drewN | apply below_drew1) | exact HB.out)))
                  ·
                   skip
                   refine box_step ?hg (N := 6) ?hd (cs := #[.int .u64 0, .int .u64 0]) (t := 74) ?hr ?_; (case hd => rfl); (case hg => rfl); (case hr => first | (go_simp; done) | (go_simp; rfl))
                   intro gb138 hg w24 hbox hb
                   have n0_ := Aside0.mk (below_step (by repeat (first | (with_reducible first | exact HB.out | apply below_alloc | apply pw_below_drewN | apply below_drew1) | exact HB.out)) hb)
                   have n1_ := Aside0.mk (hbox)
                   have n2_ := Aside0.mk ((by rw [hg]; exact (below_size (by repeat (first | (with_reducible first | exact HB.out | apply below_alloc | apply pw_below_drewN | apply below_drew1) | exact HB.out))) : w.heap.size ≤ gb138))
                   have n3_ := Aside0.mk ((by rw [hg]; exact (below_size (by repeat (first | (with_reducible first | exact HB.out | apply below_alloc | apply pw_below_drewN | apply below_drew1) | exact HB.out))) : w.heap.size ≤ gb138))
                   clear HB
                   have HB := n0_
                   have BK138 := n1_
                   have GW138 := n2_
                   have GE138 := n3_
                   clear n0_ n1_ n2_ n3_
                   clear hb hbox hg
                   refine hK.out _ _ trivial (fun hHeld => ?_)
                   clear hK K
                   refine norm_ (a' := ?_) ?_ ?_
                   rotate_left
                   ·
                    show Act.put _ (some 6) _ = _
                    simp only [Act.put, List.setIfInBounds_toArray, List.set_cons_zero, List.set_cons_succ, i64_w, i32_w]
                    rfl
                   exact norm_ (by first | (simp only [putAll, Act.put, List.setIfInBounds_toArray, List.set_cons_zero, List.set_cons_succ]; done) | (simp only [putAll, Act.put, List.setIfInBounds_toArray, List.set_cons_zero, List.set_cons_succ]; rfl)) (hJ1_11 (gb138) _ ⟨(by (with_reducible repeat (first | refine blk_drewN ?_ _ | refine blk_drew ?_ | refine blk_alloc ?_ _)); exact BK138.out), GW138.out, GE138.out, (by repeat (first | (with_reducible first | exact HB.out | apply below_alloc | apply pw_below_drewN | apply below_drew1 | refine below_set ?_ GE138.out) | exact HB.out))⟩)
                ·
                 skip
                 rintro gb138 w24 ⟨h0_, h1_, h2_, h3_⟩
                 have n0_ : Aside0 (w24.heap[gb138]? = some (.cells #[.int .u64 0, .int .u64 0] 74 (0, 0))) := ⟨h0_⟩
                 have n1_ : Aside0 (w.heap.size ≤ gb138) := ⟨h1_⟩
                 have n2_ : Aside0 (w.heap.size ≤ gb138) := ⟨h2_⟩
                 have n3_ : Aside0 (Below w.heap.size w w24) := ⟨h3_⟩
                 clear HB
                 clear h0_ h1_ h2_ h3_
                 have BK138 := n0_
                 have GW138 := n1_
                 have GE138 := n2_
                 have HB := n3_
                 clear n0_ n1_ n2_ n3_
                 have hHeld := trivial
                 refine norm_ (a' := ?_) ?_ ?_
                 rotate_left
                 ·
                  simp only [putAll, Act.put, List.setIfInBounds_toArray, List.set_cons_zero, List.set_cons_succ]
                  rfl
                 refine one_ (i := 3) (N := some 16) #[true, true, true, true, true, false, false, false, true, false, false, true, false] rfl rfl (one_of HT_.out (by kernel_rfl)) (by decide) (fun K hK => ?_)
                 refine goes_ Try.func51 (by kernel_rfl) rfl #[.int .i64 a0] (by rfl) rfl rfl (by (try simp only [List.map_toArray, List.map_cons, List.map_nil]); first | done | rfl | (simp only [List.length_drop, List.length_take]; rfl)) ?_
                 with_reducible refine (safeint_size.calls a0 t132 _ A7.out).mono ?_
                 rintro e w' ⟨rfl, ⟨nd, rfl⟩⟩
                 refine ⟨_, rfl, ?_⟩
                 refine hK.out _ _ trivial (fun hHeld => ?_)
                 clear hK K
                 refine norm_ (a' := ?_) ?_ ?_
                 rotate_left
                 ·
                  show Act.put _ (some 16) _ = _
                  simp only [Act.put, List.setIfInBounds_toArray, List.set_cons_zero, List.set_cons_succ, i64_w, i32_w]
                  rfl
                 exact norm_ (by first | (simp only [putAll, Act.put, List.setIfInBounds_toArray, List.set_cons_zero, List.set_cons_succ]; done) | (simp only [putAll, Act.put, List.setIfInBounds_toArray, List.set_cons_zero, List.set_cons_succ]; rfl)) (hJ1_3_11 (gb138) _ ⟨(by (with_reducible repeat (first | refine blk_drewN ?_ _ | refine blk_drew ?_ | refine blk_alloc ?_ _)); exact BK138.out), GW138.out, GE138.out, (by repeat (first | (with_reducible first | exact HB.out | apply below_alloc | apply pw_below_drewN | apply below_drew1 | refine below_set ?_ GE138.out) | exact HB.out))⟩)
               ·
                skip
                rintro _ w23 h0_
                have n0_ : Aside0 (Below w.heap.size w w23) := ⟨h0_⟩
                clear HB
                clear h0_
                have HB := n0_
                clear n0_
                have hHeld := trivial
                refine norm_ (a' := ?_) ?_ ?_
                rotate_left
                ·
                 simp only [putAll, Act.put, List.setIfInBounds_toArray, List.set_cons_zero, List.set_cons_succ]
                 rfl
                refine two_ (i := 5) (j := 11) (Ni := some 18) (Nj := some 6) #[true, true, true, true, true, true, false, false, true, false, false, false, false] #[true, true, true, true, true, false, false, false, true, false, false, true, false] rfl rfl rfl rfl (two_of HT_.out (by kernel_rfl)) (by decide) (by decide) (fun K hK => ?_) (fun K hK => ?_)
                ·
                 skip
                 refine goes_ Try.func51 (by kernel_rfl) rfl #[.int .i64 a1] (by rfl) rfl rfl (by (try simp only [List.map_toArray, List.map_cons, List.map_nil]); first | done | rfl | (simp only [List.length_drop, List.length_take]; rfl)) ?_
                 with_reducible refine (safeint_size.calls a1 t133 _ A8.out).mono ?_
                 rintro e w' ⟨rfl, ⟨nd, rfl⟩⟩
                 refine ⟨_, rfl, ?_⟩
                 refine hK.out _ _ trivial (fun hHeld => ?_)
                 clear hK K
                 refine norm_ (a' := ?_) ?_ ?_
                 rotate_left
                 ·
                  show Act.put _ (some 18) _ = _
                  simp only [Act.put, List.setIfInBounds_toArray, List.set_cons_zero, List.set_cons_succ, i64_w, i32_w]
                  rfl
                 exact norm_ (by first | (simp only [putAll, Act.put, List.setIfInBounds_toArray, List.set_cons_zero, List.set_cons_succ]; done) | (simp only [putAll, Act.put, List.setIfInBounds_toArray, List.set_cons_zero, List.set_cons_succ]; rfl)) (hJ1_3_5 () _ (by repeat (first | (with_reducible first | exact HB.out | apply below_alloc | apply pw_below_drewN | apply below_drew1) | exact HB.out)))
                ·
                 skip
                 refine box_step ?hg (N := 6) ?hd (cs := #[.int .u64 0, .int .u64 0]) (t := 74) ?hr ?_; (case hd => rfl); (case hg => rfl); (case hr => first | (go_simp; done) | (go_simp; rfl))
                 intro gb138 hg w24 hbox hb
                 have n0_ := Aside0.mk (below_step (by repeat (first | (with_reducible first | exact HB.out | apply below_alloc | apply pw_below_drewN | apply below_drew1) | exact HB.out)) hb)
                 have n1_ := Aside0.mk (hbox)
                 have n2_ := Aside0.mk ((by rw [hg]; exact (below_size (by repeat (first | (with_reducible first | exact HB.out | apply below_alloc | apply pw_below_drewN | apply below_drew1) | exact HB.out))) : w.heap.size ≤ gb138))
                 have n3_ := Aside0.mk ((by rw [hg]; exact (below_size (by repeat (first | (with_reducible first | exact HB.out | apply below_alloc | apply pw_below_drewN | apply below_drew1) | exact HB.out))) : w.heap.size ≤ gb138))
                 clear HB
                 have HB := n0_
                 have BK138 := n1_
                 have GW138 := n2_
                 have GE138 := n3_
                 clear n0_ n1_ n2_ n3_
                 clear hb hbox hg
                 refine hK.out _ _ trivial (fun hHeld => ?_)
                 clear hK K
                 refine norm_ (a' := ?_) ?_ ?_
                 rotate_left
                 ·
                  show Act.put _ (some 6) _ = _
                  simp only [Act.put, List.setIfInBounds_toArray, List.set_cons_zero, List.set_cons_succ, i64_w, i32_w]
                  rfl
                 exact norm_ (by first | (simp only [putAll, Act.put, List.setIfInBounds_toArray, List.set_cons_zero, List.set_cons_succ]; done) | (simp only [putAll, Act.put, List.setIfInBounds_toArray, List.set_cons_zero, List.set_cons_succ]; rfl)) (hJ1_3_11 (gb138) _ ⟨(by (with_reducible repeat (first | refine blk_drewN ?_ _ | refine blk_drew ?_ | refine blk_alloc ?_ _)); exact BK138.out), GW138.out, GE138.out, (by repeat (first | (with_reducible first | exact HB.out | apply below_alloc | apply pw_below_drewN | apply below_drew1 | refine below_set ?_ GE138.out) | exact HB.out))⟩)
              ·
               skip
               rintro gb138 w24 ⟨h0_, h1_, h2_, h3_⟩
               have n0_ : Aside0 (w24.heap[gb138]? = some (.cells #[.int .u64 0, .int .u64 0] 74 (0, 0))) := ⟨h0_⟩
               have n1_ : Aside0 (w.heap.size ≤ gb138) := ⟨h1_⟩
               have n2_ : Aside0 (w.heap.size ≤ gb138) := ⟨h2_⟩
               have n3_ : Aside0 (Below w.heap.size w w24) := ⟨h3_⟩
               clear HB
               clear h0_ h1_ h2_ h3_
               have BK138 := n0_
               have GW138 := n1_
               have GE138 := n2_
               have HB := n3_
               clear n0_ n1_ n2_ n3_
               have hHeld := trivial
               refine norm_ (a' := ?_) ?_ ?_
               rotate_left
               ·
                simp only [putAll, Act.put, List.setIfInBounds_toArray, List.set_cons_zero, List.set_cons_succ]
                rfl
               refine one_ (i := 5) (N := some 18) #[true, true, true, true, true, true, false, false, true, false, false, true, false] rfl rfl (one_of HT_.out (by kernel_rfl)) (by decide) (fun K hK => ?_)
               refine goes_ Try.func51 (by kernel_rfl) rfl #[.int .i64 a1] (by rfl) rfl rfl (by (try simp only [List.map_toArray, List.map_cons, List.map_nil]); first | done | rfl | (simp only [List.length_drop, List.length_take]; rfl)) ?_
               with_reducible refine (safeint_size.calls a1 t133 _ A8.out).mono ?_
               rintro e w' ⟨rfl, ⟨nd, rfl⟩⟩
               refine ⟨_, rfl, ?_⟩
               refine hK.out _ _ trivial (fun hHeld => ?_)
               clear hK K
               refine norm_ (a' := ?_) ?_ ?_
               rotate_left
               ·
                show Act.put _ (some 18) _ = _
                simp only [Act.put, List.setIfInBounds_toArray, List.set_cons_zero, List.set_cons_succ, i64_w, i32_w]
                rfl
               exact norm_ (by first | (simp only [putAll, Act.put, List.setIfInBounds_toArray, List.set_cons_zero, List.set_cons_succ]; done) | (simp only [putAll, Act.put, List.setIfInBounds_toArray, List.set_cons_zero, List.set_cons_succ]; rfl)) (hJ1_3_5_11 (gb138) _ ⟨(by (with_reducible repeat (first | refine blk_drewN ?_ _ | refine blk_drew ?_ | refine blk_alloc ?_ _)); exact BK138.out), GW138.out, GE138.out, (by repeat (first | (with_reducible first | exact HB.out | apply below_alloc | apply pw_below_drewN | apply below_drew1 | refine below_set ?_ GE138.out) | exact HB.out))⟩)
             ·
              skip
              rintro _ w23 h0_
              have n0_ : Aside0 (Below w.heap.size w w23) := ⟨h0_⟩
              clear HB
              clear h0_
              have HB := n0_
              clear n0_
              have hHeld := trivial
              refine norm_ (a' := ?_) ?_ ?_
              rotate_left
              ·
               simp only [putAll, Act.put, List.setIfInBounds_toArray, List.set_cons_zero, List.set_cons_succ]
               rfl
              refine two_ (i := 6) (j := 11) (Ni := some 19) (Nj := some 6) #[true, true, true, true, true, true, true, false, true, false, false, false, false] #[true, true, true, true, true, true, false, false, true, false, false, true, false] rfl rfl rfl rfl (two_of HT_.out (by kernel_rfl)) (by decide) (by decide) (fun K hK => ?_) (fun K hK => ?_)
              ·
               skip
               refine goes_ Try.func50 (by kernel_rfl) rfl #[.int .u64 t132, .int .u64 t133] (by rfl) rfl rfl (by (try simp only [List.map_toArray, List.map_cons, List.map_nil]); first | done | rfl | (simp only [List.length_drop, List.length_take]; rfl)) ?_
               with_reducible refine (safeint_common.calls t132 t133 t134 _ A9.out).mono ?_
               rintro e w' ⟨rfl, ⟨nd, rfl⟩⟩
               refine ⟨_, rfl, ?_⟩
               refine hK.out _ _ trivial (fun hHeld => ?_)
               clear hK K
               refine norm_ (a' := ?_) ?_ ?_
               rotate_left
               ·
                show Act.put _ (some 19) _ = _
                simp only [Act.put, List.setIfInBounds_toArray, List.set_cons_zero, List.set_cons_succ, i64_w, i32_w]
                rfl
               refine pure_ (i := 7) (N := some 20) (v := ?_) (a' := ?_) #[true, true, true, true, true, true, true, true, true, false, false, false, false] rfl rfl (any_of HT_.out (by kernel_rfl)) (fun _ _ _ h => h) (Or.inl ⟨by rfl, ?_⟩) ?_ ?_
               rotate_left
               ·
                intro w'
                go_simp
                with_reducible rfl
               rotate_left
               ·
                simp only [Act.put, List.setIfInBounds_toArray, List.set_cons_zero, List.set_cons_succ, i64_w, i32_w]
                rfl
               exact norm_ (by first | (simp only [putAll, Act.put, List.setIfInBounds_toArray, List.set_cons_zero, List.set_cons_succ]; done) | (simp only [putAll, Act.put, List.setIfInBounds_toArray, List.set_cons_zero, List.set_cons_succ]; rfl)) (hJ1_3_5_6 () _ (by repeat (first | (with_reducible first | exact HB.out | apply below_alloc | apply pw_below_drewN | apply below_drew1) | exact HB.out)))
              ·
               skip
               refine box_step ?hg (N := 6) ?hd (cs := #[.int .u64 0, .int .u64 0]) (t := 74) ?hr ?_; (case hd => rfl); (case hg => rfl); (case hr => first | (go_simp; done) | (go_simp; rfl))
               intro gb138 hg w24 hbox hb
               have n0_ := Aside0.mk (below_step (by repeat (first | (with_reducible first | exact HB.out | apply below_alloc | apply pw_below_drewN | apply below_drew1) | exact HB.out)) hb)
               have n1_ := Aside0.mk (hbox)
               have n2_ := Aside0.mk ((by rw [hg]; exact (below_size (by repeat (first | (with_reducible first | exact HB.out | apply below_alloc | apply pw_below_drewN | apply below_drew1) | exact HB.out))) : w.heap.size ≤ gb138))
               have n3_ := Aside0.mk ((by rw [hg]; exact (below_size (by repeat (first | (with_reducible first | exact HB.out | apply below_alloc | apply pw_below_drewN | apply below_drew1) | exact HB.out))) : w.heap.size ≤ gb138))
               clear HB
               have HB := n0_
               have BK138 := n1_
               have GW138 := n2_
               have GE138 := n3_
               clear n0_ n1_ n2_ n3_
               clear hb hbox hg
               refine hK.out _ _ trivial (fun hHeld => ?_)
               clear hK K
               refine norm_ (a' := ?_) ?_ ?_
               rotate_left
               ·
                show Act.put _ (some 6) _ = _
                simp only [Act.put, List.setIfInBounds_toArray, List.set_cons_zero, List.set_cons_succ, i64_w, i32_w]
                rfl
               exact norm_ (by first | (simp only [putAll, Act.put, List.setIfInBounds_toArray, List.set_cons_zero, List.set_cons_succ]; done) | (simp only [putAll, Act.put, List.setIfInBounds_toArray, List.set_cons_zero, List.set_cons_succ]; rfl)) (hJ1_3_5_11 (gb138) _ ⟨(by (with_reducible repeat (first | refine blk_drewN ?_ _ | refine blk_drew ?_ | refine blk_alloc ?_ _)); exact BK138.out), GW138.out, GE138.out, (by repeat (first | (with_reducible first | exact HB.out | apply below_alloc | apply pw_below_drewN | apply below_drew1 | refine below_set ?_ GE138.out) | exact HB.out))⟩)
            ·
             skip
             rintro gb138 w24 ⟨h0_, h1_, h2_, h3_⟩
             have n0_ : Aside0 (w24.heap[gb138]? = some (.cells #[.int .u64 0, .int .u64 0] 74 (0, 0))) := ⟨h0_⟩
             have n1_ : Aside0 (w.heap.size ≤ gb138) := ⟨h1_⟩
             have n2_ : Aside0 (w.heap.size ≤ gb138) := ⟨h2_⟩
             have n3_ : Aside0 (Below w.heap.size w w24) := ⟨h3_⟩
             clear HB
             clear h0_ h1_ h2_ h3_
             have BK138 := n0_
             have GW138 := n1_
             have GE138 := n2_
             have HB := n3_
             clear n0_ n1_ n2_ n3_
             have hHeld := trivial
             refine norm_ (a' := ?_) ?_ ?_
             rotate_left
             ·
              simp only [putAll, Act.put, List.setIfInBounds_toArray, List.set_cons_zero, List.set_cons_succ]
              rfl
             refine one_ (i := 6) (N := some 19) #[true, true, true, true, true, true, true, false, true, false, false, true, false] rfl rfl (one_of HT_.out (by kernel_rfl)) (by decide) (fun K hK => ?_)
             refine goes_ Try.func50 (by kernel_rfl) rfl #[.int .u64 t132, .int .u64 t133] (by rfl) rfl rfl (by (try simp only [List.map_toArray, List.map_cons, List.map_nil]); first | done | rfl | (simp only [List.length_drop, List.length_take]; rfl)) ?_
             with_reducible refine (safeint_common.calls t132 t133 t134 _ A9.out).mono ?_
             rintro e w' ⟨rfl, ⟨nd, rfl⟩⟩
             refine ⟨_, rfl, ?_⟩
             refine hK.out _ _ trivial (fun hHeld => ?_)
             clear hK K
             refine norm_ (a' := ?_) ?_ ?_
             rotate_left
             ·
              show Act.put _ (some 19) _ = _
              simp only [Act.put, List.setIfInBounds_toArray, List.set_cons_zero, List.set_cons_succ, i64_w, i32_w]
              rfl
             refine pure_ (i := 7) (N := some 20) (v := ?_) (a' := ?_) #[true, true, true, true, true, true, true, true, true, false, false, true, false] rfl rfl (any_of HT_.out (by kernel_rfl)) (fun _ _ _ h => h) (Or.inl ⟨by rfl, ?_⟩) ?_ ?_
             rotate_left
             ·
              intro w'
              go_simp
              with_reducible rfl
             rotate_left
             ·
              simp only [Act.put, List.setIfInBounds_toArray, List.set_cons_zero, List.set_cons_succ, i64_w, i32_w]
              rfl
             exact norm_ (by first | (simp only [putAll, Act.put, List.setIfInBounds_toArray, List.set_cons_zero, List.set_cons_succ]; done) | (simp only [putAll, Act.put, List.setIfInBounds_toArray, List.set_cons_zero, List.set_cons_succ]; rfl)) (hJ1_3_5_6_11 (gb138) _ ⟨(by (with_reducible repeat (first | refine blk_drewN ?_ _ | refine blk_drew ?_ | refine blk_alloc ?_ _)); exact BK138.out), GW138.out, GE138.out, (by repeat (first | (with_reducible first | exact HB.out | apply below_alloc | apply pw_below_drewN | apply below_drew1 | refine below_set ?_ GE138.out) | exact HB.out))⟩)
           ·
            skip
            rintro _ w23 h0_
            have n0_ : Aside0 (Below w.heap.size w w23) := ⟨h0_⟩
            clear HB
            clear h0_
            have HB := n0_
            clear n0_
            have hHeld := trivial
            refine norm_ (a' := ?_) ?_ ?_
            rotate_left
            ·
             simp only [putAll, Act.put, List.setIfInBounds_toArray, List.set_cons_zero, List.set_cons_succ]
             rfl
            refine two_ (i := 9) (j := 11) (Ni := some 22) (Nj := some 6) #[true, true, true, true, true, true, true, true, true, true, false, false, false] #[true, true, true, true, true, true, true, true, true, false, false, true, false] rfl rfl rfl rfl (two_of HT_.out (by kernel_rfl)) (by decide) (by decide) (fun K hK => ?_) (fun K hK => ?_)
            ·
             skip
             refine goes_ Try.func51 (by kernel_rfl) rfl #[.int .i64 a1] (by rfl) rfl rfl (by (try simp only [List.map_toArray, List.map_cons, List.map_nil]); first | done | rfl | (simp only [List.length_drop, List.length_take]; rfl)) ?_
             with_reducible refine (safeint_size.calls a1 t135 _ A11.out).mono ?_
             rintro e w' ⟨rfl, ⟨nd, rfl⟩⟩
             refine ⟨_, rfl, ?_⟩
             refine hK.out _ _ trivial (fun hHeld => ?_)
             clear hK K
             refine norm_ (a' := ?_) ?_ ?_
             rotate_left
             ·
              show Act.put _ (some 22) _ = _
              simp only [Act.put, List.setIfInBounds_toArray, List.set_cons_zero, List.set_cons_succ, i64_w, i32_w]
              rfl
             exact norm_ (by first | (simp only [putAll, Act.put, List.setIfInBounds_toArray, List.set_cons_zero, List.set_cons_succ]; done) | (simp only [putAll, Act.put, List.setIfInBounds_toArray, List.set_cons_zero, List.set_cons_succ]; rfl)) (hJ1_3_5_6_9 () _ (by repeat (first | (with_reducible first | exact HB.out | apply below_alloc | apply pw_below_drewN | apply below_drew1) | exact HB.out)))
            ·
             skip
             refine box_step ?hg (N := 6) ?hd (cs := #[.int .u64 0, .int .u64 0]) (t := 74) ?hr ?_; (case hd => rfl); (case hg => rfl); (case hr => first | (go_simp; done) | (go_simp; rfl))
             intro gb138 hg w24 hbox hb
             have n0_ := Aside0.mk (below_step (by repeat (first | (with_reducible first | exact HB.out | apply below_alloc | apply pw_below_drewN | apply below_drew1) | exact HB.out)) hb)
             have n1_ := Aside0.mk (hbox)
             have n2_ := Aside0.mk ((by rw [hg]; exact (below_size (by repeat (first | (with_reducible first | exact HB.out | apply below_alloc | apply pw_below_drewN | apply below_drew1) | exact HB.out))) : w.heap.size ≤ gb138))
             have n3_ := Aside0.mk ((by rw [hg]; exact (below_size (by repeat (first | (with_reducible first | exact HB.out | apply below_alloc | apply pw_below_drewN | apply below_drew1) | exact HB.out))) : w.heap.size ≤ gb138))
             clear HB
             have HB := n0_
             have BK138 := n1_
             have GW138 := n2_
             have GE138 := n3_
             clear n0_ n1_ n2_ n3_
             clear hb hbox hg
             refine hK.out _ _ trivial (fun hHeld => ?_)
             clear hK K
             refine norm_ (a' := ?_) ?_ ?_
             rotate_left
             ·
              show Act.put _ (some 6) _ = _
              simp only [Act.put, List.setIfInBounds_toArray, List.set_cons_zero, List.set_cons_succ, i64_w, i32_w]
              rfl
             exact norm_ (by first | (simp only [putAll, Act.put, List.setIfInBounds_toArray, List.set_cons_zero, List.set_cons_succ]; done) | (simp only [putAll, Act.put, List.setIfInBounds_toArray, List.set_cons_zero, List.set_cons_succ]; rfl)) (hJ1_3_5_6_11 (gb138) _ ⟨(by (with_reducible repeat (first | refine blk_drewN ?_ _ | refine blk_drew ?_ | refine blk_alloc ?_ _)); exact BK138.out), GW138.out, GE138.out, (by repeat (first | (with_reducible first | exact HB.out | apply below_alloc | apply pw_below_drewN | apply below_drew1 | refine below_set ?_ GE138.out) | exact HB.out))⟩)
          ·
           skip
           rintro gb138 w24 ⟨h0_, h1_, h2_, h3_⟩
           have n0_ : Aside0 (w24.heap[gb138]? = some (.cells #[.int .u64 0, .int .u64 0] 74 (0, 0))) := ⟨h0_⟩
           have n1_ : Aside0 (w.heap.size ≤ gb138) := ⟨h1_⟩
           have n2_ : Aside0 (w.heap.size ≤ gb138) := ⟨h2_⟩
           have n3_ : Aside0 (Below w.heap.size w w24) := ⟨h3_⟩
           clear HB
           clear h0_ h1_ h2_ h3_
           have BK138 := n0_
           have GW138 := n1_
           have GE138 := n2_
           have HB := n3_
           clear n0_ n1_ n2_ n3_
           have hHeld := trivial
           refine norm_ (a' := ?_) ?_ ?_
           rotate_left
           ·
            simp only [putAll, Act.put, List.setIfInBounds_toArray, List.set_cons_zero, List.set_cons_succ]
            rfl
           refine one_ (i := 9) (N := some 22) #[true, true, true, true, true, true, true, true, true, true, false, true, false] rfl rfl (one_of HT_.out (by kernel_rfl)) (by decide) (fun K hK => ?_)
           refine goes_ Try.func51 (by kernel_rfl) rfl #[.int .i64 a1] (by rfl) rfl rfl (by (try simp only [List.map_toArray, List.map_cons, List.map_nil]); first | done | rfl | (simp only [List.length_drop, List.length_take]; rfl)) ?_
           with_reducible refine (safeint_size.calls a1 t135 _ A11.out).mono ?_
           rintro e w' ⟨rfl, ⟨nd, rfl⟩⟩
           refine ⟨_, rfl, ?_⟩
           refine hK.out _ _ trivial (fun hHeld => ?_)
           clear hK K
           refine norm_ (a' := ?_) ?_ ?_
           rotate_left
           ·
            show Act.put _ (some 22) _ = _
            simp only [Act.put, List.setIfInBounds_toArray, List.set_cons_zero, List.set_cons_succ, i64_w, i32_w]
            rfl
           exact norm_ (by first | (simp only [putAll, Act.put, List.setIfInBounds_toArray, List.set_cons_zero, List.set_cons_succ]; done) | (simp only [putAll, Act.put, List.setIfInBounds_toArray, List.set_cons_zero, List.set_cons_succ]; rfl)) (hJ1_3_5_6_9_11 (gb138) _ ⟨(by (with_reducible repeat (first | refine blk_drewN ?_ _ | refine blk_drew ?_ | refine blk_alloc ?_ _)); exact BK138.out), GW138.out, GE138.out, (by repeat (first | (with_reducible first | exact HB.out | apply below_alloc | apply pw_below_drewN | apply below_drew1 | refine below_set ?_ GE138.out) | exact HB.out))⟩)
         ·
          skip
          rintro _ w23 h0_
          have n0_ : Aside0 (Below w.heap.size w w23) := ⟨h0_⟩
          clear HB
          clear h0_
          have HB := n0_
          clear n0_
          have hHeld := trivial
          refine norm_ (a' := ?_) ?_ ?_
          rotate_left
          ·
           simp only [putAll, Act.put, List.setIfInBounds_toArray, List.set_cons_zero, List.set_cons_succ]
           rfl
          refine two_ (i := 10) (j := 11) (Ni := some 23) (Nj := some 6) #[true, true, true, true, true, true, true, true, true, true, true, false, false] #[true, true, true, true, true, true, true, true, true, true, false, true, false] rfl rfl rfl rfl (two_of HT_.out (by kernel_rfl)) (by decide) (by decide) (fun K hK => ?_) (fun K hK => ?_)
          ·
           skip
           refine goes_ Try.func52 (by kernel_rfl) rfl #[.int .u64 (IntKind.u64.wrap (Int.tdiv t131 t134)), .int .u64 t135] (by rfl) rfl rfl (by (try simp only [List.map_toArray, List.map_cons, List.map_nil]); first | done | rfl | (simp only [List.length_drop, List.length_take]; rfl)) ?_
           with_reducible refine (safeint_times.calls (IntKind.u64.wrap (Int.tdiv t131 t134)) t135 t136 t137 _ A12.out).mono ?_
           rintro e w24 ⟨rfl, hb⟩
           refine ⟨_, rfl, ?_⟩
           have n0_ := Aside0.mk (below_step (by repeat (first | (with_reducible first | exact HB.out | apply below_alloc | apply pw_below_drewN | apply below_drew1) | exact HB.out)) hb)
           clear HB
           have HB := n0_
           clear n0_
           (try clear hb)
           (try clear hb2)
           (try clear hk)
           (try clear hi)
           refine hK.out _ _ trivial (fun hHeld => ?_)
           clear hK K
           refine norm_ (a' := ?_) ?_ ?_
           rotate_left
           ·
            show Act.put _ (some 23) _ = _
            simp only [Act.put, List.setIfInBounds_toArray, List.set_cons_zero, List.set_cons_succ, i64_w, i32_w]
            rfl
           exact norm_ (by first | (simp only [putAll, Act.put, List.setIfInBounds_toArray, List.set_cons_zero, List.set_cons_succ]; done) | (simp only [putAll, Act.put, List.setIfInBounds_toArray, List.set_cons_zero, List.set_cons_succ]; rfl)) (hJ1_3_5_6_9_10 () _ (by repeat (first | (with_reducible first | exact HB.out | apply below_alloc | apply pw_below_drewN | apply below_drew1) | exact HB.out)))
          ·
           skip
           refine box_step ?hg (N := 6) ?hd (cs := #[.int .u64 0, .int .u64 0]) (t := 74) ?hr ?_; (case hd => rfl); (case hg => rfl); (case hr => first | (go_simp; done) | (go_simp; rfl))
           intro gb138 hg w24 hbox hb
           have n0_ := Aside0.mk (below_step (by repeat (first | (with_reducible first | exact HB.out | apply below_alloc | apply pw_below_drewN | apply below_drew1) | exact HB.out)) hb)
           have n1_ := Aside0.mk (hbox)
           have n2_ := Aside0.mk ((by rw [hg]; exact (below_size (by repeat (first | (with_reducible first | exact HB.out | apply below_alloc | apply pw_below_drewN | apply below_drew1) | exact HB.out))) : w.heap.size ≤ gb138))
           have n3_ := Aside0.mk ((by rw [hg]; exact (below_size (by repeat (first | (with_reducible first | exact HB.out | apply below_alloc | apply pw_below_drewN | apply below_drew1) | exact HB.out))) : w.heap.size ≤ gb138))
           clear HB
           have HB := n0_
           have BK138 := n1_
           have GW138 := n2_
           have GE138 := n3_
           clear n0_ n1_ n2_ n3_
           clear hb hbox hg
           refine hK.out _ _ trivial (fun hHeld => ?_)
           clear hK K
           refine norm_ (a' := ?_) ?_ ?_
           rotate_left
           ·
            show Act.put _ (some 6) _ = _
            simp only [Act.put, List.setIfInBounds_toArray, List.set_cons_zero, List.set_cons_succ, i64_w, i32_w]
            rfl
           exact norm_ (by first | (simp only [putAll, Act.put, List.setIfInBounds_toArray, List.set_cons_zero, List.set_cons_succ]; done) | (simp only [putAll, Act.put, List.setIfInBounds_toArray, List.set_cons_zero, List.set_cons_succ]; rfl)) (hJ1_3_5_6_9_11 (gb138) _ ⟨(by (with_reducible repeat (first | refine blk_drewN ?_ _ | refine blk_drew ?_ | refine blk_alloc ?_ _)); exact BK138.out), GW138.out, GE138.out, (by repeat (first | (with_reducible first | exact HB.out | apply below_alloc | apply pw_below_drewN | apply below_drew1 | refine below_set ?_ GE138.out) | exact HB.out))⟩)
        ·
         skip
         rintro gb138 w24 ⟨h0_, h1_, h2_, h3_⟩
         have n0_ : Aside0 (w24.heap[gb138]? = some (.cells #[.int .u64 0, .int .u64 0] 74 (0, 0))) := ⟨h0_⟩
         have n1_ : Aside0 (w.heap.size ≤ gb138) := ⟨h1_⟩
         have n2_ : Aside0 (w.heap.size ≤ gb138) := ⟨h2_⟩
         have n3_ : Aside0 (Below w.heap.size w w24) := ⟨h3_⟩
         clear HB
         clear h0_ h1_ h2_ h3_
         have BK138 := n0_
         have GW138 := n1_
         have GE138 := n2_
         have HB := n3_
         clear n0_ n1_ n2_ n3_
         have hHeld := trivial
         refine norm_ (a' := ?_) ?_ ?_
         rotate_left
         ·
          simp only [putAll, Act.put, List.setIfInBounds_toArray, List.set_cons_zero, List.set_cons_succ]
          rfl
         refine one_ (i := 10) (N := some 23) #[true, true, true, true, true, true, true, true, true, true, true, true, false] rfl rfl (one_of HT_.out (by kernel_rfl)) (by decide) (fun K hK => ?_)
         refine goes_ Try.func52 (by kernel_rfl) rfl #[.int .u64 (IntKind.u64.wrap (Int.tdiv t131 t134)), .int .u64 t135] (by rfl) rfl rfl (by (try simp only [List.map_toArray, List.map_cons, List.map_nil]); first | done | rfl | (simp only [List.length_drop, List.length_take]; rfl)) ?_
         with_reducible refine (safeint_times.calls (IntKind.u64.wrap (Int.tdiv t131 t134)) t135 t136 t137 _ A12.out).mono ?_
         rintro e w25 ⟨rfl, hb⟩
         refine ⟨_, rfl, ?_⟩
         have n0_ := Aside0.mk (blk_below (g := gb138) (o := .cells #[.int .u64 0, .int .u64 0] 74 (0, 0)) (by (with_reducible repeat (first | refine blk_drewN ?_ _ | refine blk_drew ?_ | refine blk_alloc ?_ _)); exact BK138.out) hb)
         have n1_ := Aside0.mk (below_step (by repeat (first | (with_reducible first | exact HB.out | apply below_alloc | apply pw_below_drewN | apply below_drew1 | refine below_set ?_ GE138.out) | exact HB.out)) hb)
         clear BK138
         clear HB
         have BK138 := n0_
         have HB := n1_
         clear n0_ n1_
         (try clear hb)
         (try clear hb2)
         (try clear hk)
         (try clear hi)
         refine hK.out _ _ trivial (fun hHeld => ?_)
         clear hK K
         refine norm_ (a' := ?_) ?_ ?_
         rotate_left
         ·
          show Act.put _ (some 23) _ = _
          simp only [Act.put, List.setIfInBounds_toArray, List.set_cons_zero, List.set_cons_succ, i64_w, i32_w]
          rfl
         exact norm_ (by first | (simp only [putAll, Act.put, List.setIfInBounds_toArray, List.set_cons_zero, List.set_cons_succ]; done) | (simp only [putAll, Act.put, List.setIfInBounds_toArray, List.set_cons_zero, List.set_cons_succ]; rfl)) (hJ1_3_5_6_9_10_11 (gb138) _ ⟨(by (with_reducible repeat (first | refine blk_drewN ?_ _ | refine blk_drew ?_ | refine blk_alloc ?_ _)); exact BK138.out), GW138.out, GE138.out, (by repeat (first | (with_reducible first | exact HB.out | apply below_alloc | apply pw_below_drewN | apply below_drew1 | refine below_set ?_ GE138.out) | exact HB.out))⟩)
       ·
        skip
        rintro _ w24 h0_
        have n0_ : Aside0 (Below w.heap.size w w24) := ⟨h0_⟩
        clear HB
        clear h0_
        have HB := n0_
        clear n0_
        have hHeld := trivial
        refine norm_ (a' := ?_) ?_ ?_
        rotate_left
        ·
         simp only [putAll, Act.put, List.setIfInBounds_toArray, List.set_cons_zero, List.set_cons_succ]
         rfl
        refine one_ (i := 11) (N := some 6) #[true, true, true, true, true, true, true, true, true, true, true, true, false] rfl rfl (one_of HT_.out (by kernel_rfl)) (by decide) (fun K hK => ?_)
        refine box_step ?hg (N := 6) ?hd (cs := #[.int .u64 0, .int .u64 0]) (t := 74) ?hr ?_; (case hd => rfl); (case hg => rfl); (case hr => first | (go_simp; done) | (go_simp; rfl))
        intro gb138 hg w25 hbox hb
        have n0_ := Aside0.mk (below_step (by repeat (first | (with_reducible first | exact HB.out | apply below_alloc | apply pw_below_drewN | apply below_drew1) | exact HB.out)) hb)
        have n1_ := Aside0.mk (hbox)
        have n2_ := Aside0.mk ((by rw [hg]; exact (below_size (by repeat (first | (with_reducible first | exact HB.out | apply below_alloc | apply pw_below_drewN | apply below_drew1) | exact HB.out))) : w.heap.size ≤ gb138))
        have n3_ := Aside0.mk ((by rw [hg]; exact (below_size (by repeat (first | (with_reducible first | exact HB.out | apply below_alloc | apply pw_below_drewN | apply below_drew1) | exact HB.out))) : w.heap.size ≤ gb138))
        clear HB
        have HB := n0_
        have BK138 := n1_
        have GW138 := n2_
        have GE138 := n3_
        clear n0_ n1_ n2_ n3_
        clear hb hbox hg
        refine hK.out _ _ trivial (fun hHeld => ?_)
        clear hK K
        refine norm_ (a' := ?_) ?_ ?_
        rotate_left
        ·
         show Act.put _ (some 6) _ = _
         simp only [Act.put, List.setIfInBounds_toArray, List.set_cons_zero, List.set_cons_succ, i64_w, i32_w]
         rfl
        exact norm_ (by first | (simp only [putAll, Act.put, List.setIfInBounds_toArray, List.set_cons_zero, List.set_cons_succ]; done) | (simp only [putAll, Act.put, List.setIfInBounds_toArray, List.set_cons_zero, List.set_cons_succ]; rfl)) (hJ1_3_5_6_9_10_11 (gb138) _ ⟨(by (with_reducible repeat (first | refine blk_drewN ?_ _ | refine blk_drew ?_ | refine blk_alloc ?_ _)); exact BK138.out), GW138.out, GE138.out, (by repeat (first | (with_reducible first | exact HB.out | apply below_alloc | apply pw_below_drewN | apply below_drew1 | refine below_set ?_ GE138.out) | exact HB.out))⟩)
      rintro gb138 w25 ⟨h0_, h1_, h2_, h3_⟩
      have n0_ : Aside0 (w25.heap[gb138]? = some (.cells #[.int .u64 0, .int .u64 0] 74 (0, 0))) := ⟨h0_⟩
      have n1_ : Aside0 (w.heap.size ≤ gb138) := ⟨h1_⟩
      have n2_ : Aside0 (w.heap.size ≤ gb138) := ⟨h2_⟩
      have n3_ : Aside0 (Below w.heap.size w w25) := ⟨h3_⟩
      clear HB
      clear h0_ h1_ h2_ h3_
      have BK138 := n0_
      have GW138 := n1_
      have GE138 := n2_
      have HB := n3_
      clear n0_ n1_ n2_ n3_
      have hHeld := trivial
      refine norm_ (a' := ?_) ?_ ?_
      rotate_left
      ·
       simp only [putAll, Act.put, List.setIfInBounds_toArray, List.set_cons_zero, List.set_cons_succ]
       rfl
      refine one_ (i := 12) (N := none) #[true, true, true, true, true, true, true, true, true, true, true, true, true] rfl rfl (one_of HT_.out (by kernel_rfl)) (by decide) (fun K hK => ?_)
      have hs26 : w25.cell? ⟨gb138, 0, none⟩ = some (.int .u64 0) := (blk_cell BK138.out 0).trans rfl
      have hfs26 := blk_frozen BK138.out 0
      have hs27 : w25.cell? ⟨gb138, 1, none⟩ = some (.int .u64 0) := (blk_cell BK138.out 1).trans rfl
      have hfs27 := blk_frozen BK138.out 1
      refine skip_ (w1 := ?_) (by rfl) rfl ?_ ?_
      rotate_left
      ·
       go_simp
       rfl
      refine hK.out _ _ trivial (fun hHeld => ?_)
      clear hK K
      refine done_ (done_of HT_.out (by kernel_rfl)) ?_
      have hcz28_0 : w25.cell? ⟨gb138, 0, none⟩ = some (.int .u64 0) := (blk_cell BK138.out 0).trans rfl
      have hcz28_1 : w25.cell? ⟨gb138, 1, none⟩ = some (.int .u64 0) := (blk_cell BK138.out 1).trans rfl
      have hfz28_0 := blk_frozen BK138.out 0
      have hfz28_1 := blk_frozen BK138.out 1
      try go_wp2
      go_ret2
      exact ⟨by first | rfl | (simp [errW_none, errW_some] <;> rfl) | (simp [*, errW_none, errW_some] <;> rfl), by repeat (first | (with_reducible first | exact HB.out | apply below_alloc | apply pw_below_drewN | apply below_drew1 | refine below_set ?_ GE138.out) | exact HB.out)⟩

end Go.Proofs.Ytckefohfahphpaa.Z
end
section
namespace Go.Proofs.Ytckefohfahphpaa.Z
open Go.RowKit Go.Proofs.YtckefohfahphpaaW.PrintWords Go.Proofs.YtckefohfahphpaaW.PrintLast Go.Proofs.YtckefohfahphpaaW.PrintMore
attribute [local go_sem] max2_int min2_int max_two min_two max_three min_three max_four min_four   -- for this text's walks alone
set_option linter.unusedVariables false
set_option linter.unusedSimpArgs false

/-! ### matrix_table_solution: function 28, by hand -/
def sol_scale (k : Nat) (rows : List (List Int)) (f : Int) : List Int → Nat → Int → Option (Option Int)
 | [], _, s => some (some s)
 | c :: cs, i, s => if i < rows.length ∧ 0 ≤ c ∧ c < ((rd_L1 rows i).length : Int) ∧ 0 ≤ f ∧ f < ((rd_L1 rows i).length : Int) then
   (safeint_Gcd.f (rd (rd_L1 rows i) c) (rd (rd_L1 rows i) f)).bind fun g => if g.2 = true then (if g.1 = 0 then none else
    (safeint_Lcm.f k s (wrap64 (Int.tdiv (rd (rd_L1 rows i) c) g.1))).bind fun q => if q.2 = true then sol_scale k rows f cs (i + 1) q.1 else some none) else some none else none
def sol_fill (rows : List (List Int)) (f scale : Int) : List Int → Nat → List Int → Option (Option (List Int))
 | [], _, out => some (some out)
 | c :: cs, i, out => if i < rows.length ∧ 0 ≤ c ∧ c < ((rd_L1 rows i).length : Int) ∧ 0 ≤ f ∧ f < ((rd_L1 rows i).length : Int) ∧ c < (out.length : Int) then
   (safeint_Gcd.f (rd (rd_L1 rows i) c) (rd (rd_L1 rows i) f)).bind fun g => if g.1 = 0 then none else if wrap64 (Int.tdiv (rd (rd_L1 rows i) c) g.1) = 0 then none else
    (safeint_Mul.f (wrap64 (-(wrap64 (Int.tdiv (rd (rd_L1 rows i) f) g.1)))) (wrap64 (Int.tdiv scale (wrap64 (Int.tdiv (rd (rd_L1 rows i) c) g.1))))).bind fun v => if v.2 = true then sol_fill rows f scale cs (i + 1) (out.set c.toNat v.1) else some none else none
def table_solution.f (k : Nat) (rows : List (List Int)) (cols : List Int) (f size : Int) : Option (List Int × Int) :=
 if 0 ≤ f ∧ f < size ∧ size ≤ 1000000 ∧ cols.length ≤ 1000000 then (sol_scale k rows f cols 0 1).bind fun s => match s with
  | none => some ([], 3)
  | some s => (sol_fill rows f s cols 0 ((List.replicate size.toNat 0).set f.toNat s)).bind fun o => match o with
   | none => some ([], 3)
   | some o => vector_Prim.f k o
 else none
theorem drop_rd1 {l : List Int} {i : Nat} (h : i < l.length) : l.drop i = rd l (i : Int) :: l.drop (i + 1) := by
 rw [List.drop_eq_getElem_cons h]
 simp [rd, List.getD_eq_getElem?_getD, h]
set_option maxHeartbeats 2000000 in
set_option maxRecDepth 100000 in
theorem table_solution.calls (k : Nat) (f size : Int) (base g : Nat) (cols : List Int) (rows : List (List Int)) (cv rv : Value) (out : List Int) (e : Int) (w : World) (hT : TB w base g cols rows cv rv) (h : table_solution.f k rows cols f size = some (out, e)) :
  Calls Try.prog 28 #[.pointer (some ⟨g, 0, none⟩), .int .i64 f, .int .i64 size] w fun e' w' => ∃ v0_ : Value, e' = .returned (.tuple #[v0_, .int .i64 e]) ∧ Kd.R (Kd.int .i64) 2 w' w.heap.size (fun _ => True) v0_ out ∧ Below w.heap.size w w' := by
 unfold table_solution.f at h
 split at h
 case isFalse => cases h
 rename_i hb
 obtain ⟨hf0, hf1, hsz, hcl⟩ := hb
 obtain ⟨s0, hsc, h⟩ := Option.bind_eq_some_iff.mp h
 obtain ⟨Ac, cc, rfl⟩ := Kd.R_slice hT.col
 obtain ⟨Ar, cr, rfl⟩ := Kd.R_slice hT.row
 obtain ⟨_, _, hCc⟩ := Kd.R_reads' hT.col
 obtain ⟨_, _, hCr⟩ := Kd.R_reads' hT.row
 have HT := Aside0.mk hT
 have HSC := Aside0.mk hsc
 have HH := Aside0.mk h
 have HCC := Aside0.mk hCc
 have HCR := Aside0.mk hCr
 have HCL := Aside0.mk hcl
 have hc0 := hT.c0
 have hbg : g < w.heap.size := hT.lt
 have HC1 := Aside0.mk hT.c1
 clear hT hsc h hCc hCr hcl
 go_enter Try.func28, Try.ntmps28
 go_wp2
 go_loopw [8, 28] (fun s8 s28 W => ∃ (i : Nat) (s : Int), i ≤ cols.length ∧ s8 = .int .i64 s ∧ s28 = .int .i64 (i : Int) ∧ Aside0 (sol_scale k rows f (cols.drop i) i s = some s0) ∧ Aside0 (Below w.heap.size w W)) (fun s8 s28 _ => cols.length - (intOf s28).toNat)
 case atStart => exact ⟨0, 1, Nat.zero_le _, rfl, rfl, HSC, ⟨Below.refl _ _⟩⟩
 case round =>
  obtain ⟨i, s, hi, rfl, rfl, HS, HB⟩ := hrel
  by_cases hlt : i < cols.length
  ·
   have hlt1 : (i : Int) < (cols.length : Int) := by omega
   have hd1 : decide ((i : Int) < (cols.length : Int)) = true := decide_eq_true hlt1
   have hclb : cols.length ≤ 1000000 := HCL.out
   have hs := HS.out
   rw [drop_rd1 hlt, sol_scale] at hs
   by_cases hcc : i < rows.length ∧ 0 ≤ rd cols (i : Int) ∧ rd cols (i : Int) < ((rd_L1 rows i).length : Int) ∧ 0 ≤ f ∧ f < ((rd_L1 rows i).length : Int)
   case neg => rw [if_neg hcc] at hs; cases hs
   rw [if_pos hcc] at hs
   obtain ⟨hir, hc1', hc2', hf1', hf2'⟩ := hcc
   have hir1 : (i : Int) < (rows.length : Int) := by omega
   have hX1 := (HB.out.cell (World.block_lt_of_cell? _ _ HC1.out)).trans HC1.out
   obtain ⟨adc, eac, hxc⟩ := Kd.at_int HCC.out (i : Int) (by omega) hlt1
   cases eac
   rw [Int.toNat_natCast] at hxc
   replace hxc := (HB.out.cell (World.block_lt_of_cell? _ _ hxc)).trans hxc
   obtain ⟨adr, Aa, ca, ead, hx, hl, hin⟩ := at_L1 HCR.out (i : Int) (by omega) hir1
   cases ead
   rw [Int.toNat_natCast] at hx
   replace hx := (HB.out.cell (World.block_lt_of_cell? _ _ hx)).trans hx
   obtain ⟨aa, eaa, hx1⟩ := Kd.at_int hin (rd cols (i : Int)) hc1' hc2'
   cases eaa
   obtain ⟨ab, eab, hx2⟩ := Kd.at_int hin f hf1' hf2'
   obtain rfl : aa = ab := (by injection eab)
   have HX1' := Aside0.mk hx1
   replace hx1 := (HB.out.cell (World.block_lt_of_cell? _ _ hx1)).trans hx1
   replace hx2 := (HB.out.cell (World.block_lt_of_cell? _ _ hx2)).trans hx2

   obtain ⟨⟨gg, ok⟩, hg, hs⟩ := Option.bind_eq_some_iff.mp hs
   have HG := Aside0.mk hg
   have HS2 := Aside0.mk hs
   clear hg hs HS hl hin hc0
   cases ok
   ·
    have he : s0 = none := by
     have := HS2.out
     simp at this
     exact this.symm
    subst he
    have hh := HH.out
    simp at hh
    obtain ⟨rfl, rfl⟩ := hh
    go_wp2
    go_quiet ((go_at_call 40; (with_reducible refine (safeint_Gcd.calls _ _ gg false _ HG.out).mono ?_); rintro e w' ⟨rfl, ⟨nd, rfl⟩⟩; exact ⟨rfl, _, World.drewN_drewN _ _ _⟩))
    go_wp2
    try rw [Exit.noGoto_ret]
    go_ret2
    exact ⟨_, rfl, Kd.R_nil _ _ _ _ _, pw_below_drewN HB.out _⟩
   ·
    have hgn : gg ≠ 0 := by
     intro h0
     have := HS2.out
     simp [h0] at this
    have hgb : (gg == 0) = false := beq_eq_false_iff_ne.mpr hgn
    obtain ⟨⟨q1, q2⟩, hq, hs⟩ : ∃ q, safeint_Lcm.f k s (wrap64 (Int.tdiv (rd (rd_L1 rows i) (rd cols (i : Int))) gg)) = some q ∧ (if q.2 = true then sol_scale k rows f (cols.drop (i + 1)) (i + 1) q.1 else some none) = some s0 := by
     have := HS2.out
     simp only [if_true, if_neg hgn] at this
     exact Option.bind_eq_some_iff.mp this
    have HQ := Aside0.mk hq
    have HS3 := Aside0.mk hs
    clear hq hs HS2
    cases q2
    ·
     have he : s0 = none := by
      have := HS3.out
      simp at this
      exact this.symm
     subst he
     have hh := HH.out
     simp at hh
     obtain ⟨rfl, rfl⟩ := hh
     go_wp2
     go_quiet ((go_at_call 40; (with_reducible refine (safeint_Gcd.calls _ _ gg true _ HG.out).mono ?_); rintro e w' ⟨rfl, ⟨nd, rfl⟩⟩; exact ⟨rfl, _, World.drewN_drewN _ _ _⟩))
     go_wp2_with (fail)
     refine (safeint_Lcm.calls k _ _ q1 false _ HQ.out).mono ?_
     rintro e3 w3 ⟨rfl, hb⟩
     have HB3 := Aside0.mk (below_step (pw_below_drewN HB.out _) hb)
     clear hb hx hx1 hx2 hxc hX1
     go_wp2
     try rw [Exit.noGoto_ret]
     go_ret2
     exact ⟨_, rfl, Kd.R_nil _ _ _ _ _, HB3.out⟩
    ·
     have HS4 : Aside0 (sol_scale k rows f (cols.drop (i + 1)) (i + 1) q1 = some s0) := ⟨by simpa using HS3.out⟩
     clear HS3
     go_wp2
     go_quiet ((go_at_call 40; (with_reducible refine (safeint_Gcd.calls _ _ gg true _ HG.out).mono ?_); rintro e w' ⟨rfl, ⟨nd, rfl⟩⟩; exact ⟨rfl, _, World.drewN_drewN _ _ _⟩))
     go_wp2_with (fail)
     refine (safeint_Lcm.calls k _ _ q1 true _ HQ.out).mono ?_
     rintro e3 w3 ⟨rfl, hb⟩
     have HB3 := Aside0.mk (below_step (pw_below_drewN HB.out _) hb)
     clear hb hx hx1 hx2 hxc hX1
     go_wp2
     go_roundw
     case measure => simp [intOf]; omega
     case rel => exact ⟨i + 1, q1, by omega, rfl, by go_num, HS4, HB3⟩
  ·
   obtain rfl : i = cols.length := by omega
   have hs := HS.out
   rw [List.drop_of_length_le (Nat.le_refl _), sol_scale] at hs
   cases hs
   have hh := HH.out
   simp only at hh
   obtain ⟨o0, hfill, hh⟩ := Option.bind_eq_some_iff.mp hh
   have HFILL := Aside0.mk hfill
   have HH2 := Aside0.mk hh
   have hfs : f < ((size.toNat : Nat) : Int) := by omega
   have hcl0 : cols.length ≤ 1000000 := HCL.out
   have hX0 := (HB.out.cell hbg).trans hc0
   clear hh hfill HH HSC hlt
   go_wp2_with (first
    | ((with_reducible refine gate_dst (N := 69) rfl ?_); refine Kd.R_make (Kd.int .i64) (w0 := w) w.heap.size 2 rfl (N := 69) rfl 33 _ _ rfl size rfl rfl Try.underlying33 (.int .i64 0) 8 tinfo2 rfl (by decide) (by omega) 0 (ok := fun _ => True) (okp := fun _ => True) rfl (fun _ hk => hk) trivial (by omega) (by omega) HB.out HB.out.size ?_; intro v1 w1 ho1 hb1 hg1 hat1; obtain ⟨g1, c1, ev, hbg1, _, _⟩ := Kd.R_form ho1 (by simp; omega); subst ev; rw [List.length_replicate] at ho1; have HO1 := Aside0.mk ho1; have HB1 := Aside0.mk hb1; have HBG := Aside0.mk hbg1; have hX01 := (hb1.cell hbg).trans hc0; obtain ⟨hy, hz⟩ := RI_cell ho1 f.toNat (by simp; omega); have hX02 : (w1.setCell ⟨g1, f.toNat, none⟩ (.int .i64 s)).cell? ⟨g, 0, none⟩ = some (.slice Ac cols.length cc) := (World.cell?_of_block (Below.heap_setCell _ _ _ _ (by show g ≠ g1; omega))).trans hX01; clear ho1 hb1 hg1 hat1 hbg1 hX0))
   have HO2 := Aside0.mk (RI_put HO1.out f.toNat s)
   have HB2 := Aside0.mk (HB1.out.setCell HBG.out (Value.int .i64 s) (p := ⟨g1, f.toNat, none⟩))
   clear hy hz hX01 hX02 HB
   go_loopw [80] (fun s80 W => ∃ (i : Nat) (out1 : List Int), i ≤ cols.length ∧ s80 = .int .i64 (i : Int) ∧ Aside0 (out1.length = size.toNat) ∧ Aside0 (sol_fill rows f s (cols.drop i) i out1 = some o0) ∧ Aside0 (Kd.R (Kd.int .i64) 2 W w.heap.size (fun _ => True) (.slice (some ⟨g1, 0, none⟩) size.toNat c1) out1) ∧ Aside0 (Below w.heap.size w W)) (fun s80 _ => cols.length - (intOf s80).toNat)
   case atStart => exact ⟨0, _, Nat.zero_le _, rfl, ⟨by simp⟩, HFILL, HO2, HB2⟩
   case round =>
    clear HO1 HB1 HO2 HB2 HFILL
    obtain ⟨i, out1, hi, rfl, HLO, HF, HO, HB⟩ := hrel
    by_cases hlt : i < cols.length
    ·
     have hlt1 : (i : Int) < (cols.length : Int) := by omega
     have hd1 : decide ((i : Int) < (cols.length : Int)) = true := decide_eq_true hlt1
     have hs := HF.out
     rw [drop_rd1 hlt, sol_fill] at hs
     by_cases hcc : i < rows.length ∧ 0 ≤ rd cols (i : Int) ∧ rd cols (i : Int) < ((rd_L1 rows i).length : Int) ∧ 0 ≤ f ∧ f < ((rd_L1 rows i).length : Int) ∧ rd cols (i : Int) < (out1.length : Int)
     case neg => rw [if_neg hcc] at hs; cases hs
     rw [if_pos hcc] at hs
     obtain ⟨hir, hc1', hc2', hf1', hf2', hc3'⟩ := hcc
     have hir1 : (i : Int) < (rows.length : Int) := by omega
     have hX1 := (HB.out.cell (World.block_lt_of_cell? _ _ HC1.out)).trans HC1.out
     obtain ⟨adc, eac, hxc⟩ := Kd.at_int HCC.out (i : Int) (by omega) hlt1
     cases eac
     rw [Int.toNat_natCast] at hxc
     replace hxc := (HB.out.cell (World.block_lt_of_cell? _ _ hxc)).trans hxc
     obtain ⟨adr, Aa, ca, ead, hx, hl, hin⟩ := at_L1 HCR.out (i : Int) (by omega) hir1
     cases ead
     rw [Int.toNat_natCast] at hx
     replace hx := (HB.out.cell (World.block_lt_of_cell? _ _ hx)).trans hx
     obtain ⟨aa, eaa, hx1⟩ := Kd.at_int hin (rd cols (i : Int)) hc1' hc2'
     cases eaa
     obtain ⟨ab, eab, hx2⟩ := Kd.at_int hin f hf1' hf2'
     obtain rfl : aa = ab := (by injection eab)
     have HB1' := Aside0.mk (World.block_lt_of_cell? _ _ hx1)
     have HB2' := Aside0.mk (World.block_lt_of_cell? _ _ hx2)
     have HX1' := Aside0.mk hx1
     have HX2' := Aside0.mk hx2
     replace hx1 := (HB.out.cell HB1'.out).trans hx1
     replace hx2 := (HB.out.cell HB2'.out).trans hx2

     have hlo : out1.length = size.toNat := HLO.out
     have hcs : rd cols (i : Int) < ((size.toNat : Nat) : Int) := by omega
     obtain ⟨⟨gg, ok⟩, hg, hs⟩ := Option.bind_eq_some_iff.mp hs
     have HG := Aside0.mk hg
     simp only at hs
     by_cases hgn : gg = 0
     case pos => rw [if_pos hgn] at hs; cases hs
     rw [if_neg hgn] at hs
     by_cases hgm : wrap64 (Int.tdiv (rd (rd_L1 rows i) (rd cols (i : Int))) gg) = 0
     case pos => rw [if_pos hgm] at hs; cases hs
     rw [if_neg hgm] at hs
     have hgb : (gg == 0) = false := beq_eq_false_iff_ne.mpr hgn
     have hgmc : (IntKind.i64.wrap (Int.tdiv (rd (rd_L1 rows i) (rd cols (i : Int))) gg) == 0) = false := by rw [i64_w]; exact beq_eq_false_iff_ne.mpr hgm
     have hgmd : ¬ IntKind.i64.wrap (Int.tdiv (rd (rd_L1 rows i) (rd cols (i : Int))) gg) = 0 := by rw [i64_w]; exact hgm
     have hgmb : (wrap64 (Int.tdiv (rd (rd_L1 rows i) (rd cols (i : Int))) gg) == 0) = false := beq_eq_false_iff_ne.mpr hgm
     obtain ⟨⟨v1, v2⟩, hq, hs⟩ := Option.bind_eq_some_iff.mp hs
     have HQ := Aside0.mk hq
     have HS3 := Aside0.mk hs
     have hbc : (rd cols (i : Int)).toNat < out1.length := by omega
     have HBC := Aside0.mk hbc
     clear hg hq hs HF hl hin hbc
     cases v2
     ·
      have he : o0 = none := by
       have := HS3.out
       simp at this
       exact this.symm
      subst he
      have hh := HH2.out
      simp at hh
      obtain ⟨rfl, rfl⟩ := hh
      go_wp2
      go_quiet ((go_at_call 40; (with_reducible refine (safeint_Gcd.calls _ _ gg ok _ HG.out).mono ?_); rintro e w' ⟨rfl, ⟨nd, rfl⟩⟩; exact ⟨rfl, _, World.drewN_drewN _ _ _⟩))
      go_wp2
      go_region_held3 (fun w' => w'.cell? (aa.add f.toNat) = some (.int .i64 (rd (rd_L1 rows i) f)) ∧ w'.cell? (aa.add (rd cols (i : Int)).toNat) = some (.int .i64 (rd (rd_L1 rows i) (rd cols (i : Int))))) (first | go_keep | exact ⟨hx2, hx1⟩) (first | (go_at_call 42; (try simp only [i64_w]); (with_reducible refine (safeint_Mul.calls _ _ v1 false _ HQ.out).mono ?_); rintro e3 w3 ⟨rfl, hb⟩; have hW3 : Below wr.heap.size wr w3 := below_step (by repeat (first | exact Below.refl _ _ | apply pw_below_drewN | apply below_drew1)) hb; have hB3 := HB.out.trans (hW3.mono HB.out.size); replace hx1 := (hB3.cell HB1'.out).trans HX1'.out; replace hx2 := (hB3.cell HB2'.out).trans HX2'.out; have HO3 := Aside0.mk (Kd.R_below HO.out hW3); have HB3 := Aside0.mk hB3; clear hb hW3 hB3))
      go_wp2
      try rw [Exit.noGoto_ret]
      go_ret2
      exact ⟨_, rfl, Kd.R_nil _ _ _ _ _, HB3.out⟩
     ·
      have HS4 : Aside0 (sol_fill rows f s (cols.drop (i + 1)) (i + 1) (out1.set (rd cols (i : Int)).toNat v1) = some o0) := ⟨by simpa using HS3.out⟩
      clear HS3
      go_wp2
      go_quiet ((go_at_call 40; (with_reducible refine (safeint_Gcd.calls _ _ gg ok _ HG.out).mono ?_); rintro e w' ⟨rfl, ⟨nd, rfl⟩⟩; exact ⟨rfl, _, World.drewN_drewN _ _ _⟩))
      go_wp2
      go_region_held3 (fun w' => w'.cell? (aa.add f.toNat) = some (.int .i64 (rd (rd_L1 rows i) f)) ∧ w'.cell? (aa.add (rd cols (i : Int)).toNat) = some (.int .i64 (rd (rd_L1 rows i) (rd cols (i : Int))))) (first | go_keep | exact ⟨hx2, hx1⟩) (first | (go_at_call 42; (try simp only [i64_w]); (with_reducible refine (safeint_Mul.calls _ _ v1 true _ HQ.out).mono ?_); rintro e3 w3 ⟨rfl, hb⟩; have hW3 : Below wr.heap.size wr w3 := below_step (by repeat (first | exact Below.refl _ _ | apply pw_below_drewN | apply below_drew1)) hb; have hB3 := HB.out.trans (hW3.mono HB.out.size); replace hx1 := (hB3.cell HB1'.out).trans HX1'.out; replace hx2 := (hB3.cell HB2'.out).trans HX2'.out; have HO3 := Aside0.mk (Kd.R_below HO.out hW3); have HB3 := Aside0.mk hB3; clear hb hW3 hB3))
      obtain ⟨hy, hz⟩ := RI_cell HO3.out (rd cols (i : Int)).toNat HBC.out
      go_wp2
      go_roundw
      case measure => simp [intOf]; omega
      case rel => exact ⟨i + 1, _, by omega, by go_num, ⟨by simp; omega⟩, HS4, ⟨RI_put HO3.out _ v1⟩, ⟨HB3.out.setCell HBG.out _⟩⟩
    ·
     obtain rfl : i = cols.length := by omega
     have hs := HF.out
     rw [List.drop_of_length_le (Nat.le_refl _), sol_fill] at hs
     cases hs
     have hh := HH2.out
     simp only at hh
     have HPR := Aside0.mk hh
     have HLO2 := HLO.out
     have hO := HO.out
     clear HF HH2 hh hlt hfs HLO HO HBG
     generalize hnn : size.toNat = n at HLO2 hO ⊢
     subst HLO2
     obtain ⟨_, hlc, hCo⟩ := Kd.R_reads' hO
     have HCO := Aside0.mk hCo
     have HLC := Aside0.mk hlc
     clear hCo hlc hO hnn
     go_wp2_with (fail)
     refine (vector_Prim.calls k (some ⟨g1, 0, none⟩) c1 out1 out e _ HCO.out HLC.out HPR.out).mono ?_
     rintro e5 w5 ⟨v5, rfl, hR, hb⟩
     have HR5 := Aside0.mk (Kd.R_lower hR HB.out.size)
     have HB5 := Aside0.mk (below_step HB.out hb)
     clear hR hb
     go_wp2
     go_ret2
     exact ⟨_, rfl, HR5.out, HB5.out⟩
theorem sol_scale.mono (k : Nat) (rows : List (List Int)) (f : Int) : ∀ (cs : List Int) (i : Nat) (s : Int), LeO (sol_scale k rows f cs i s) (sol_scale (k + 1) rows f cs i s)
 | [], _, _ => LeO.refl _
 | c :: cs, i, s => by
  rw [sol_scale, sol_scale]
  exact LeO.ite (LeO.bind (LeO.refl _) (fun g => LeO.ite (LeO.ite (LeO.none _) (LeO.bind (safeint_Lcm.mono _ _ _) (fun q => LeO.ite (sol_scale.mono k rows f cs _ _) (LeO.refl _)))) (LeO.refl _))) (LeO.none _)
theorem table_solution.mono (rows : List (List Int)) (cols : List Int) (f size : Int) (k : Nat) : LeO (table_solution.f k rows cols f size) (table_solution.f (k + 1) rows cols f size) := by
 unfold table_solution.f
 refine LeO.ite (LeO.bind (sol_scale.mono k rows f cols 0 1) (fun s => ?_)) (LeO.none _)
 cases s with
 | none => exact LeO.refl _
 | some s =>
  refine LeO.bind (LeO.refl _) (fun o => ?_)
  cases o with
  | none => exact LeO.refl _
  | some o => exact vector_Prim.mono _ _

end Go.Proofs.Ytckefohfahphpaa.Z
end
section
namespace Go.Proofs.Ytckefohfahphpaa.Z
open Go.RowKit Go.Proofs.YtckefohfahphpaaW.PrintWords Go.Proofs.YtckefohfahphpaaW.PrintLast Go.Proofs.YtckefohfahphpaaW.PrintMore
attribute [local go_sem] max2_int min2_int max_two min_two max_three min_three max_four min_four   -- for this text's walks alone
set_option linter.unusedVariables false
set_option linter.unusedSimpArgs false

/-! ### matrix_Kernel: function 9, by hand -/
def kern_go (k : Nat) (rows : List (List Int)) (cols : List Int) (size : Nat) : Nat → Nat → Nat → List (List Int) → Option (List (List Int) × Int)
 | 0, _, _, out => some (out, 0)
 | d + 1, f, nx, out => if nx < cols.length ∧ rd cols nx = (f : Int) then kern_go k rows cols size d (f + 1) (nx + 1) out else
   (table_solution.f k rows cols f size).bind fun s => if s.2 = 0 then kern_go k rows cols size d (f + 1) nx (out ++ [s.1]) else some ([], s.2)
def matrix_Kernel.f (k : Nat) (a : List (List Int)) : Option (List (List Int) × Int) := (matrix_Valid.f k a).bind fun v => if v = true then (matrix_reduce.f k a).bind fun r => if r.2 = 0 then kern_go k r.1.1 r.1.2 (rd_L1 a 0).length (rd_L1 a 0).length 0 0 [] else some ([], r.2) else some ([], 2)
theorem reduce_guard {k : Nat} {a : List (List Int)} {r : (List (List Int) × List Int) × Int} (h : matrix_reduce.f k a = some r) : 0 < a.length ∧ ∀ r ∈ a, r.length ≤ 1000000 := by
 unfold matrix_reduce.f at h
 split at h
 case isFalse => cases h
 rename_i h0
 exact ⟨h0.1, h0.2.2⟩
set_option maxHeartbeats 2000000 in
set_option maxRecDepth 100000 in
theorem matrix_Kernel.calls (k : Nat) (A0 : Option Addr) (c0 : Nat) (l0 : List (List Int)) (r1 : List (List Int)) (r2 : Int) (w : World) (hr0 : Kd.C (Kd.slice 2 (Kd.int .i64)) w A0 l0.length l0) (hc0 : l0.length ≤ c0) (h : matrix_Kernel.f k l0 = some (r1, r2)) :
  Calls Try.prog 9 #[.slice A0 l0.length c0] w fun e w' => ∃ v0_ : Value, e = .returned (.tuple #[v0_, .int .i64 r2]) ∧ Kd.N (Kd.slice 2 (Kd.int .i64)) 33 w' w.heap.size (fun k_ => (w.heap.size ≤ k_)) v0_ r1 ∧ Below w.heap.size w w' := by
 unfold matrix_Kernel.f at h
 obtain ⟨v, hv, h⟩ := Option.bind_eq_some_iff.mp h
 have HV := Aside0.mk hv
 have HR := Aside0.mk hr0
 have HC := Aside0.mk hc0
 cases v
 ·
  have hE : ([] : List (List Int)) = r1 ∧ (2 : Int) = r2 := by simpa using h
  obtain ⟨rfl, rfl⟩ := hE
  clear hr0 hc0 h hv
  go_enter Try.func9, Try.ntmps9
  go_wp2_with (fail)
  refine (matrix_Valid.calls k _ _ l0 false _ HR.out HC.out HV.out).mono ?_
  rintro e w1 ⟨rfl, hd⟩
  have HD := Aside0.mk hd
  clear hd
  go_wp2
  go_ret2
  exact ⟨_, rfl, Kd.N_nil _ _ _ _ _, HD.out.below⟩
 ·
  simp only [if_true] at h
  obtain ⟨⟨⟨rows, cols⟩, e2⟩, hred, h⟩ := Option.bind_eq_some_iff.mp h
  have HRED := Aside0.mk hred
  obtain ⟨hpos, hbnd⟩ := reduce_guard hred
  have hlb : (rd_L1 l0 0).length ≤ 1000000 := hbnd _ (rd_L1_mem (i := 0) hpos)
  by_cases he : e2 = 0
  ·
   subst he
   simp only [if_true] at h
   have HGO := Aside0.mk h
   obtain ⟨ad0, A1, c1, ead, hx0, hl0, hin0⟩ := at_L1 hr0 0 (by omega) (by omega)
   cases ead
   rw [show ((0 : Int)).toNat = 0 from rfl, Addr.add_zero'] at hx0
   have HX0 := Aside0.mk hx0
   have hlen0 : (0 : Int) < (l0.length : Int) := by omega
   have hz0 : (0 : Int) ≤ 0 := Int.le_refl _
   clear hr0 hc0 h hv hred hx0 hl0 hin0 hbnd
   go_enter Try.func9, Try.ntmps9
   go_wp2_with (fail)
   refine (matrix_Valid.calls k _ _ l0 true _ HR.out HC.out HV.out).mono ?_
   rintro e w1 ⟨rfl, hd⟩
   have HD := Aside0.mk hd.below
   clear hd
   go_wp2_with (fail)
   refine (matrix_reduce.calls k _ _ l0 rows cols 0 _ (Kd.C_below HR.out HD.out) HC.out HRED.out).mono ?_
   rintro e3 w3 ⟨p, rfl, hB, hz⟩
   obtain ⟨cv, rv, rfl, hT⟩ := hz rfl
   have HB := Aside0.mk (below_step HD.out hB)
   have HT := Aside0.mk hT
   obtain ⟨Ac, cc, rfl⟩ := Kd.R_slice hT.col
   have hx3 := (HB.out.cell (World.block_lt_of_cell? _ _ HX0.out)).trans HX0.out
   have HX3 := Aside0.mk hx3
   obtain ⟨_, _, hCc⟩ := Kd.R_reads' hT.col
   have HCC := Aside0.mk hCc
   clear hB hz hT hCc
   go_wp2
   go_loopw [6, 7, 26] (fun s6 s7 s26 W => ∃ (f nx : Nat) (out : List (List Int)) (A : Option Addr) (cp : Nat), f ≤ (rd_L1 l0 0).length ∧ nx ≤ f ∧ s6 = .slice A out.length cp ∧ s7 = .int .i64 (nx : Int) ∧ s26 = .int .i64 (f : Int) ∧ Aside0 (out.length ≤ f) ∧ Aside0 (kern_go k rows cols (rd_L1 l0 0).length ((rd_L1 l0 0).length - f) f nx out = some (r1, r2)) ∧ Aside0 (Kd.R (Kd.slice 2 (Kd.int .i64)) 33 W w3.heap.size (fun _ => True) (.slice A out.length cp) out) ∧ Aside0 (Below w3.heap.size w3 W)) (fun s6 s7 s26 _ => (rd_L1 l0 0).length - (intOf s26).toNat)
   case atStart => exact ⟨0, 0, [], none, 0, Nat.zero_le _, Nat.le_refl _, rfl, rfl, rfl, ⟨Nat.le_refl _⟩, HGO, ⟨Kd.R_nil _ _ _ _ _⟩, ⟨Below.refl _ _⟩⟩
   case round =>
    obtain ⟨f, nx, out, A, cp, hf, hnx, rfl, rfl, rfl, HLO, HK, HO, HBW⟩ := hrel
    clear hx3
    by_cases hlt : f < (rd_L1 l0 0).length
    ·
     have hlt1 : (f : Int) < ((rd_L1 l0 0).length : Int) := by omega
     have hd1 : decide ((f : Int) < ((rd_L1 l0 0).length : Int)) = true := decide_eq_true hlt1
     have hk := HK.out
     rw [show (rd_L1 l0 0).length - f = ((rd_L1 l0 0).length - (f + 1)) + 1 by omega, kern_go] at hk
     have HTW := Aside0.mk (HT.out.below HBW.out)
     have hc0 := HTW.out.c0
     have hx3 := (HBW.out.cell (World.block_lt_of_cell? _ _ HX3.out)).trans HX3.out
     by_cases hn : nx < cols.length
     ·
      have hn1 : (nx : Int) < (cols.length : Int) := by omega
      have hdn : decide ((nx : Int) < (cols.length : Int)) = true := decide_eq_true hn1
      obtain ⟨ac, eac, hxc⟩ := Kd.at_int HCC.out (nx : Int) (by omega) hn1
      cases eac
      rw [Int.toNat_natCast] at hxc
      replace hxc := (HBW.out.cell (World.block_lt_of_cell? _ _ hxc)).trans hxc
      by_cases hm : rd cols (nx : Int) = (f : Int)
      ·
       rw [if_pos ⟨hn, hm⟩] at hk
       have HK2 := Aside0.mk hk
       have hm1 : (rd cols (nx : Int) == (f : Int)) = true := beq_iff_eq.mpr hm
       clear hk HK hm
       go_wp2_with (fail)
       refine (pivots_rank.calls _ _ cols.length cc _ hc0).mono ?_
       rintro e5 w5 ⟨rfl, hw⟩
       have hw := hw.symm
       subst hw
       go_wp2
       go_roundw
       case measure => simp [intOf]; omega
       case rel => exact ⟨f + 1, nx + 1, out, A, cp, by omega, by omega, rfl, by go_num, by go_num, ⟨by have := HLO.out; omega⟩, HK2, HO, HBW⟩
      ·
       rw [if_neg (fun h => hm h.2)] at hk
       have hm1 : (rd cols (nx : Int) == (f : Int)) = false := beq_eq_false_iff_ne.mpr hm
       clear hm
       obtain ⟨⟨s1, s2⟩, hsol, hk⟩ := Option.bind_eq_some_iff.mp hk
       have HSOL := Aside0.mk hsol
       have HK2 := Aside0.mk hk
       clear hk HK hsol
       go_wp2_with (fail)
       refine (pivots_rank.calls _ _ cols.length cc _ hc0).mono ?_
       rintro e5 w5 ⟨rfl, hw⟩
       have hw := hw.symm
       subst hw
       go_wp2_with (fail)
       refine (table_solution.calls k (f : Int) ((rd_L1 l0 0).length : Int) _ _ cols rows _ _ s1 s2 _ HTW.out HSOL.out).mono ?_
       rintro e7 w7 ⟨v7, rfl, hR7, hb7⟩
       obtain ⟨A7, c7, rfl⟩ := Kd.R_slice hR7
       have HO7 := Aside0.mk (Kd.R_below HO.out hb7)
       have HR7 := Aside0.mk (Kd.R_lower hR7 HBW.out.size)
       have HB7 := Aside0.mk (below_step HBW.out hb7)
       clear hR7 hb7 hc0 hx3 hxc
       by_cases hs2 : s2 = 0
       ·
        subst hs2
        have HK3 : Aside0 (kern_go k rows cols (rd_L1 l0 0).length ((rd_L1 l0 0).length - (f + 1)) (f + 1) nx (out ++ [s1]) = some (r1, r2)) := ⟨by simpa using HK2.out⟩
        have hlo := HLO.out
        go_wp2_with (first | ((with_reducible refine gate_builtin (b := .append) (xs := #[.tmp 62, .tmp 64]) rfl ?_); at_builtin; refine Kd.R_append (Kd.slice 2 (Kd.int .i64)) (w0 := w3) w3.heap.size rfl (.tmp 62) (.tmp 64) 22 33 (.slice none 0 0) 24 rfl Try.underlying22 tinfo33 rfl (by decide) (by omega) (.slice A out.length cp) out s1 [.slice A7 s1.length c7] (fun _ => True) (fun k => True ∧ some k ≠ (Value.slice A out.length cp).ownBlock) rfl rfl ?aP (fun _ hk => hk) ?aF ?aO ?aB ?aS ?aL ?_; (case aP => exact ⟨_, rfl, Kd.R_apart' HR7.out (Kd.R_typed HO7.out) (by intro q hq; simp [Kd.int, Kd.scalar] at hq; omega)⟩); (case aB => exact HB7.out); (case aF => exact (fun _ _ => trivial)); (case aO => exact HO7.out); (case aS => exact HB7.out.size); (case aL => omega); intro v8 w8 ho hb hg hat; obtain ⟨A8, c8, rfl⟩ := Kd.R_slice ho; have HO8 := Aside0.mk ho; have HB8 := Aside0.mk hb; clear ho hb hg hat))
        go_roundw
        case measure => simp [intOf]; omega
        case rel =>
         have ho8 := HO8.out
         have hl8 : (out ++ [s1]).length = out.length + 1 := by simp
         exact ⟨f + 1, nx, out ++ [s1], A8, c8, by omega, by omega, by rw [hl8], rfl, by go_num, ⟨by rw [hl8]; omega⟩, HK3, HO8, HB8⟩
       ·
        have hk := HK2.out
        rw [if_neg hs2] at hk
        have hs3 : (s2 == 0) = false := beq_eq_false_iff_ne.mpr hs2
        have hs4 : (s2 != 0) = true := bne_iff_ne.mpr hs2
        cases hk
        go_wp2
        go_ret2
        exact ⟨_, rfl, Kd.N_nil _ _ _ _ _, HB.out.trans (HB7.out.mono HB.out.size)⟩
     ·
      rw [if_neg (fun h => hn h.1)] at hk
      have hdn : decide ((nx : Int) < (cols.length : Int)) = false := decide_eq_false (by omega)
      have hdn2 : decide (nx < cols.length) = false := decide_eq_false hn
      have hdn3 : ¬ ((nx : Int) < (cols.length : Int)) := by omega
      have hdn4 : (cols.length : Int) ≤ (nx : Int) := by omega
      obtain ⟨⟨s1, s2⟩, hsol, hk⟩ := Option.bind_eq_some_iff.mp hk
      have HSOL := Aside0.mk hsol
      have HK2 := Aside0.mk hk
      clear hk HK hsol
      go_wp2_with (fail)
      refine (pivots_rank.calls _ _ cols.length cc _ hc0).mono ?_
      rintro e5 w5 ⟨rfl, hw⟩
      have hw := hw.symm
      subst hw
      go_wp2_with (fail)
      refine (table_solution.calls k (f : Int) ((rd_L1 l0 0).length : Int) _ _ cols rows _ _ s1 s2 _ HTW.out HSOL.out).mono ?_
      rintro e7 w7 ⟨v7, rfl, hR7, hb7⟩
      obtain ⟨A7, c7, rfl⟩ := Kd.R_slice hR7
      have HO7 := Aside0.mk (Kd.R_below HO.out hb7)
      have HR7 := Aside0.mk (Kd.R_lower hR7 HBW.out.size)
      have HB7 := Aside0.mk (below_step HBW.out hb7)
      clear hR7 hb7 hc0 hx3
      by_cases hs2 : s2 = 0
      ·
       subst hs2
       have HK3 : Aside0 (kern_go k rows cols (rd_L1 l0 0).length ((rd_L1 l0 0).length - (f + 1)) (f + 1) nx (out ++ [s1]) = some (r1, r2)) := ⟨by simpa using HK2.out⟩
       have hlo := HLO.out
       go_wp2_with (first | ((with_reducible refine gate_builtin (b := .append) (xs := #[.tmp 62, .tmp 64]) rfl ?_); at_builtin; refine Kd.R_append (Kd.slice 2 (Kd.int .i64)) (w0 := w3) w3.heap.size rfl (.tmp 62) (.tmp 64) 22 33 (.slice none 0 0) 24 rfl Try.underlying22 tinfo33 rfl (by decide) (by omega) (.slice A out.length cp) out s1 [.slice A7 s1.length c7] (fun _ => True) (fun k => True ∧ some k ≠ (Value.slice A out.length cp).ownBlock) rfl rfl ?aP (fun _ hk => hk) ?aF ?aO ?aB ?aS ?aL ?_; (case aP => exact ⟨_, rfl, Kd.R_apart' HR7.out (Kd.R_typed HO7.out) (by intro q hq; simp [Kd.int, Kd.scalar] at hq; omega)⟩); (case aB => exact HB7.out); (case aF => exact (fun _ _ => trivial)); (case aO => exact HO7.out); (case aS => exact HB7.out.size); (case aL => omega); intro v8 w8 ho hb hg hat; obtain ⟨A8, c8, rfl⟩ := Kd.R_slice ho; have HO8 := Aside0.mk ho; have HB8 := Aside0.mk hb; clear ho hb hg hat))
       go_roundw
       case measure => simp [intOf]; omega
       case rel =>
        have ho8 := HO8.out
        have hl8 : (out ++ [s1]).length = out.length + 1 := by simp
        exact ⟨f + 1, nx, out ++ [s1], A8, c8, by omega, by omega, by rw [hl8], rfl, by go_num, ⟨by rw [hl8]; omega⟩, HK3, HO8, HB8⟩
      ·
       have hk := HK2.out
       rw [if_neg hs2] at hk
       have hs3 : (s2 == 0) = false := beq_eq_false_iff_ne.mpr hs2
       have hs4 : (s2 != 0) = true := bne_iff_ne.mpr hs2
       cases hk
       go_wp2
       go_ret2
       exact ⟨_, rfl, Kd.N_nil _ _ _ _ _, HB.out.trans (HB7.out.mono HB.out.size)⟩
    ·
     obtain rfl : f = (rd_L1 l0 0).length := by omega
     have hk := HK.out
     rw [Nat.sub_self, kern_go] at hk
     cases hk
     clear HK hlt
     go_wp2
     go_ret2
     exact ⟨_, rfl, Kd.R_N (Kd.R_mono (Kd.R_lower (Kd.R_bound HO.out) HB.out.size) (fun k hk => Nat.le_trans HB.out.size hk.2.1)), HB.out.trans (HBW.out.mono HB.out.size)⟩
  ·
   rw [if_neg he] at h
   obtain ⟨rfl, rfl⟩ : ([] : List (List Int)) = r1 ∧ e2 = r2 := by simpa using h
   have he3 : (e2 == 0) = false := beq_eq_false_iff_ne.mpr he
   have he4 : (e2 != 0) = true := bne_iff_ne.mpr he
   clear hr0 hc0 h hv hred hbnd
   go_enter Try.func9, Try.ntmps9
   go_wp2_with (fail)
   refine (matrix_Valid.calls k _ _ l0 true _ HR.out HC.out HV.out).mono ?_
   rintro e w1 ⟨rfl, hd⟩
   have HD := Aside0.mk hd.below
   clear hd
   go_wp2_with (fail)
   refine (matrix_reduce.calls k _ _ l0 _ _ e2 _ (Kd.C_below HR.out HD.out) HC.out HRED.out).mono ?_
   rintro e3 w3 ⟨p, rfl, hB, hz⟩
   have HB := Aside0.mk (below_step HD.out hB)
   clear hB hz
   go_wp2
   go_ret2
   exact ⟨_, rfl, Kd.N_nil _ _ _ _ _, HB.out⟩
theorem kern_go.mono (k : Nat) (rows : List (List Int)) (cols : List Int) (size : Nat) : ∀ (d f nx : Nat) (out : List (List Int)), LeO (kern_go k rows cols size d f nx out) (kern_go (k + 1) rows cols size d f nx out)
 | 0, _, _, _ => LeO.refl _
 | d + 1, f, nx, out => by
  rw [kern_go, kern_go]
  exact LeO.ite (kern_go.mono k rows cols size d _ _ _) (LeO.bind (table_solution.mono _ _ _ _ _) (fun s => LeO.ite (kern_go.mono k rows cols size d _ _ _) (LeO.refl _)))
theorem matrix_Kernel.mono (a : List (List Int)) (k : Nat) : LeO (matrix_Kernel.f k a) (matrix_Kernel.f (k + 1) a) := by
 unfold matrix_Kernel.f
 exact LeO.bind (matrix_Valid.mono _ _) (fun _ => LeO.ite (LeO.bind (matrix_reduce.mono _ _) (fun _ => LeO.ite (kern_go.mono k _ _ _ _ _ _ _) (LeO.refl _))) (LeO.refl _))

end Go.Proofs.Ytckefohfahphpaa.Z
end
section
namespace Go.Proofs.Ytckefohfahphpaa.Z
open Go.RowKit Go.Proofs.YtckefohfahphpaaW.PrintWords Go.Proofs.YtckefohfahphpaaW.PrintLast Go.Proofs.YtckefohfahphpaaW.PrintMore
attribute [local go_sem] max2_int min2_int max_two min_two max_three min_three max_four min_four   -- for this text's walks alone
set_option linter.unusedVariables false
set_option linter.unusedSimpArgs false

/-! ### matrix_Echelon: function 15, by hand -/
def matrix_Echelon.f (k : Nat) (a : List (List Int)) : Option (List (List Int) × Int) := (matrix_Valid.f k a).bind fun v => if v = true then (matrix_reduce.f k a).bind fun r => some (r.1.1, r.2) else some ([], 2)
theorem matrix_Echelon.mono (a : List (List Int)) (k : Nat) : LeO (matrix_Echelon.f k a) (matrix_Echelon.f (k + 1) a) := by
 unfold matrix_Echelon.f
 exact LeO.bind (matrix_Valid.mono _ _) (fun _ => LeO.ite (LeO.bind (matrix_reduce.mono _ _) (fun _ => LeO.refl _)) (LeO.refl _))
set_option maxHeartbeats 8000000 in
set_option maxRecDepth 100000 in
theorem matrix_Echelon.calls (k : Nat) (A0 : Option Addr) (c0 : Nat) (l0 : List (List Int)) (r1 : List (List Int)) (r2 : Int) (w : World) (hr0 : Kd.C (Kd.slice 2 (Kd.int .i64)) w A0 l0.length l0) (hc0 : l0.length ≤ c0) (h : matrix_Echelon.f k l0 = some (r1, r2)) :
  Calls Try.prog 15 #[.slice A0 l0.length c0] w fun e w' => ∃ v0_ : Value, e = .returned (.tuple #[v0_, .int .i64 r2]) ∧ Kd.N (Kd.slice 2 (Kd.int .i64)) 33 w' w.heap.size (fun k_ => (w.heap.size ≤ k_)) v0_ r1 ∧ Below w.heap.size w w' := by
 unfold matrix_Echelon.f at h
 obtain ⟨v, hv, h⟩ := Option.bind_eq_some_iff.mp h
 have HV := Aside0.mk hv
 have HR := Aside0.mk hr0
 have HC := Aside0.mk hc0
 cases v
 ·
  have hE : ([] : List (List Int)) = r1 ∧ (2 : Int) = r2 := by simpa using h
  obtain ⟨rfl, rfl⟩ := hE
  clear hr0 hc0 h hv
  go_enter Try.func15, Try.ntmps15
  go_wp2_with (fail)
  refine (matrix_Valid.calls k _ _ l0 false _ HR.out HC.out HV.out).mono ?_
  rintro e w1 ⟨rfl, hd⟩
  have HD := Aside0.mk hd
  clear hd
  go_wp2
  go_ret2
  exact ⟨_, rfl, Kd.N_nil _ _ _ _ _, HD.out.below⟩
 ·
  simp only [if_true] at h
  obtain ⟨⟨⟨rows, cols⟩, e2⟩, hred, h⟩ := Option.bind_eq_some_iff.mp h
  obtain ⟨rfl, rfl⟩ : rows = r1 ∧ e2 = r2 := by simpa using h
  clear h
  have HRED := Aside0.mk hred
  clear hr0 hc0 hv hred
  by_cases he : e2 = 0
  ·
   subst he
   go_enter Try.func15, Try.ntmps15
   go_wp2_with (fail)
   refine (matrix_Valid.calls k _ _ l0 true _ HR.out HC.out HV.out).mono ?_
   rintro e w1 ⟨rfl, hd⟩
   have HD := Aside0.mk hd.below
   clear hd
   go_wp2_with (fail)
   refine (matrix_reduce.calls k _ _ l0 rows cols 0 _ (Kd.C_below HR.out HD.out) HC.out HRED.out).mono ?_
   rintro e3 w3 ⟨p, rfl, hB, hz⟩
   obtain ⟨cv, rv, rfl, hT⟩ := hz rfl
   have HB := Aside0.mk (below_step HD.out hB)
   have HT := Aside0.mk hT
   have hc1 := hT.c1
   obtain ⟨Ar, cr, rfl⟩ := Kd.R_slice hT.row
   have HLE := Aside0.mk HD.out.size
   clear hB hz hT
   go_wp2
   go_ret2
   refine ⟨_, rfl, Kd.R_N (Kd.R_mono (Kd.R_lower (Kd.R_bound HT.out.row) HLE.out) (fun k hk => Nat.le_trans HLE.out hk.2.1)), HB.out⟩
  ·
   obtain ⟨rfl, rfl⟩ := reduce_bad HRED.out he
   have he3 : (e2 == 0) = false := beq_eq_false_iff_ne.mpr he
   have he4 : (e2 != 0) = true := bne_iff_ne.mpr he
   go_enter Try.func15, Try.ntmps15
   go_wp2_with (fail)
   refine (matrix_Valid.calls k _ _ l0 true _ HR.out HC.out HV.out).mono ?_
   rintro e w1 ⟨rfl, hd⟩
   have HD := Aside0.mk hd.below
   clear hd
   go_wp2_with (fail)
   refine (matrix_reduce.calls k _ _ l0 _ _ e2 _ (Kd.C_below HR.out HD.out) HC.out HRED.out).mono ?_
   rintro e3 w3 ⟨p, rfl, hB, hz⟩
   have HB := Aside0.mk (below_step HD.out hB)
   clear hB hz
   go_wp2
   go_ret2
   exact ⟨_, rfl, Kd.N_nil _ _ _ _ _, HB.out⟩

end Go.Proofs.Ytckefohfahphpaa.Z
end
section
namespace Go.Proofs.Ytckefohfahphpaa.Z
open Go.RowKit Go.Proofs.YtckefohfahphpaaW.PrintWords Go.Proofs.YtckefohfahphpaaW.PrintLast Go.Proofs.YtckefohfahphpaaW.PrintMore
attribute [local go_sem] max2_int min2_int max_two min_two max_three min_three max_four min_four   -- for this text's walks alone
set_option linter.unusedVariables false
set_option linter.unusedSimpArgs false

/-! ### petrinetlaw08_exampleHolds: function 11 -/
def petrinetlaw08_exampleHolds.f (k : Nat)  : Option (Bool) := (matrix_Echelon.f k (([(([2, 4] : List Int)), (([1, 3] : List Int))] : List (List Int)))).bind fun bt155 => ((matrix_Kernel.f k (([(([1, (-1), 0] : List Int))] : List (List Int)))).bind fun bt165 => (if bt155.2 = 0 then (if bt165.2 = 0 then ((petrinetref08_Same.f k bt155.1 (([(([1, 0] : List Int)), (([0, 1] : List Int))] : List (List Int)))).bind fun t178 => (if t178 = true then ((petrinetref08_Same.f k bt165.1 (([(([1, 1, 0] : List Int)), (([0, 0, 1] : List Int))] : List (List Int)))).bind fun t188 => (some t188)) else (none))) else (none)) else (none)))
theorem petrinetlaw08_exampleHolds.mono : ∀ k, LeO (petrinetlaw08_exampleHolds.f k ) (petrinetlaw08_exampleHolds.f (k + 1) ) := by
 intro  k
 unfold petrinetlaw08_exampleHolds.f
 repeat' first
   | (with_reducible exact matrix_Echelon.mono _ _)
   | (with_reducible exact matrix_Kernel.mono _ _)
   | (with_reducible exact petrinetref08_Same.mono _ _ _)
   | (with_reducible exact LeO.refl _)
   | (with_reducible exact LeO.none _)
   | (with_reducible refine LeO.ite ?_ ?_)
   | (with_reducible refine LeO.bind ?_ (fun _ => ?_))
   | exact matrix_Echelon.mono _ _
   | exact matrix_Kernel.mono _ _
   | exact petrinetref08_Same.mono _ _ _
   | exact LeO.none _
   | refine LeO.ite ?_ ?_
   | refine LeO.bind ?_ (fun _ => ?_)
set_option maxHeartbeats 8000000 in
set_option maxRecDepth 100000 in
theorem petrinetlaw08_exampleHolds.calls (k : Nat)  (r : Bool) (w : World) (h : petrinetlaw08_exampleHolds.f k  = some r) :
  Calls Try.prog 11 #[] w fun e w' => e = .returned (.bool r) ∧ Below w.heap.size w w' := by
 have HB := Aside0.mk (Below.refl w.heap.size w)
 have H : ((matrix_Echelon.f k (([(([2, 4] : List Int)), (([1, 3] : List Int))] : List (List Int)))).bind fun bt155 => ((matrix_Kernel.f k (([(([1, (-1), 0] : List Int))] : List (List Int)))).bind fun bt165 => (if bt155.2 = 0 then (if bt165.2 = 0 then ((petrinetref08_Same.f k bt155.1 (([(([1, 0] : List Int)), (([0, 1] : List Int))] : List (List Int)))).bind fun t178 => (if t178 = true then ((petrinetref08_Same.f k bt165.1 (([(([1, 1, 0] : List Int)), (([0, 0, 1] : List Int))] : List (List Int)))).bind fun t188 => (some t188)) else (none))) else (none)) else (none)))) = some r := h
 clear h
 obtain ⟨y146, hy146⟩ : ∃ y_ : List Int, y_ = (([2, 4] : List Int)) := ⟨_, rfl⟩
 replace H : ((matrix_Echelon.f k (([y146, (([1, 3] : List Int))] : List (List Int)))).bind fun bt155 => ((matrix_Kernel.f k (([(([1, (-1), 0] : List Int))] : List (List Int)))).bind fun bt165 => (if bt155.2 = 0 then (if bt165.2 = 0 then ((petrinetref08_Same.f k bt155.1 (([(([1, 0] : List Int)), (([0, 1] : List Int))] : List (List Int)))).bind fun t178 => (if t178 = true then ((petrinetref08_Same.f k bt165.1 (([(([1, 1, 0] : List Int)), (([0, 0, 1] : List Int))] : List (List Int)))).bind fun t188 => (some t188)) else (none))) else (none)) else (none)))) = some r := by first | (rw [hy146]; with_reducible exact H) | (have H2_ := (Option.bind_some _ _).symm.trans H; rw [hy146]; with_reducible exact H2_) | (have H2_ := (Option.bind_some _ _).symm.trans H; with_reducible exact H2_) | with_reducible exact H | (rw [hy146]; exact H) | exact H
 have Ny146 := Aside0.mk hy146
 clear hy146
 obtain ⟨y149, hy149⟩ : ∃ y_ : List Int, y_ = (([1, 3] : List Int)) := ⟨_, rfl⟩
 replace H : ((matrix_Echelon.f k (([y146, y149] : List (List Int)))).bind fun bt155 => ((matrix_Kernel.f k (([(([1, (-1), 0] : List Int))] : List (List Int)))).bind fun bt165 => (if bt155.2 = 0 then (if bt165.2 = 0 then ((petrinetref08_Same.f k bt155.1 (([(([1, 0] : List Int)), (([0, 1] : List Int))] : List (List Int)))).bind fun t178 => (if t178 = true then ((petrinetref08_Same.f k bt165.1 (([(([1, 1, 0] : List Int)), (([0, 0, 1] : List Int))] : List (List Int)))).bind fun t188 => (some t188)) else (none))) else (none)) else (none)))) = some r := by first | (rw [hy149]; with_reducible exact H) | (have H2_ := (Option.bind_some _ _).symm.trans H; rw [hy149]; with_reducible exact H2_) | (have H2_ := (Option.bind_some _ _).symm.trans H; with_reducible exact H2_) | with_reducible exact H | (rw [hy149]; exact H) | exact H
 have Ny149 := Aside0.mk hy149
 clear hy149
 obtain ⟨y152, hy152⟩ : ∃ y_ : List (List Int), y_ = (([y146, y149] : List (List Int))) := ⟨_, rfl⟩
 replace H : ((matrix_Echelon.f k y152).bind fun bt155 => ((matrix_Kernel.f k (([(([1, (-1), 0] : List Int))] : List (List Int)))).bind fun bt165 => (if bt155.2 = 0 then (if bt165.2 = 0 then ((petrinetref08_Same.f k bt155.1 (([(([1, 0] : List Int)), (([0, 1] : List Int))] : List (List Int)))).bind fun t178 => (if t178 = true then ((petrinetref08_Same.f k bt165.1 (([(([1, 1, 0] : List Int)), (([0, 0, 1] : List Int))] : List (List Int)))).bind fun t188 => (some t188)) else (none))) else (none)) else (none)))) = some r := by first | (rw [hy152]; with_reducible exact H) | (have H2_ := (Option.bind_some _ _).symm.trans H; rw [hy152]; with_reducible exact H2_) | (have H2_ := (Option.bind_some _ _).symm.trans H; with_reducible exact H2_) | with_reducible exact H | (rw [hy152]; exact H) | exact H
 have Ny152 := Aside0.mk hy152
 clear hy152
 replace H := Option.bind_eq_some_iff.mp H
 obtain ⟨⟨t155, t158⟩, A10, H⟩ := H
 replace H : ((matrix_Kernel.f k (([(([1, (-1), 0] : List Int))] : List (List Int)))).bind fun bt165 => (if t158 = 0 then (if bt165.2 = 0 then ((petrinetref08_Same.f k t155 (([(([1, 0] : List Int)), (([0, 1] : List Int))] : List (List Int)))).bind fun t178 => (if t178 = true then ((petrinetref08_Same.f k bt165.1 (([(([1, 1, 0] : List Int)), (([0, 0, 1] : List Int))] : List (List Int)))).bind fun t188 => (some t188)) else (none))) else (none)) else (none))) = some r := H
 have A1 := Aside0.mk A10
 clear A10
 obtain ⟨y159, hy159⟩ : ∃ y_ : List Int, y_ = (([1, (-1), 0] : List Int)) := ⟨_, rfl⟩
 replace H : ((matrix_Kernel.f k (([y159] : List (List Int)))).bind fun bt165 => (if t158 = 0 then (if bt165.2 = 0 then ((petrinetref08_Same.f k t155 (([(([1, 0] : List Int)), (([0, 1] : List Int))] : List (List Int)))).bind fun t178 => (if t178 = true then ((petrinetref08_Same.f k bt165.1 (([(([1, 1, 0] : List Int)), (([0, 0, 1] : List Int))] : List (List Int)))).bind fun t188 => (some t188)) else (none))) else (none)) else (none))) = some r := by first | (rw [hy159]; with_reducible exact H) | (have H2_ := (Option.bind_some _ _).symm.trans H; rw [hy159]; with_reducible exact H2_) | (have H2_ := (Option.bind_some _ _).symm.trans H; with_reducible exact H2_) | with_reducible exact H | (rw [hy159]; exact H) | exact H
 have Ny159 := Aside0.mk hy159
 clear hy159
 obtain ⟨y162, hy162⟩ : ∃ y_ : List (List Int), y_ = (([y159] : List (List Int))) := ⟨_, rfl⟩
 replace H : ((matrix_Kernel.f k y162).bind fun bt165 => (if t158 = 0 then (if bt165.2 = 0 then ((petrinetref08_Same.f k t155 (([(([1, 0] : List Int)), (([0, 1] : List Int))] : List (List Int)))).bind fun t178 => (if t178 = true then ((petrinetref08_Same.f k bt165.1 (([(([1, 1, 0] : List Int)), (([0, 0, 1] : List Int))] : List (List Int)))).bind fun t188 => (some t188)) else (none))) else (none)) else (none))) = some r := by first | (rw [hy162]; with_reducible exact H) | (have H2_ := (Option.bind_some _ _).symm.trans H; rw [hy162]; with_reducible exact H2_) | (have H2_ := (Option.bind_some _ _).symm.trans H; with_reducible exact H2_) | with_reducible exact H | (rw [hy162]; exact H) | exact H
 have Ny162 := Aside0.mk hy162
 clear hy162
 replace H := Option.bind_eq_some_iff.mp H
 obtain ⟨⟨t165, t168⟩, A20, H⟩ := H
 replace H : (if t158 = 0 then (if t168 = 0 then ((petrinetref08_Same.f k t155 (([(([1, 0] : List Int)), (([0, 1] : List Int))] : List (List Int)))).bind fun t178 => (if t178 = true then ((petrinetref08_Same.f k t165 (([(([1, 1, 0] : List Int)), (([0, 0, 1] : List Int))] : List (List Int)))).bind fun t188 => (some t188)) else (none))) else (none)) else (none)) = some r := H
 have A2 := Aside0.mk A20
 clear A20
 by_cases c3 : t158 = 0
 ·
  rw [if_pos c3] at H
  have c3b0 : (t158 == 0) = true := beq_iff_eq.mpr c3
  have c3b1 : (t158 != 0) = false := bne_eq_false_iff_eq.mpr c3
  clear c3
  by_cases c4 : t168 = 0
  ·
   rw [if_pos c4] at H
   have c4b0 : (t168 == 0) = true := beq_iff_eq.mpr c4
   have c4b1 : (t168 != 0) = false := bne_eq_false_iff_eq.mpr c4
   clear c4
   obtain ⟨y169, hy169⟩ : ∃ y_ : List Int, y_ = (([1, 0] : List Int)) := ⟨_, rfl⟩
   replace H : ((petrinetref08_Same.f k t155 (([y169, (([0, 1] : List Int))] : List (List Int)))).bind fun t178 => (if t178 = true then ((petrinetref08_Same.f k t165 (([(([1, 1, 0] : List Int)), (([0, 0, 1] : List Int))] : List (List Int)))).bind fun t188 => (some t188)) else (none))) = some r := by first | (rw [hy169]; with_reducible exact H) | (have H2_ := (Option.bind_some _ _).symm.trans H; rw [hy169]; with_reducible exact H2_) | (have H2_ := (Option.bind_some _ _).symm.trans H; with_reducible exact H2_) | with_reducible exact H | (rw [hy169]; exact H) | exact H
   have Ny169 := Aside0.mk hy169
   clear hy169
   obtain ⟨y172, hy172⟩ : ∃ y_ : List Int, y_ = (([0, 1] : List Int)) := ⟨_, rfl⟩
   replace H : ((petrinetref08_Same.f k t155 (([y169, y172] : List (List Int)))).bind fun t178 => (if t178 = true then ((petrinetref08_Same.f k t165 (([(([1, 1, 0] : List Int)), (([0, 0, 1] : List Int))] : List (List Int)))).bind fun t188 => (some t188)) else (none))) = some r := by first | (rw [hy172]; with_reducible exact H) | (have H2_ := (Option.bind_some _ _).symm.trans H; rw [hy172]; with_reducible exact H2_) | (have H2_ := (Option.bind_some _ _).symm.trans H; with_reducible exact H2_) | with_reducible exact H | (rw [hy172]; exact H) | exact H
   have Ny172 := Aside0.mk hy172
   clear hy172
   obtain ⟨y175, hy175⟩ : ∃ y_ : List (List Int), y_ = (([y169, y172] : List (List Int))) := ⟨_, rfl⟩
   replace H : ((petrinetref08_Same.f k t155 y175).bind fun t178 => (if t178 = true then ((petrinetref08_Same.f k t165 (([(([1, 1, 0] : List Int)), (([0, 0, 1] : List Int))] : List (List Int)))).bind fun t188 => (some t188)) else (none))) = some r := by first | (rw [hy175]; with_reducible exact H) | (have H2_ := (Option.bind_some _ _).symm.trans H; rw [hy175]; with_reducible exact H2_) | (have H2_ := (Option.bind_some _ _).symm.trans H; with_reducible exact H2_) | with_reducible exact H | (rw [hy175]; exact H) | exact H
   have Ny175 := Aside0.mk hy175
   clear hy175
   replace H := Option.bind_eq_some_iff.mp H
   obtain ⟨t178, A50, H⟩ := H
   replace H : (if t178 = true then ((petrinetref08_Same.f k t165 (([(([1, 1, 0] : List Int)), (([0, 0, 1] : List Int))] : List (List Int)))).bind fun t188 => (some t188)) else (none)) = some r := H
   have A5 := Aside0.mk A50
   clear A50
   by_cases c6 : t178 = true
   ·
    subst c6
    have H1 : ((petrinetref08_Same.f k t165 (([(([1, 1, 0] : List Int)), (([0, 0, 1] : List Int))] : List (List Int)))).bind fun t188 => (some t188)) = some r := by rw [if_pos rfl] at H; exact H
    clear H
    have H := H1
    clear H1
    obtain ⟨y179, hy179⟩ : ∃ y_ : List Int, y_ = (([1, 1, 0] : List Int)) := ⟨_, rfl⟩
    replace H : ((petrinetref08_Same.f k t165 (([y179, (([0, 0, 1] : List Int))] : List (List Int)))).bind fun t188 => (some t188)) = some r := by first | (rw [hy179]; with_reducible exact H) | (have H2_ := (Option.bind_some _ _).symm.trans H; rw [hy179]; with_reducible exact H2_) | (have H2_ := (Option.bind_some _ _).symm.trans H; with_reducible exact H2_) | with_reducible exact H | (rw [hy179]; exact H) | exact H
    have Ny179 := Aside0.mk hy179
    clear hy179
    obtain ⟨y182, hy182⟩ : ∃ y_ : List Int, y_ = (([0, 0, 1] : List Int)) := ⟨_, rfl⟩
    replace H : ((petrinetref08_Same.f k t165 (([y179, y182] : List (List Int)))).bind fun t188 => (some t188)) = some r := by first | (rw [hy182]; with_reducible exact H) | (have H2_ := (Option.bind_some _ _).symm.trans H; rw [hy182]; with_reducible exact H2_) | (have H2_ := (Option.bind_some _ _).symm.trans H; with_reducible exact H2_) | with_reducible exact H | (rw [hy182]; exact H) | exact H
    have Ny182 := Aside0.mk hy182
    clear hy182
    obtain ⟨y185, hy185⟩ : ∃ y_ : List (List Int), y_ = (([y179, y182] : List (List Int))) := ⟨_, rfl⟩
    replace H : ((petrinetref08_Same.f k t165 y185).bind fun t188 => (some t188)) = some r := by first | (rw [hy185]; with_reducible exact H) | (have H2_ := (Option.bind_some _ _).symm.trans H; rw [hy185]; with_reducible exact H2_) | (have H2_ := (Option.bind_some _ _).symm.trans H; with_reducible exact H2_) | with_reducible exact H | (rw [hy185]; exact H) | exact H
    have Ny185 := Aside0.mk hy185
    clear hy185
    replace H := Option.bind_eq_some_iff.mp H
    obtain ⟨t188, A70, H⟩ := H
    replace H : (some t188) = some r := H
    have A7 := Aside0.mk A70
    clear A70
    obtain rfl := Option.some.inj H
    go_enter Try.func11, Try.ntmps11
    go_wp2_with (first | ((with_reducible refine gate_dst (N := 6) rfl ?_); (try (refine gate_guard (by rfl) ?_; dsimp only)); refine Kd.R_lit (Kd.int .i64) _ 2 ?hg (N := 6) ?hd (xs := ([2, 4] : List Int)) (inner := [.int .i64 2, .int .i64 4]) (ok := fun _ => True) (okp := fun _ => True) ?hr ?hp (fun _ hk => hk) trivial (Below.refl _ _) (Nat.le_refl _) (by simp) ?_; (case hd => rfl); (case hg => rfl); (case hr => first | (go_simp; done) | (go_simp; rfl)); (case hp => exact (Reps.one (show Kd.M (Kd.int .i64) _ _ _ 2 [.int .i64 2] from rfl) (Reps.one (show Kd.M (Kd.int .i64) _ _ _ 4 [.int .i64 4] from rfl) (Reps.none _ _)))); intro v147 w8 ho9 hb hg_ hnew_; clear hg_ hnew_; (first | rw [← Ny146.out] at ho9 | (simp only [Int.reduceToNat] at ho9; rw [← Ny146.out] at ho9)); have n0_ := Aside0.mk (Kd.R_lower ho9 (below_size (by repeat (first | (with_reducible first | exact HB.out | apply below_alloc | apply pw_below_drewN | apply below_drew1) | exact HB.out)))); have n1_ := Aside0.mk (below_step (by repeat (first | (with_reducible first | exact HB.out | apply below_alloc | apply pw_below_drewN | apply below_drew1) | exact HB.out)) hb); clear HB; have HO148 := n0_; have HB := n1_; clear n0_ n1_; clear hb ho9) | ((with_reducible refine gate_dst (N := 7) rfl ?_); (try (refine gate_guard (by rfl) ?_; dsimp only)); refine Kd.R_lit (Kd.int .i64) _ 2 ?hg (N := 7) ?hd (xs := ([1, 3] : List Int)) (inner := [.int .i64 1, .int .i64 3]) (ok := fun _ => True) (okp := fun _ => True) ?hr ?hp (fun _ hk => hk) trivial (Below.refl _ _) (Nat.le_refl _) (by simp) ?_; (case hd => rfl); (case hg => rfl); (case hr => first | (go_simp; done) | (go_simp; rfl)); (case hp => exact (Reps.one (show Kd.M (Kd.int .i64) _ _ _ 1 [.int .i64 1] from rfl) (Reps.one (show Kd.M (Kd.int .i64) _ _ _ 3 [.int .i64 3] from rfl) (Reps.none _ _)))); intro v150 w10 ho11 hb hg_ hnew_; clear hg_ hnew_; (first | rw [← Ny149.out] at ho11 | (simp only [Int.reduceToNat] at ho11; rw [← Ny149.out] at ho11)); have n0_ := Aside0.mk (Kd.R_elder' (by (with_reducible repeat (first | apply Kd.R_alloc | apply Kd.R_drewN | apply Kd.R_drew)); exact HO148.out) (Kd.R_base ho11) hb); have n1_ := Aside0.mk (Kd.R_lower (Kd.R_new' ho11 (Kd.R_lt (by (with_reducible repeat (first | apply Kd.R_alloc | apply Kd.R_drewN | apply Kd.R_drew)); exact HO148.out))) (below_size (by repeat (first | (with_reducible first | exact HB.out | apply below_alloc | apply pw_below_drewN | apply below_drew1) | exact HB.out)))); have n2_ := Aside0.mk (below_step (by repeat (first | (with_reducible first | exact HB.out | apply below_alloc | apply pw_below_drewN | apply below_drew1) | exact HB.out)) hb); clear HO148; clear HB; have HO148 := n0_; have HO151 := n1_; have HB := n2_; clear n0_ n1_ n2_; clear hb ho11; obtain ⟨Ao12, co12, eo12⟩ := Kd.R_slice HO148.out; subst eo12; obtain ⟨Ao13, co13, eo13⟩ := Kd.R_slice HO151.out; subst eo13) | ((with_reducible refine gate_dst (N := 8) rfl ?_); (try (refine gate_guard (by rfl) ?_; dsimp only)); refine Kd.N_lit (Kd.slice 2 (Kd.int .i64)) _ 33 ?hg (N' := 8) ?hd (xs := ([y146, y149] : List (List Int))) (inner := [.slice Ao12 y146.length co12, .slice Ao13 y149.length co13]) (ok := (fun _ => True)) (okp := (fun _ => True)) ?hr ?hp (fun _ hk => hk) ((show ∀ k_, w10.heap.size ≤ k_ → (fun _ => True) k_ from fun k_ hk => trivial) _ (Nat.le_refl _)) (Below.refl _ _) (Nat.le_refl _) (by simp) ?_; (case hd => rfl); (case hg => rfl); (case hr => first | (go_simp; done) | (go_simp; rfl)); (case hp => exact (Reps.one (show Kd.FK (Kd.slice 2 (Kd.int .i64)) _ _ y146 [.slice Ao12 y146.length co12] from (Kd.FK_slice_mk (Kd.R_reads' (Kd.R_mono (ok' := (fun _ => True)) (HO148.out) (fun k_ hk => trivial))).2.1 (Kd.R_F (Kd.R_mono (ok' := (fun _ => True)) (HO148.out) (fun k_ hk => trivial))))) (Reps.one (show Kd.FK (Kd.slice 2 (Kd.int .i64)) _ _ y149 [.slice Ao13 y149.length co13] from (Kd.FK_slice_mk (Kd.R_reads' (Kd.R_mono (ok' := (fun _ => True)) (HO151.out) (fun k_ hk => trivial))).2.1 (Kd.R_F (Kd.R_mono (ok' := (fun _ => True)) (HO151.out) (fun k_ hk => trivial))))) (Reps.none _ _)))); intro v153 w14 ho15 hb hg_ hnew_; clear hg_ hnew_; (first | rw [← Ny152.out] at ho15 | (simp only [Int.reduceToNat] at ho15; rw [← Ny152.out] at ho15)); have n0_ := Aside0.mk (Kd.N_lower ho15 (below_size (by repeat (first | (with_reducible first | exact HB.out | apply below_alloc | apply pw_below_drewN | apply below_drew1) | exact HB.out)))); have n1_ := Aside0.mk (below_step (by repeat (first | (with_reducible first | exact HB.out | apply below_alloc | apply pw_below_drewN | apply below_drew1) | exact HB.out)) hb); clear HB; clear HO148; clear HO151; have HO154 := n0_; have HB := n1_; clear n0_ n1_; clear hb ho15; obtain ⟨Ao16, co16, eo16⟩ := Kd.N_slice HO154.out; subst eo16) | ((with_reducible refine gate_callee (f := 15) rfl ?_); refine goesL_ (some 9) rfl rfl Try.func15 (by kernel_rfl) rfl #[.slice Ao16 y152.length co16] rfl (by (try simp only [List.map_toArray, List.map_cons, List.map_nil]); first | done | rfl | (simp only [List.length_drop, List.length_take]; rfl)) ?_; (with_reducible refine (matrix_Echelon.calls k _ _ y152 t155 t158 _ ?side1 ?side2 A1.out).mono ?_); (case side1 => repeat (first | exact (Kd.N_reads' HO154.out).2.2 | (with_reducible refine Kd.C_alloc ?_ _) | (with_reducible refine Kd.C_drewN ?_ _) | (with_reducible refine Kd.C_drew ?_))); (case side2 => exact (Kd.N_reads' HO154.out).2.1); rintro e w17 ⟨v156, rfl, ho0, hb⟩; refine ⟨_, rfl, ?_⟩; have n0_ := Aside0.mk (Kd.N_elder' (by (with_reducible repeat (first | apply Kd.N_alloc | apply Kd.N_drewN | apply Kd.N_drew)); exact HO154.out) (Kd.N_base ho0) hb); have n1_ := Aside0.mk (Kd.N_lower (Kd.N_mono (ok' := fun k_ => some k_ ≠ (.slice Ao16 y152.length co16 : Value).ownBlock) ho0 (fun k_ hk_ => (Kd.fresh' (Kd.N_lt (by (with_reducible repeat (first | apply Kd.N_alloc | apply Kd.N_drewN | apply Kd.N_drew)); exact HO154.out)) k_ hk_))) (below_size (by repeat (first | (with_reducible first | exact HB.out | apply below_alloc | apply pw_below_drewN | apply below_drew1) | exact HB.out)))); have n2_ := Aside0.mk (below_step (by repeat (first | (with_reducible first | exact HB.out | apply below_alloc | apply pw_below_drewN | apply below_drew1) | exact HB.out)) hb); clear HO154; clear HB; have HO154 := n0_; have HO157 := n1_; have HB := n2_; clear n0_ n1_ n2_; (try clear hb); (try clear hb2); (try clear hk); (try clear hi); (try clear ho0)) | ((with_reducible refine gate_dst (N := 13) rfl ?_); (try (refine gate_guard (by rfl) ?_; dsimp only)); refine Kd.R_lit (Kd.int .i64) _ 2 ?hg (N := 13) ?hd (xs := ([1, (-1), 0] : List Int)) (inner := [.int .i64 1, .int .i64 (-1), .int .i64 0]) (ok := fun _ => True) (okp := fun _ => True) ?hr ?hp (fun _ hk => hk) trivial (Below.refl _ _) (Nat.le_refl _) (by simp) ?_; (case hd => rfl); (case hg => rfl); (case hr => first | (go_simp; done) | (go_simp; rfl)); (case hp => exact (Reps.one (show Kd.M (Kd.int .i64) _ _ _ 1 [.int .i64 1] from rfl) (Reps.one (show Kd.M (Kd.int .i64) _ _ _ (-1) [.int .i64 (-1)] from rfl) (Reps.one (show Kd.M (Kd.int .i64) _ _ _ 0 [.int .i64 0] from rfl) (Reps.none _ _))))); intro v160 w18 ho19 hb hg_ hnew_; clear hg_ hnew_; (first | rw [← Ny159.out] at ho19 | (simp only [Int.reduceToNat] at ho19; rw [← Ny159.out] at ho19)); have n0_ := Aside0.mk (Kd.N_elder' (by (with_reducible repeat (first | apply Kd.N_alloc | apply Kd.N_drewN | apply Kd.N_drew)); exact HO154.out) (Kd.R_base ho19) hb); have n1_ := Aside0.mk (Kd.N_elder' (by (with_reducible repeat (first | apply Kd.N_alloc | apply Kd.N_drewN | apply Kd.N_drew)); exact HO157.out) (Kd.R_base ho19) hb); have n2_ := Aside0.mk (Kd.R_lower ho19 (below_size (by repeat (first | (with_reducible first | exact HB.out | apply below_alloc | apply pw_below_drewN | apply below_drew1) | exact HB.out)))); have n3_ := Aside0.mk (below_step (by repeat (first | (with_reducible first | exact HB.out | apply below_alloc | apply pw_below_drewN | apply below_drew1) | exact HB.out)) hb); clear HO154; clear HO157; clear HB; have HO154 := n0_; have HO157 := n1_; have HO161 := n2_; have HB := n3_; clear n0_ n1_ n2_ n3_; clear hb ho19; obtain ⟨Ao20, co20, eo20⟩ := Kd.R_slice HO161.out; subst eo20) | ((with_reducible refine gate_dst (N := 14) rfl ?_); (try (refine gate_guard (by rfl) ?_; dsimp only)); refine Kd.N_lit (Kd.slice 2 (Kd.int .i64)) _ 33 ?hg (N' := 14) ?hd (xs := ([y159] : List (List Int))) (inner := [.slice Ao20 y159.length co20]) (ok := (fun k_ => some k_ ≠ (.slice Ao16 y152.length co16 : Value).ownBlock ∧ some k_ ≠ (v156 : Value).ownBlock)) (okp := (fun k_ => some k_ ≠ (.slice Ao16 y152.length co16 : Value).ownBlock ∧ some k_ ≠ (v156 : Value).ownBlock)) ?hr ?hp (fun _ hk => hk) ((show ∀ k_, w18.heap.size ≤ k_ → (fun k_ => some k_ ≠ (.slice Ao16 y152.length co16 : Value).ownBlock ∧ some k_ ≠ (v156 : Value).ownBlock) k_ from fun k_ hk => ⟨Kd.fresh' (Kd.N_lt (by (with_reducible repeat (first | apply Kd.N_alloc | apply Kd.N_drewN | apply Kd.N_drew)); exact HO154.out)) k_ hk, Kd.fresh' (Kd.N_lt (by (with_reducible repeat (first | apply Kd.N_alloc | apply Kd.N_drewN | apply Kd.N_drew)); exact HO157.out)) k_ hk⟩) _ (Nat.le_refl _)) (Below.refl _ _) (Nat.le_refl _) (by simp) ?_; (case hd => rfl); (case hg => rfl); (case hr => first | (go_simp; done) | (go_simp; rfl)); (case hp => exact (Reps.one (show Kd.FK (Kd.slice 2 (Kd.int .i64)) _ _ y159 [.slice Ao20 y159.length co20] from (Kd.FK_slice_mk (Kd.R_reads' (Kd.R_mono (ok' := (fun k_ => some k_ ≠ (.slice Ao16 y152.length co16 : Value).ownBlock ∧ some k_ ≠ (v156 : Value).ownBlock)) (Kd.R_apart' (Kd.R_apart' (HO161.out) (Kd.N_typed HO154.out) (by decide)) (Kd.N_typed HO157.out) (by decide)) (fun k_ hk => ⟨hk.1.2, hk.2⟩))).2.1 (Kd.R_F (Kd.R_mono (ok' := (fun k_ => some k_ ≠ (.slice Ao16 y152.length co16 : Value).ownBlock ∧ some k_ ≠ (v156 : Value).ownBlock)) (Kd.R_apart' (Kd.R_apart' (HO161.out) (Kd.N_typed HO154.out) (by decide)) (Kd.N_typed HO157.out) (by decide)) (fun k_ hk => ⟨hk.1.2, hk.2⟩))))) (Reps.none _ _))); intro v163 w21 ho22 hb hg_ hnew_; clear hg_ hnew_; (first | rw [← Ny162.out] at ho22 | (simp only [Int.reduceToNat] at ho22; rw [← Ny162.out] at ho22)); have n0_ := Aside0.mk (Kd.N_elder' (by (with_reducible repeat (first | apply Kd.N_alloc | apply Kd.N_drewN | apply Kd.N_drew)); exact HO154.out) (Kd.N_base ho22) hb); have n1_ := Aside0.mk (Kd.N_elder' (by (with_reducible repeat (first | apply Kd.N_alloc | apply Kd.N_drewN | apply Kd.N_drew)); exact HO157.out) (Kd.N_base ho22) hb); have n2_ := Aside0.mk (Kd.N_lower ho22 (below_size (by repeat (first | (with_reducible first | exact HB.out | apply below_alloc | apply pw_below_drewN | apply below_drew1) | exact HB.out)))); have n3_ := Aside0.mk (below_step (by repeat (first | (with_reducible first | exact HB.out | apply below_alloc | apply pw_below_drewN | apply below_drew1) | exact HB.out)) hb); clear HO154; clear HO157; clear HB; clear HO161; have HO154 := n0_; have HO157 := n1_; have HO164 := n2_; have HB := n3_; clear n0_ n1_ n2_ n3_; clear hb ho22; obtain ⟨Ao23, co23, eo23⟩ := Kd.N_slice HO164.out; subst eo23) | ((with_reducible refine gate_callee (f := 9) rfl ?_); refine goesL_ (some 15) rfl rfl Try.func9 (by kernel_rfl) rfl #[.slice Ao23 y162.length co23] rfl (by (try simp only [List.map_toArray, List.map_cons, List.map_nil]); first | done | rfl | (simp only [List.length_drop, List.length_take]; rfl)) ?_; (with_reducible refine (matrix_Kernel.calls k _ _ y162 t165 t168 _ ?side1 ?side2 A2.out).mono ?_); (case side1 => repeat (first | exact (Kd.N_reads' HO164.out).2.2 | (with_reducible refine Kd.C_alloc ?_ _) | (with_reducible refine Kd.C_drewN ?_ _) | (with_reducible refine Kd.C_drew ?_))); (case side2 => exact (Kd.N_reads' HO164.out).2.1); rintro e w24 ⟨v166, rfl, ho0, hb⟩; refine ⟨_, rfl, ?_⟩; have n0_ := Aside0.mk (Kd.N_elder' (by (with_reducible repeat (first | apply Kd.N_alloc | apply Kd.N_drewN | apply Kd.N_drew)); exact HO154.out) (Kd.N_base ho0) hb); have n1_ := Aside0.mk (Kd.N_elder' (by (with_reducible repeat (first | apply Kd.N_alloc | apply Kd.N_drewN | apply Kd.N_drew)); exact HO157.out) (Kd.N_base ho0) hb); have n2_ := Aside0.mk (Kd.N_elder' (by (with_reducible repeat (first | apply Kd.N_alloc | apply Kd.N_drewN | apply Kd.N_drew)); exact HO164.out) (Kd.N_base ho0) hb); have n3_ := Aside0.mk (Kd.N_lower (Kd.N_mono (ok' := fun k_ => some k_ ≠ (.slice Ao16 y152.length co16 : Value).ownBlock ∧ some k_ ≠ (v156 : Value).ownBlock ∧ some k_ ≠ (.slice Ao23 y162.length co23 : Value).ownBlock) ho0 (fun k_ hk_ => ⟨(Kd.fresh' (Kd.N_lt (by (with_reducible repeat (first | apply Kd.N_alloc | apply Kd.N_drewN | apply Kd.N_drew)); exact HO154.out)) k_ hk_), (Kd.fresh' (Kd.N_lt (by (with_reducible repeat (first | apply Kd.N_alloc | apply Kd.N_drewN | apply Kd.N_drew)); exact HO157.out)) k_ hk_), (Kd.fresh' (Kd.N_lt (by (with_reducible repeat (first | apply Kd.N_alloc | apply Kd.N_drewN | apply Kd.N_drew)); exact HO164.out)) k_ hk_)⟩)) (below_size (by repeat (first | (with_reducible first | exact HB.out | apply below_alloc | apply pw_below_drewN | apply below_drew1) | exact HB.out)))); have n4_ := Aside0.mk (below_step (by repeat (first | (with_reducible first | exact HB.out | apply below_alloc | apply pw_below_drewN | apply below_drew1) | exact HB.out)) hb); clear HO154; clear HO157; clear HO164; clear HB; have HO154 := n0_; have HO157 := n1_; have HO164 := n2_; have HO167 := n3_; have HB := n4_; clear n0_ n1_ n2_ n3_ n4_; (try clear hb); (try clear hb2); (try clear hk); (try clear hi); (try clear ho0)) | ((with_reducible refine gate_dst (N := 26) rfl ?_); (try (refine gate_guard (by rfl) ?_; dsimp only)); refine Kd.R_lit (Kd.int .i64) _ 2 ?hg (N := 26) ?hd (xs := ([1, 0] : List Int)) (inner := [.int .i64 1, .int .i64 0]) (ok := fun _ => True) (okp := fun _ => True) ?hr ?hp (fun _ hk => hk) trivial (Below.refl _ _) (Nat.le_refl _) (by simp) ?_; (case hd => rfl); (case hg => rfl); (case hr => first | (go_simp; done) | (go_simp; rfl)); (case hp => exact (Reps.one (show Kd.M (Kd.int .i64) _ _ _ 1 [.int .i64 1] from rfl) (Reps.one (show Kd.M (Kd.int .i64) _ _ _ 0 [.int .i64 0] from rfl) (Reps.none _ _)))); intro v170 w25 ho26 hb hg_ hnew_; clear hg_ hnew_; (first | rw [← Ny169.out] at ho26 | (simp only [Int.reduceToNat] at ho26; rw [← Ny169.out] at ho26)); have n0_ := Aside0.mk (Kd.N_elder' (by (with_reducible repeat (first | apply Kd.N_alloc | apply Kd.N_drewN | apply Kd.N_drew)); exact HO154.out) (Kd.R_base ho26) hb); have n1_ := Aside0.mk (Kd.N_elder' (by (with_reducible repeat (first | apply Kd.N_alloc | apply Kd.N_drewN | apply Kd.N_drew)); exact HO157.out) (Kd.R_base ho26) hb); have n2_ := Aside0.mk (Kd.N_elder' (by (with_reducible repeat (first | apply Kd.N_alloc | apply Kd.N_drewN | apply Kd.N_drew)); exact HO164.out) (Kd.R_base ho26) hb); have n3_ := Aside0.mk (Kd.N_elder' (by (with_reducible repeat (first | apply Kd.N_alloc | apply Kd.N_drewN | apply Kd.N_drew)); exact HO167.out) (Kd.R_base ho26) hb); have n4_ := Aside0.mk (Kd.R_lower ho26 (below_size (by repeat (first | (with_reducible first | exact HB.out | apply below_alloc | apply pw_below_drewN | apply below_drew1) | exact HB.out)))); have n5_ := Aside0.mk (below_step (by repeat (first | (with_reducible first | exact HB.out | apply below_alloc | apply pw_below_drewN | apply below_drew1) | exact HB.out)) hb); clear HO154; clear HO157; clear HO164; clear HO167; clear HB; have HO154 := n0_; have HO157 := n1_; have HO164 := n2_; have HO167 := n3_; have HO171 := n4_; have HB := n5_; clear n0_ n1_ n2_ n3_ n4_ n5_; clear hb ho26) | ((with_reducible refine gate_dst (N := 27) rfl ?_); (try (refine gate_guard (by rfl) ?_; dsimp only)); refine Kd.R_lit (Kd.int .i64) _ 2 ?hg (N := 27) ?hd (xs := ([0, 1] : List Int)) (inner := [.int .i64 0, .int .i64 1]) (ok := fun _ => True) (okp := fun _ => True) ?hr ?hp (fun _ hk => hk) trivial (Below.refl _ _) (Nat.le_refl _) (by simp) ?_; (case hd => rfl); (case hg => rfl); (case hr => first | (go_simp; done) | (go_simp; rfl)); (case hp => exact (Reps.one (show Kd.M (Kd.int .i64) _ _ _ 0 [.int .i64 0] from rfl) (Reps.one (show Kd.M (Kd.int .i64) _ _ _ 1 [.int .i64 1] from rfl) (Reps.none _ _)))); intro v173 w27 ho28 hb hg_ hnew_; clear hg_ hnew_; (first | rw [← Ny172.out] at ho28 | (simp only [Int.reduceToNat] at ho28; rw [← Ny172.out] at ho28)); have n0_ := Aside0.mk (Kd.N_elder' (by (with_reducible repeat (first | apply Kd.N_alloc | apply Kd.N_drewN | apply Kd.N_drew)); exact HO154.out) (Kd.R_base ho28) hb); have n1_ := Aside0.mk (Kd.N_elder' (by (with_reducible repeat (first | apply Kd.N_alloc | apply Kd.N_drewN | apply Kd.N_drew)); exact HO157.out) (Kd.R_base ho28) hb); have n2_ := Aside0.mk (Kd.N_elder' (by (with_reducible repeat (first | apply Kd.N_alloc | apply Kd.N_drewN | apply Kd.N_drew)); exact HO164.out) (Kd.R_base ho28) hb); have n3_ := Aside0.mk (Kd.N_elder' (by (with_reducible repeat (first | apply Kd.N_alloc | apply Kd.N_drewN | apply Kd.N_drew)); exact HO167.out) (Kd.R_base ho28) hb); have n4_ := Aside0.mk (Kd.R_elder' (by (with_reducible repeat (first | apply Kd.R_alloc | apply Kd.R_drewN | apply Kd.R_drew)); exact HO171.out) (Kd.R_base ho28) hb); have n5_ := Aside0.mk (Kd.R_lower (Kd.R_new' ho28 (Kd.R_lt (by (with_reducible repeat (first | apply Kd.R_alloc | apply Kd.R_drewN | apply Kd.R_drew)); exact HO171.out))) (below_size (by repeat (first | (with_reducible first | exact HB.out | apply below_alloc | apply pw_below_drewN | apply below_drew1) | exact HB.out)))); have n6_ := Aside0.mk (below_step (by repeat (first | (with_reducible first | exact HB.out | apply below_alloc | apply pw_below_drewN | apply below_drew1) | exact HB.out)) hb); clear HO154; clear HO157; clear HO164; clear HO167; clear HO171; clear HB; have HO154 := n0_; have HO157 := n1_; have HO164 := n2_; have HO167 := n3_; have HO171 := n4_; have HO174 := n5_; have HB := n6_; clear n0_ n1_ n2_ n3_ n4_ n5_ n6_; clear hb ho28; obtain ⟨Ao29, co29, eo29⟩ := Kd.R_slice HO171.out; subst eo29; obtain ⟨Ao30, co30, eo30⟩ := Kd.R_slice HO174.out; subst eo30) | ((with_reducible refine gate_dst (N := 28) rfl ?_); (try (refine gate_guard (by rfl) ?_; dsimp only)); refine Kd.N_lit (Kd.slice 2 (Kd.int .i64)) _ 33 ?hg (N' := 28) ?hd (xs := ([y169, y172] : List (List Int))) (inner := [.slice Ao29 y169.length co29, .slice Ao30 y172.length co30]) (ok := (fun k_ => some k_ ≠ (.slice Ao16 y152.length co16 : Value).ownBlock ∧ some k_ ≠ (v156 : Value).ownBlock ∧ some k_ ≠ (.slice Ao23 y162.length co23 : Value).ownBlock ∧ some k_ ≠ (v166 : Value).ownBlock)) (okp := (fun k_ => some k_ ≠ (.slice Ao16 y152.length co16 : Value).ownBlock ∧ some k_ ≠ (v156 : Value).ownBlock ∧ some k_ ≠ (.slice Ao23 y162.length co23 : Value).ownBlock ∧ some k_ ≠ (v166 : Value).ownBlock)) ?hr ?hp (fun _ hk => hk) ((show ∀ k_, w27.heap.size ≤ k_ → (fun k_ => some k_ ≠ (.slice Ao16 y152.length co16 : Value).ownBlock ∧ some k_ ≠ (v156 : Value).ownBlock ∧ some k_ ≠ (.slice Ao23 y162.length co23 : Value).ownBlock ∧ some k_ ≠ (v166 : Value).ownBlock) k_ from fun k_ hk => ⟨Kd.fresh' (Kd.N_lt (by (with_reducible repeat (first | apply Kd.N_alloc | apply Kd.N_drewN | apply Kd.N_drew)); exact HO154.out)) k_ hk, Kd.fresh' (Kd.N_lt (by (with_reducible repeat (first | apply Kd.N_alloc | apply Kd.N_drewN | apply Kd.N_drew)); exact HO157.out)) k_ hk, Kd.fresh' (Kd.N_lt (by (with_reducible repeat (first | apply Kd.N_alloc | apply Kd.N_drewN | apply Kd.N_drew)); exact HO164.out)) k_ hk, Kd.fresh' (Kd.N_lt (by (with_reducible repeat (first | apply Kd.N_alloc | apply Kd.N_drewN | apply Kd.N_drew)); exact HO167.out)) k_ hk⟩) _ (Nat.le_refl _)) (Below.refl _ _) (Nat.le_refl _) (by simp) ?_; (case hd => rfl); (case hg => rfl); (case hr => first | (go_simp; done) | (go_simp; rfl)); (case hp => exact (Reps.one (show Kd.FK (Kd.slice 2 (Kd.int .i64)) _ _ y169 [.slice Ao29 y169.length co29] from (Kd.FK_slice_mk (Kd.R_reads' (Kd.R_mono (ok' := (fun k_ => some k_ ≠ (.slice Ao16 y152.length co16 : Value).ownBlock ∧ some k_ ≠ (v156 : Value).ownBlock ∧ some k_ ≠ (.slice Ao23 y162.length co23 : Value).ownBlock ∧ some k_ ≠ (v166 : Value).ownBlock)) (Kd.R_apart' (Kd.R_apart' (Kd.R_apart' (Kd.R_apart' (HO171.out) (Kd.N_typed HO154.out) (by decide)) (Kd.N_typed HO157.out) (by decide)) (Kd.N_typed HO164.out) (by decide)) (Kd.N_typed HO167.out) (by decide)) (fun k_ hk => ⟨hk.1.1.1.2, ⟨hk.1.1.2, ⟨hk.1.2, hk.2⟩⟩⟩))).2.1 (Kd.R_F (Kd.R_mono (ok' := (fun k_ => some k_ ≠ (.slice Ao16 y152.length co16 : Value).ownBlock ∧ some k_ ≠ (v156 : Value).ownBlock ∧ some k_ ≠ (.slice Ao23 y162.length co23 : Value).ownBlock ∧ some k_ ≠ (v166 : Value).ownBlock)) (Kd.R_apart' (Kd.R_apart' (Kd.R_apart' (Kd.R_apart' (HO171.out) (Kd.N_typed HO154.out) (by decide)) (Kd.N_typed HO157.out) (by decide)) (Kd.N_typed HO164.out) (by decide)) (Kd.N_typed HO167.out) (by decide)) (fun k_ hk => ⟨hk.1.1.1.2, ⟨hk.1.1.2, ⟨hk.1.2, hk.2⟩⟩⟩))))) (Reps.one (show Kd.FK (Kd.slice 2 (Kd.int .i64)) _ _ y172 [.slice Ao30 y172.length co30] from (Kd.FK_slice_mk (Kd.R_reads' (Kd.R_mono (ok' := (fun k_ => some k_ ≠ (.slice Ao16 y152.length co16 : Value).ownBlock ∧ some k_ ≠ (v156 : Value).ownBlock ∧ some k_ ≠ (.slice Ao23 y162.length co23 : Value).ownBlock ∧ some k_ ≠ (v166 : Value).ownBlock)) (Kd.R_apart' (Kd.R_apart' (Kd.R_apart' (Kd.R_apart' (HO174.out) (Kd.N_typed HO154.out) (by decide)) (Kd.N_typed HO157.out) (by decide)) (Kd.N_typed HO164.out) (by decide)) (Kd.N_typed HO167.out) (by decide)) (fun k_ hk => ⟨hk.1.1.1.2, ⟨hk.1.1.2, ⟨hk.1.2, hk.2⟩⟩⟩))).2.1 (Kd.R_F (Kd.R_mono (ok' := (fun k_ => some k_ ≠ (.slice Ao16 y152.length co16 : Value).ownBlock ∧ some k_ ≠ (v156 : Value).ownBlock ∧ some k_ ≠ (.slice Ao23 y162.length co23 : Value).ownBlock ∧ some k_ ≠ (v166 : Value).ownBlock)) (Kd.R_apart' (Kd.R_apart' (Kd.R_apart' (Kd.R_apart' (HO174.out) (Kd.N_typed HO154.out) (by decide)) (Kd.N_typed HO157.out) (by decide)) (Kd.N_typed HO164.out) (by decide)) (Kd.N_typed HO167.out) (by decide)) (fun k_ hk => ⟨hk.1.1.1.2, ⟨hk.1.1.2, ⟨hk.1.2, hk.2⟩⟩⟩))))) (Reps.none _ _)))); intro v176 w31 ho32 hb hg_ hnew_; clear hg_ hnew_; (first | rw [← Ny175.out] at ho32 | (simp only [Int.reduceToNat] at ho32; rw [← Ny175.out] at ho32)); have n0_ := Aside0.mk (Kd.N_elder' (by (with_reducible repeat (first | apply Kd.N_alloc | apply Kd.N_drewN | apply Kd.N_drew)); exact HO154.out) (Kd.N_base ho32) hb); have n1_ := Aside0.mk (Kd.N_elder' (by (with_reducible repeat (first | apply Kd.N_alloc | apply Kd.N_drewN | apply Kd.N_drew)); exact HO157.out) (Kd.N_base ho32) hb); have n2_ := Aside0.mk (Kd.N_elder' (by (with_reducible repeat (first | apply Kd.N_alloc | apply Kd.N_drewN | apply Kd.N_drew)); exact HO164.out) (Kd.N_base ho32) hb); have n3_ := Aside0.mk (Kd.N_elder' (by (with_reducible repeat (first | apply Kd.N_alloc | apply Kd.N_drewN | apply Kd.N_drew)); exact HO167.out) (Kd.N_base ho32) hb); have n4_ := Aside0.mk (Kd.N_lower ho32 (below_size (by repeat (first | (with_reducible first | exact HB.out | apply below_alloc | apply pw_below_drewN | apply below_drew1) | exact HB.out)))); have n5_ := Aside0.mk (below_step (by repeat (first | (with_reducible first | exact HB.out | apply below_alloc | apply pw_below_drewN | apply below_drew1) | exact HB.out)) hb); clear HO154; clear HO157; clear HO164; clear HO167; clear HB; clear HO171; clear HO174; have HO154 := n0_; have HO157 := n1_; have HO164 := n2_; have HO167 := n3_; have HO177 := n4_; have HB := n5_; clear n0_ n1_ n2_ n3_ n4_ n5_; clear hb ho32; obtain ⟨Ao33, co33, eo33⟩ := Kd.N_slice HO157.out; subst eo33; obtain ⟨Ao34, co34, eo34⟩ := Kd.N_slice HO177.out; subst eo34) | (go_at_call 14; (with_reducible refine (petrinetref08_Same.calls k _ _ t155 _ _ y175 true _ ?side1 ?side2 ?side3 ?side4 A5.out).mono ?_); (case side1 => repeat (first | exact (Kd.N_reads' HO157.out).2.2 | (with_reducible refine Kd.C_alloc ?_ _) | (with_reducible refine Kd.C_drewN ?_ _) | (with_reducible refine Kd.C_drew ?_))); (case side2 => exact (Kd.N_reads' HO157.out).2.1); (case side3 => repeat (first | exact (Kd.N_reads' HO177.out).2.2 | (with_reducible refine Kd.C_alloc ?_ _) | (with_reducible refine Kd.C_drewN ?_ _) | (with_reducible refine Kd.C_drew ?_))); (case side4 => exact (Kd.N_reads' HO177.out).2.1); rintro e w' ⟨rfl, ⟨nd, rfl⟩⟩) | ((with_reducible refine gate_dst (N := 33) rfl ?_); (try (refine gate_guard (by rfl) ?_; dsimp only)); refine Kd.R_lit (Kd.int .i64) _ 2 ?hg (N := 33) ?hd (xs := ([1, 1, 0] : List Int)) (inner := [.int .i64 1, .int .i64 1, .int .i64 0]) (ok := fun _ => True) (okp := fun _ => True) ?hr ?hp (fun _ hk => hk) trivial (Below.refl _ _) (Nat.le_refl _) (by simp) ?_; (case hd => rfl); (case hg => rfl); (case hr => first | (go_simp; done) | (go_simp; rfl)); (case hp => exact (Reps.one (show Kd.M (Kd.int .i64) _ _ _ 1 [.int .i64 1] from rfl) (Reps.one (show Kd.M (Kd.int .i64) _ _ _ 1 [.int .i64 1] from rfl) (Reps.one (show Kd.M (Kd.int .i64) _ _ _ 0 [.int .i64 0] from rfl) (Reps.none _ _))))); intro v180 w35 ho36 hb hg_ hnew_; clear hg_ hnew_; (first | rw [← Ny179.out] at ho36 | (simp only [Int.reduceToNat] at ho36; rw [← Ny179.out] at ho36)); have n0_ := Aside0.mk (Kd.N_elder' (by (with_reducible repeat (first | apply Kd.N_alloc | apply Kd.N_drewN | apply Kd.N_drew)); exact HO154.out) (Kd.R_base ho36) hb); have n1_ := Aside0.mk (Kd.N_elder' (by (with_reducible repeat (first | apply Kd.N_alloc | apply Kd.N_drewN | apply Kd.N_drew)); exact HO157.out) (Kd.R_base ho36) hb); have n2_ := Aside0.mk (Kd.N_elder' (by (with_reducible repeat (first | apply Kd.N_alloc | apply Kd.N_drewN | apply Kd.N_drew)); exact HO164.out) (Kd.R_base ho36) hb); have n3_ := Aside0.mk (Kd.N_elder' (by (with_reducible repeat (first | apply Kd.N_alloc | apply Kd.N_drewN | apply Kd.N_drew)); exact HO167.out) (Kd.R_base ho36) hb); have n4_ := Aside0.mk (Kd.N_elder' (by (with_reducible repeat (first | apply Kd.N_alloc | apply Kd.N_drewN | apply Kd.N_drew)); exact HO177.out) (Kd.R_base ho36) hb); have n5_ := Aside0.mk (Kd.R_lower ho36 (below_size (by repeat (first | (with_reducible first | exact HB.out | apply below_alloc | apply pw_below_drewN | apply below_drew1) | exact HB.out)))); have n6_ := Aside0.mk (below_step (by repeat (first | (with_reducible first | exact HB.out | apply below_alloc | apply pw_below_drewN | apply below_drew1) | exact HB.out)) hb); clear HO154; clear HO157; clear HO164; clear HO167; clear HO177; clear HB; have HO154 := n0_; have HO157 := n1_; have HO164 := n2_; have HO167 := n3_; have HO177 := n4_; have HO181 := n5_; have HB := n6_; clear n0_ n1_ n2_ n3_ n4_ n5_ n6_; clear hb ho36) | ((with_reducible refine gate_dst (N := 34) rfl ?_); (try (refine gate_guard (by rfl) ?_; dsimp only)); refine Kd.R_lit (Kd.int .i64) _ 2 ?hg (N := 34) ?hd (xs := ([0, 0, 1] : List Int)) (inner := [.int .i64 0, .int .i64 0, .int .i64 1]) (ok := fun _ => True) (okp := fun _ => True) ?hr ?hp (fun _ hk => hk) trivial (Below.refl _ _) (Nat.le_refl _) (by simp) ?_; (case hd => rfl); (case hg => rfl); (case hr => first | (go_simp; done) | (go_simp; rfl)); (case hp => exact (Reps.one (show Kd.M (Kd.int .i64) _ _ _ 0 [.int .i64 0] from rfl) (Reps.one (show Kd.M (Kd.int .i64) _ _ _ 0 [.int .i64 0] from rfl) (Reps.one (show Kd.M (Kd.int .i64) _ _ _ 1 [.int .i64 1] from rfl) (Reps.none _ _))))); intro v183 w37 ho38 hb hg_ hnew_; clear hg_ hnew_; (first | rw [← Ny182.out] at ho38 | (simp only [Int.reduceToNat] at ho38; rw [← Ny182.out] at ho38)); have n0_ := Aside0.mk (Kd.N_elder' (by (with_reducible repeat (first | apply Kd.N_alloc | apply Kd.N_drewN | apply Kd.N_drew)); exact HO154.out) (Kd.R_base ho38) hb); have n1_ := Aside0.mk (Kd.N_elder' (by (with_reducible repeat (first | apply Kd.N_alloc | apply Kd.N_drewN | apply Kd.N_drew)); exact HO157.out) (Kd.R_base ho38) hb); have n2_ := Aside0.mk (Kd.N_elder' (by (with_reducible repeat (first | apply Kd.N_alloc | apply Kd.N_drewN | apply Kd.N_drew)); exact HO164.out) (Kd.R_base ho38) hb); have n3_ := Aside0.mk (Kd.N_elder' (by (with_reducible repeat (first | apply Kd.N_alloc | apply Kd.N_drewN | apply Kd.N_drew)); exact HO167.out) (Kd.R_base ho38) hb); have n4_ := Aside0.mk (Kd.N_elder' (by (with_reducible repeat (first | apply Kd.N_alloc | apply Kd.N_drewN | apply Kd.N_drew)); exact HO177.out) (Kd.R_base ho38) hb); have n5_ := Aside0.mk (Kd.R_elder' (by (with_reducible repeat (first | apply Kd.R_alloc | apply Kd.R_drewN | apply Kd.R_drew)); exact HO181.out) (Kd.R_base ho38) hb); have n6_ := Aside0.mk (Kd.R_lower (Kd.R_new' ho38 (Kd.R_lt (by (with_reducible repeat (first | apply Kd.R_alloc | apply Kd.R_drewN | apply Kd.R_drew)); exact HO181.out))) (below_size (by repeat (first | (with_reducible first | exact HB.out | apply below_alloc | apply pw_below_drewN | apply below_drew1) | exact HB.out)))); have n7_ := Aside0.mk (below_step (by repeat (first | (with_reducible first | exact HB.out | apply below_alloc | apply pw_below_drewN | apply below_drew1) | exact HB.out)) hb); clear HO154; clear HO157; clear HO164; clear HO167; clear HO177; clear HO181; clear HB; have HO154 := n0_; have HO157 := n1_; have HO164 := n2_; have HO167 := n3_; have HO177 := n4_; have HO181 := n5_; have HO184 := n6_; have HB := n7_; clear n0_ n1_ n2_ n3_ n4_ n5_ n6_ n7_; clear hb ho38; obtain ⟨Ao39, co39, eo39⟩ := Kd.R_slice HO181.out; subst eo39; obtain ⟨Ao40, co40, eo40⟩ := Kd.R_slice HO184.out; subst eo40) | ((with_reducible refine gate_dst (N := 35) rfl ?_); (try (refine gate_guard (by rfl) ?_; dsimp only)); refine Kd.N_lit (Kd.slice 2 (Kd.int .i64)) _ 33 ?hg (N' := 35) ?hd (xs := ([y179, y182] : List (List Int))) (inner := [.slice Ao39 y179.length co39, .slice Ao40 y182.length co40]) (ok := (fun k_ => some k_ ≠ (.slice Ao16 y152.length co16 : Value).ownBlock ∧ some k_ ≠ (.slice Ao33 t155.length co33 : Value).ownBlock ∧ some k_ ≠ (.slice Ao23 y162.length co23 : Value).ownBlock ∧ some k_ ≠ (v166 : Value).ownBlock ∧ some k_ ≠ (.slice Ao34 y175.length co34 : Value).ownBlock)) (okp := (fun k_ => some k_ ≠ (.slice Ao16 y152.length co16 : Value).ownBlock ∧ some k_ ≠ (.slice Ao33 t155.length co33 : Value).ownBlock ∧ some k_ ≠ (.slice Ao23 y162.length co23 : Value).ownBlock ∧ some k_ ≠ (v166 : Value).ownBlock ∧ some k_ ≠ (.slice Ao34 y175.length co34 : Value).ownBlock)) ?hr ?hp (fun _ hk => hk) ((show ∀ k_, w37.heap.size ≤ k_ → (fun k_ => some k_ ≠ (.slice Ao16 y152.length co16 : Value).ownBlock ∧ some k_ ≠ (.slice Ao33 t155.length co33 : Value).ownBlock ∧ some k_ ≠ (.slice Ao23 y162.length co23 : Value).ownBlock ∧ some k_ ≠ (v166 : Value).ownBlock ∧ some k_ ≠ (.slice Ao34 y175.length co34 : Value).ownBlock) k_ from fun k_ hk => ⟨Kd.fresh' (Kd.N_lt (by (with_reducible repeat (first | apply Kd.N_alloc | apply Kd.N_drewN | apply Kd.N_drew)); exact HO154.out)) k_ hk, Kd.fresh' (Kd.N_lt (by (with_reducible repeat (first | apply Kd.N_alloc | apply Kd.N_drewN | apply Kd.N_drew)); exact HO157.out)) k_ hk, Kd.fresh' (Kd.N_lt (by (with_reducible repeat (first | apply Kd.N_alloc | apply Kd.N_drewN | apply Kd.N_drew)); exact HO164.out)) k_ hk, Kd.fresh' (Kd.N_lt (by (with_reducible repeat (first | apply Kd.N_alloc | apply Kd.N_drewN | apply Kd.N_drew)); exact HO167.out)) k_ hk, Kd.fresh' (Kd.N_lt (by (with_reducible repeat (first | apply Kd.N_alloc | apply Kd.N_drewN | apply Kd.N_drew)); exact HO177.out)) k_ hk⟩) _ (Nat.le_refl _)) (Below.refl _ _) (Nat.le_refl _) (by simp) ?_; (case hd => rfl); (case hg => rfl); (case hr => first | (go_simp; done) | (go_simp; rfl)); (case hp => exact (Reps.one (show Kd.FK (Kd.slice 2 (Kd.int .i64)) _ _ y179 [.slice Ao39 y179.length co39] from (Kd.FK_slice_mk (Kd.R_reads' (Kd.R_mono (ok' := (fun k_ => some k_ ≠ (.slice Ao16 y152.length co16 : Value).ownBlock ∧ some k_ ≠ (.slice Ao33 t155.length co33 : Value).ownBlock ∧ some k_ ≠ (.slice Ao23 y162.length co23 : Value).ownBlock ∧ some k_ ≠ (v166 : Value).ownBlock ∧ some k_ ≠ (.slice Ao34 y175.length co34 : Value).ownBlock)) (Kd.R_apart' (Kd.R_apart' (Kd.R_apart' (Kd.R_apart' (Kd.R_apart' (HO181.out) (Kd.N_typed HO154.out) (by decide)) (Kd.N_typed HO157.out) (by decide)) (Kd.N_typed HO164.out) (by decide)) (Kd.N_typed HO167.out) (by decide)) (Kd.N_typed HO177.out) (by decide)) (fun k_ hk => ⟨hk.1.1.1.1.2, ⟨hk.1.1.1.2, ⟨hk.1.1.2, ⟨hk.1.2, hk.2⟩⟩⟩⟩))).2.1 (Kd.R_F (Kd.R_mono (ok' := (fun k_ => some k_ ≠ (.slice Ao16 y152.length co16 : Value).ownBlock ∧ some k_ ≠ (.slice Ao33 t155.length co33 : Value).ownBlock ∧ some k_ ≠ (.slice Ao23 y162.length co23 : Value).ownBlock ∧ some k_ ≠ (v166 : Value).ownBlock ∧ some k_ ≠ (.slice Ao34 y175.length co34 : Value).ownBlock)) (Kd.R_apart' (Kd.R_apart' (Kd.R_apart' (Kd.R_apart' (Kd.R_apart' (HO181.out) (Kd.N_typed HO154.out) (by decide)) (Kd.N_typed HO157.out) (by decide)) (Kd.N_typed HO164.out) (by decide)) (Kd.N_typed HO167.out) (by decide)) (Kd.N_typed HO177.out) (by decide)) (fun k_ hk => ⟨hk.1.1.1.1.2, ⟨hk.1.1.1.2, ⟨hk.1.1.2, ⟨hk.1.2, hk.2⟩⟩⟩⟩))))) (Reps.one (show Kd.FK (Kd.slice 2 (Kd.int .i64)) _ _ y182 [.slice Ao40 y182.length co40] from (Kd.FK_slice_mk (Kd.R_reads' (Kd.R_mono (ok' := (fun k_ => some k_ ≠ (.slice Ao16 y152.length co16 : Value).ownBlock ∧ some k_ ≠ (.slice Ao33 t155.length co33 : Value).ownBlock ∧ some k_ ≠ (.slice Ao23 y162.length co23 : Value).ownBlock ∧ some k_ ≠ (v166 : Value).ownBlock ∧ some k_ ≠ (.slice Ao34 y175.length co34 : Value).ownBlock)) (Kd.R_apart' (Kd.R_apart' (Kd.R_apart' (Kd.R_apart' (Kd.R_apart' (HO184.out) (Kd.N_typed HO154.out) (by decide)) (Kd.N_typed HO157.out) (by decide)) (Kd.N_typed HO164.out) (by decide)) (Kd.N_typed HO167.out) (by decide)) (Kd.N_typed HO177.out) (by decide)) (fun k_ hk => ⟨hk.1.1.1.1.2, ⟨hk.1.1.1.2, ⟨hk.1.1.2, ⟨hk.1.2, hk.2⟩⟩⟩⟩))).2.1 (Kd.R_F (Kd.R_mono (ok' := (fun k_ => some k_ ≠ (.slice Ao16 y152.length co16 : Value).ownBlock ∧ some k_ ≠ (.slice Ao33 t155.length co33 : Value).ownBlock ∧ some k_ ≠ (.slice Ao23 y162.length co23 : Value).ownBlock ∧ some k_ ≠ (v166 : Value).ownBlock ∧ some k_ ≠ (.slice Ao34 y175.length co34 : Value).ownBlock)) (Kd.R_apart' (Kd.R_apart' (Kd.R_apart' (Kd.R_apart' (Kd.R_apart' (HO184.out) (Kd.N_typed HO154.out) (by decide)) (Kd.N_typed HO157.out) (by decide)) (Kd.N_typed HO164.out) (by decide)) (Kd.N_typed HO167.out) (by decide)) (Kd.N_typed HO177.out) (by decide)) (fun k_ hk => ⟨hk.1.1.1.1.2, ⟨hk.1.1.1.2, ⟨hk.1.1.2, ⟨hk.1.2, hk.2⟩⟩⟩⟩))))) (Reps.none _ _)))); intro v186 w41 ho42 hb hg_ hnew_; clear hg_ hnew_; (first | rw [← Ny185.out] at ho42 | (simp only [Int.reduceToNat] at ho42; rw [← Ny185.out] at ho42)); have n0_ := Aside0.mk (Kd.N_elder' (by (with_reducible repeat (first | apply Kd.N_alloc | apply Kd.N_drewN | apply Kd.N_drew)); exact HO154.out) (Kd.N_base ho42) hb); have n1_ := Aside0.mk (Kd.N_elder' (by (with_reducible repeat (first | apply Kd.N_alloc | apply Kd.N_drewN | apply Kd.N_drew)); exact HO157.out) (Kd.N_base ho42) hb); have n2_ := Aside0.mk (Kd.N_elder' (by (with_reducible repeat (first | apply Kd.N_alloc | apply Kd.N_drewN | apply Kd.N_drew)); exact HO164.out) (Kd.N_base ho42) hb); have n3_ := Aside0.mk (Kd.N_elder' (by (with_reducible repeat (first | apply Kd.N_alloc | apply Kd.N_drewN | apply Kd.N_drew)); exact HO167.out) (Kd.N_base ho42) hb); have n4_ := Aside0.mk (Kd.N_elder' (by (with_reducible repeat (first | apply Kd.N_alloc | apply Kd.N_drewN | apply Kd.N_drew)); exact HO177.out) (Kd.N_base ho42) hb); have n5_ := Aside0.mk (Kd.N_lower ho42 (below_size (by repeat (first | (with_reducible first | exact HB.out | apply below_alloc | apply pw_below_drewN | apply below_drew1) | exact HB.out)))); have n6_ := Aside0.mk (below_step (by repeat (first | (with_reducible first | exact HB.out | apply below_alloc | apply pw_below_drewN | apply below_drew1) | exact HB.out)) hb); clear HO154; clear HO157; clear HO164; clear HO167; clear HO177; clear HB; clear HO181; clear HO184; have HO154 := n0_; have HO157 := n1_; have HO164 := n2_; have HO167 := n3_; have HO177 := n4_; have HO187 := n5_; have HB := n6_; clear n0_ n1_ n2_ n3_ n4_ n5_ n6_; clear hb ho42; obtain ⟨Ao43, co43, eo43⟩ := Kd.N_slice HO167.out; subst eo43; obtain ⟨Ao44, co44, eo44⟩ := Kd.N_slice HO187.out; subst eo44) | (go_at_call 14; (with_reducible refine (petrinetref08_Same.calls k _ _ t165 _ _ y185 t188 _ ?side1 ?side2 ?side3 ?side4 A7.out).mono ?_); (case side1 => repeat (first | exact (Kd.N_reads' HO167.out).2.2 | (with_reducible refine Kd.C_alloc ?_ _) | (with_reducible refine Kd.C_drewN ?_ _) | (with_reducible refine Kd.C_drew ?_))); (case side2 => exact (Kd.N_reads' HO167.out).2.1); (case side3 => repeat (first | exact (Kd.N_reads' HO187.out).2.2 | (with_reducible refine Kd.C_alloc ?_ _) | (with_reducible refine Kd.C_drewN ?_ _) | (with_reducible refine Kd.C_drew ?_))); (case side4 => exact (Kd.N_reads' HO187.out).2.1); rintro e w' ⟨rfl, ⟨nd, rfl⟩⟩))
    go_ret
    exact ⟨by first | rfl | (simp [errW_none, errW_some] <;> rfl) | (simp [*, errW_none, errW_some] <;> rfl), by repeat (first | (with_reducible first | exact HB.out | apply below_alloc | apply pw_below_drewN | apply below_drew1) | exact HB.out)⟩
   ·
    replace c6 := Bool.eq_false_iff.mpr c6
    subst c6
    have H1 : (none) = some r := by rw [if_neg (show ¬ (false = true) by decide)] at H; exact H
    clear H
    have H := H1
    clear H1
    exact absurd H (by simp)
  ·
   rw [if_neg c4] at H
   exact absurd H (by simp)
 ·
  rw [if_neg c3] at H
  exact absurd H (by simp)

end Go.Proofs.Ytckefohfahphpaa.Z
end
section
namespace Go.Proofs.Ytckefohfahphpaa.Z
open Go.RowKit Go.Proofs.YtckefohfahphpaaW.PrintWords Go.Proofs.YtckefohfahphpaaW.PrintLast Go.Proofs.YtckefohfahphpaaW.PrintMore
set_option linter.unusedVariables false
set_option linter.unusedSimpArgs false
theorem LeO.up {α : Type} {f : Nat → Option α} (h : ∀ k, LeO (f k) (f (k + 1))) {r : α} {m : Nat} (hm : f m = some r) : ∀ n, m ≤ n → f n = some r := by
 intro n hn
 obtain ⟨d, rfl⟩ := Nat.exists_eq_add_of_le hn
 clear hn
 induction d with
 | zero => exact hm
 | succ d ih => exact h _ _ ih
theorem example_at : petrinetlaw08_exampleHolds.f 60 = some true := by kernel_rfl
theorem example_eq (n : Nat) (hn : 60 ≤ n) : petrinetlaw08_exampleHolds.f n = some true := LeO.up petrinetlaw08_exampleHolds.mono example_at n hn
def validB (a : List (List Int)) : Bool := decide (1 ≤ a.length) && decide (a.length ≤ 64) && decide (1 ≤ (rd_L1 a 0).length) && decide ((rd_L1 a 0).length ≤ 64) && a.all fun r => decide (r.length = (rd_L1 a 0).length)
theorem wrap64_small {n : Int} (h0 : 0 ≤ n) (h1 : n ≤ 1000000) : wrap64 n = n := wrap64_id ⟨by omega, by omega⟩
theorem drop_rdL {l : List (List Int)} {i : Int} (h0 : 0 ≤ i) (h1 : i < (l.length : Int)) : l.drop i.toNat = rd_L1 l i :: l.drop (i + 1).toNat := by
 have h : i.toNat < l.length := by omega
 rw [List.drop_eq_getElem_cons h, show (i + 1).toNat = i.toNat + 1 by omega]
 simp [rd_L1, List.getD_eq_getElem?_getD, h]
theorem vectors_l0 {a b : List Int} (he : a.length = b.length) (hl : a.length ≤ 1000000) : ∀ (d n : Nat) (j : Int), 0 ≤ j → (a.length : Int) - j = d → d + 2 ≤ n → a = b → petrinetref08_Vectors.l0 n a b j = some true := by
 intro d
 induction d with
 | zero =>
  intro n j h0 hd hn e
  obtain ⟨n, rfl⟩ : ∃ m, n = m + 1 := ⟨n - 1, by omega⟩
  rw [petrinetref08_Vectors.l0, if_neg (by omega)]
 | succ d ih =>
  intro n j h0 hd hn e
  obtain ⟨n, rfl⟩ : ∃ m, n = m + 1 := ⟨n - 1, by omega⟩
  rw [petrinetref08_Vectors.l0, if_pos (by omega), if_pos h0, if_pos (by omega), if_pos (by rw [e]), wrap64_small (by omega) (by omega)]
  exact ih n (j + 1) (by omega) (by omega) (by omega) e
theorem vectors_self {a : List Int} (hl : a.length ≤ 1000000) (n : Nat) (hn : a.length + 2 ≤ n) : petrinetref08_Vectors.f n a a = some true := by
 unfold petrinetref08_Vectors.f
 rw [if_pos rfl]
 exact vectors_l0 rfl hl a.length n 0 (by omega) (by omega) (by omega) rfl
theorem same_l0 {a : List (List Int)} (hl : a.length ≤ 1000000) (hr : ∀ r ∈ a, r.length ≤ 1000000) : ∀ (d n : Nat) (j : Int), 0 ≤ j → (a.length : Int) - j = d → d + 1000010 ≤ n → petrinetref08_Same.l0 n a a j = some true := by
 intro d
 induction d with
 | zero =>
  intro n j h0 hd hn
  obtain ⟨n, rfl⟩ : ∃ m, n = m + 1 := ⟨n - 1, by omega⟩
  rw [petrinetref08_Same.l0, if_neg (by omega)]
 | succ d ih =>
  intro n j h0 hd hn
  obtain ⟨n, rfl⟩ : ∃ m, n = m + 1 := ⟨n - 1, by omega⟩
  have hm : rd_L1 a j ∈ a := by
   have h : j.toNat < a.length := by omega
   have : rd_L1 a j = a[j.toNat] := by simp [rd_L1, List.getD_eq_getElem?_getD, h]
   rw [this]
   exact List.getElem_mem h
  have := hr _ hm
  rw [petrinetref08_Same.l0, if_pos (by omega), if_pos h0, if_pos (by omega), vectors_self this n (by omega)]
  simp only [Option.bind_some, if_true]
  rw [wrap64_small (by omega) (by omega)]
  exact ih n (j + 1) (by omega) (by omega) (by omega)
theorem same_self {a : List (List Int)} (hl : a.length ≤ 1000000) (hr : ∀ r ∈ a, r.length ≤ 1000000) (n : Nat) (hn : a.length + 1000010 ≤ n) : petrinetref08_Same.f n a a = some true := by
 unfold petrinetref08_Same.f
 rw [if_pos rfl]
 exact same_l0 hl hr a.length n 0 (by omega) (by omega) (by omega)
theorem rvalid_l0 {a : List (List Int)} (ha : 1 ≤ a.length) (hl : a.length ≤ 64) : ∀ (d n : Nat) (j : Int), 0 ≤ j → (a.length : Int) - j = d → d + 2 ≤ n →
  petrinetref08_Valid.l0 n a j = some ((a.drop j.toNat).all fun r => decide (1 ≤ r.length) && decide (r.length ≤ 64) && decide (r.length = (rd_L1 a 0).length)) := by
 intro d
 induction d with
 | zero =>
  intro n j h0 hd hn
  obtain ⟨n, rfl⟩ : ∃ m, n = m + 1 := ⟨n - 1, by omega⟩
  rw [petrinetref08_Valid.l0, if_neg (by omega), List.drop_of_length_le (by omega)]
  rfl
 | succ d ih =>
  intro n j h0 hd hn
  obtain ⟨n, rfl⟩ : ∃ m, n = m + 1 := ⟨n - 1, by omega⟩
  rw [petrinetref08_Valid.l0, if_pos (by omega), if_pos h0, drop_rdL h0 (by omega)]
  simp only [List.all_cons]
  by_cases c1 : ((rd_L1 a j).length : Int) < 1
  ·
   rw [if_pos c1, decide_eq_false (show ¬ 1 ≤ (rd_L1 a j).length by omega)]
   rfl
  rw [if_neg c1]
  by_cases c2 : ((rd_L1 a j).length : Int) > 64
  ·
   rw [if_pos c2, decide_eq_false (show ¬ (rd_L1 a j).length ≤ 64 by omega)]
   simp
  rw [if_neg c2, if_pos (by omega)]
  by_cases c3 : ((rd_L1 a j).length : Int) = ((rd_L1 a 0).length : Int)
  ·
   rw [if_pos c3, wrap64_small (by omega) (by omega), ih n (j + 1) (by omega) (by omega) (by omega), decide_eq_true (show 1 ≤ (rd_L1 a j).length by omega), decide_eq_true (show (rd_L1 a j).length ≤ 64 by omega), decide_eq_true (show (rd_L1 a j).length = (rd_L1 a 0).length by omega)]
   simp
  ·
   rw [if_neg c3, decide_eq_false (show ¬ (rd_L1 a j).length = (rd_L1 a 0).length by omega)]
   simp
theorem mvalid_l0 {a : List (List Int)} {x : Int} (hx : x = ((rd_L1 a 0).length : Int)) (hl : a.length ≤ 64) : ∀ (d n : Nat) (j : Int), 0 ≤ j → (a.length : Int) - j = d → d + 2 ≤ n →
  matrix_Valid.l0 n x a (a.length : Int) j = some (((a.drop j.toNat).all fun r => decide (r.length = (rd_L1 a 0).length)) && decide (1 ≤ (rd_L1 a 0).length) && decide ((rd_L1 a 0).length ≤ 64)) := by
 intro d
 induction d with
 | zero =>
  intro n j h0 hd hn
  obtain ⟨n, rfl⟩ : ∃ m, n = m + 1 := ⟨n - 1, by omega⟩
  rw [matrix_Valid.l0, if_neg (by omega), List.drop_of_length_le (by omega), hx]
  by_cases c : ((rd_L1 a 0).length : Int) ≥ 1
  ·
   rw [if_pos c, decide_eq_true (show 1 ≤ (rd_L1 a 0).length by omega)]
   simp
   omega
  ·
   rw [if_neg c, decide_eq_false (show ¬ 1 ≤ (rd_L1 a 0).length by omega)]
   simp
 | succ d ih =>
  intro n j h0 hd hn
  obtain ⟨n, rfl⟩ : ∃ m, n = m + 1 := ⟨n - 1, by omega⟩
  rw [matrix_Valid.l0, if_pos (by omega), if_pos h0, if_pos (by omega), drop_rdL h0 (by omega)]
  simp only [List.all_cons]
  by_cases c3 : ((rd_L1 a j).length : Int) = x
  ·
   rw [if_pos c3, wrap64_small (by omega) (by omega), ih n (j + 1) (by omega) (by omega) (by omega), decide_eq_true (show (rd_L1 a j).length = (rd_L1 a 0).length by omega)]
   simp
  ·
   rw [if_neg c3, decide_eq_false (show ¬ (rd_L1 a j).length = (rd_L1 a 0).length by omega)]
   simp
theorem head_mem {a : List (List Int)} (h : 1 ≤ a.length) : rd_L1 a 0 ∈ a := by
 have : rd_L1 a 0 = a[0]'(by omega) := by simp [rd_L1, List.getD_eq_getElem?_getD, show 0 < a.length by omega]
 rw [this]
 exact List.getElem_mem _
theorem mvalid_eq (a : List (List Int)) (n : Nat) (hn : 70 ≤ n) : matrix_Valid.f n a = some (validB a) := by
 obtain ⟨n, rfl⟩ : ∃ m, n = m + 1 := ⟨n - 1, by omega⟩
 unfold matrix_Valid.f validB
 by_cases c1 : (a.length : Int) < 1
 ·
  rw [if_pos c1, matrix_Valid.j0, if_pos rfl, decide_eq_false (show ¬ 1 ≤ a.length by omega)]
  rfl
 rw [if_neg c1, decide_eq_true (show 1 ≤ a.length by omega)]
 by_cases c2 : (a.length : Int) > 64
 ·
  rw [matrix_Valid.j0, if_pos (by simp; omega), decide_eq_false (show ¬ a.length ≤ 64 by omega)]
  rfl
 rw [matrix_Valid.j0, if_neg (by simp; omega), if_pos (by omega), mvalid_l0 rfl (by omega) a.length n 0 (by omega) (by omega) (by omega), decide_eq_true (show a.length ≤ 64 by omega)]
 simp only [Int.toNat_zero, List.drop_zero, Bool.true_and]
 congr 1
 generalize (a.all fun r => decide (r.length = (rd_L1 a 0).length)) = u
 generalize decide (1 ≤ (rd_L1 a 0).length) = v
 generalize decide ((rd_L1 a 0).length ≤ 64) = z
 cases u <;> cases v <;> cases z <;> rfl
theorem rvalid_eq (a : List (List Int)) (n : Nat) (hn : 70 ≤ n) : petrinetref08_Valid.f n a = some (validB a) := by
 obtain ⟨n, rfl⟩ : ∃ m, n = m + 1 := ⟨n - 1, by omega⟩
 unfold petrinetref08_Valid.f validB
 by_cases c1 : (a.length : Int) < 1
 ·
  rw [if_pos c1, petrinetref08_Valid.j0, if_pos rfl, decide_eq_false (show ¬ 1 ≤ a.length by omega)]
  rfl
 rw [if_neg c1, decide_eq_true (show 1 ≤ a.length by omega)]
 by_cases c2 : (a.length : Int) > 64
 ·
  rw [petrinetref08_Valid.j0, if_pos (by simp; omega), decide_eq_false (show ¬ a.length ≤ 64 by omega)]
  rfl
 rw [petrinetref08_Valid.j0, if_neg (by simp; omega), rvalid_l0 (by omega) (by omega) a.length n 0 (by omega) (by omega) (by omega), decide_eq_true (show a.length ≤ 64 by omega)]
 simp only [Int.toNat_zero, List.drop_zero, Bool.true_and]
 congr 1
 have hm := head_mem (a := a) (by omega)
 rw [Bool.eq_iff_iff]
 simp only [List.all_eq_true, Bool.and_eq_true, decide_eq_true_eq]
 constructor
 ·
  intro h
  exact ⟨⟨(h _ hm).1.1, (h _ hm).1.2⟩, fun r hr => (h r hr).2⟩
 ·
  rintro ⟨⟨h1, h2⟩, h3⟩ r hr
  have := h3 r hr
  exact ⟨⟨by omega, by omega⟩, this⟩
theorem rdL_mem {a : List (List Int)} {j : Int} (h0 : 0 ≤ j) (h1 : j < (a.length : Int)) : rd_L1 a j ∈ a := by
 have h : j.toNat < a.length := by omega
 have : rd_L1 a j = a[j.toNat] := by simp [rd_L1, List.getD_eq_getElem?_getD, h]
 rw [this]
 exact List.getElem_mem h
theorem validB_iff {a : List (List Int)} : validB a = true ↔ ∃ n : Nat, 1 ≤ a.length ∧ a.length ≤ 64 ∧ 1 ≤ n ∧ n ≤ 64 ∧ (∀ r ∈ a, r.length = n) ∧ (rd_L1 a 0).length = n := by
 unfold validB
 simp only [Bool.and_eq_true, decide_eq_true_eq, List.all_eq_true]
 constructor
 ·
  rintro ⟨⟨⟨⟨h1, h2⟩, h3⟩, h4⟩, h5⟩
  exact ⟨_, h1, h2, h3, h4, h5, rfl⟩
 ·
  rintro ⟨n, h1, h2, h3, h4, h5, h6⟩
  exact ⟨⟨⟨⟨h1, h2⟩, by omega⟩, by omega⟩, fun r hr => by rw [h5 r hr, h6]⟩
end Go.Proofs.Ytckefohfahphpaa.Z
end
section
namespace Go.Proofs.Ytckefohfahphpaa.Z
open Go.RowKit Go.Proofs.YtckefohfahphpaaW.PrintWords Go.Proofs.YtckefohfahphpaaW.PrintLast Go.Proofs.YtckefohfahphpaaW.PrintMore
set_option linter.unusedVariables false
set_option linter.unusedSimpArgs false
abbrev Vc := Nat → Int
/-- What a list of vectors spans, over the fractions. -/
inductive Sp (A : List Vc) : Vc → Prop
 | mem {a : Vc} : a ∈ A → Sp A a
 | zero : Sp A (fun _ => 0)
 | comb {u v : Vc} (c d : Int) : Sp A u → Sp A v → Sp A (fun x => c * u x + d * v x)
 | div {u : Vc} (c : Int) : c ≠ 0 → Sp A (fun x => c * u x) → Sp A u
theorem Sp.eq {A : List Vc} {u v : Vc} (h : ∀ x, u x = v x) (hu : Sp A u) : Sp A v := by
 have : u = v := funext h
 exact this ▸ hu
theorem Sp.scale {A : List Vc} {u : Vc} (c : Int) (hu : Sp A u) : Sp A (fun x => c * u x) :=
 (Sp.comb c 0 hu Sp.zero).eq fun x => by simp
theorem Sp.sub {A B : List Vc} (h : ∀ a ∈ A, Sp B a) {v : Vc} (hv : Sp A v) : Sp B v := by
 induction hv with
 | mem ha => exact h _ ha
 | zero => exact .zero
 | comb c d _ _ i j => exact .comb c d i j
 | div c hc _ i => exact .div c hc i
/-- What vanishes on the list vanishes on all that it spans. -/
theorem Sp.at {A : List Vc} {x : Nat} (h : ∀ a ∈ A, a x = 0) {v : Vc} (hv : Sp A v) : v x = 0 := by
 induction hv with
 | mem ha => exact h _ ha
 | zero => rfl
 | comb c d _ _ i j => simp only [i, j]; simp
 | div c hc _ i => exact (Int.mul_eq_zero.mp i).resolve_left hc
/-- The rest of a vector behind elimination by rows with pivots. -/
def res : List (Nat × Vc) → Vc → Vc
 | [], v => v
 | e :: E, v => res E (fun x => e.2 e.1 * v x - v e.1 * e.2 x)
theorem res_comb (E : List (Nat × Vc)) : ∀ (u v : Vc) (c d : Int) (x : Nat), res E (fun x => c * u x + d * v x) x = c * res E u x + d * res E v x := by
 induction E with
 | nil => intros; rfl
 | cons e E ih =>
  intro u v c d x
  simp only [res]
  rw [← ih]
  congr 1
  funext y
  grind
theorem res_zero (E : List (Nat × Vc)) (x : Nat) : res E (fun _ => 0) x = 0 := by
 have := res_comb E (fun _ => 0) (fun _ => 0) 0 0 x
 simpa using this
theorem res_scale (E : List (Nat × Vc)) (v : Vc) (c : Int) (x : Nat) : res E (fun x => c * v x) x = c * res E v x := by
 have := res_comb E v v c 0 x
 simpa using this
theorem res_off (E : List (Nat × Vc)) : ∀ (v : Vc), (∀ e ∈ E, e.2 e.1 ≠ 0) → (∀ e ∈ E, v e.1 = 0) → ∃ d : Int, d ≠ 0 ∧ ∀ x, res E v x = d * v x := by
 induction E with
 | nil => intro v _ _; exact ⟨1, by decide, fun x => by simp [res]⟩
 | cons e E ih =>
  intro v hn hv
  obtain ⟨d, hd, h⟩ := ih (fun x => e.2 e.1 * v x - v e.1 * e.2 x) (fun f hf => hn f (List.mem_cons_of_mem _ hf)) (fun f hf => by
   rw [hv f (List.mem_cons_of_mem _ hf), hv e List.mem_cons_self]; simp)
  refine ⟨d * e.2 e.1, Int.mul_ne_zero hd (hn e List.mem_cons_self), fun x => ?_⟩
  simp only [res]
  rw [h, hv e List.mem_cons_self]
  grind
/-- Rows with pivots: each is zero in the others' columns. -/
structure Piv (E : List (Nat × Vc)) : Prop where
 nz : ∀ e ∈ E, e.2 e.1 ≠ 0
 zr : E.Pairwise fun e f => e.2 f.1 = 0 ∧ f.2 e.1 = 0
theorem res_mem {E : List (Nat × Vc)} (h : E.Pairwise fun e f => e.2 f.1 = 0 ∧ f.2 e.1 = 0) {e : Nat × Vc} (he : e ∈ E) (x : Nat) : res E e.2 x = 0 := by
 induction E with
 | nil => cases he
 | cons f E ih =>
  rcases List.mem_cons.mp he with rfl | he'
  ·
   simp only [res]
   have : (fun x => e.2 e.1 * e.2 x - e.2 e.1 * e.2 x) = fun _ => (0 : Int) := by funext y; simp
   rw [this, res_zero]
  ·
   have h1 := (List.pairwise_cons.mp h).1 e he'
   simp only [res]
   have : (fun x => f.2 f.1 * e.2 x - e.2 f.1 * f.2 x) = fun x => f.2 f.1 * e.2 x := by funext y; rw [h1.2]; simp
   rw [this, res_scale, ih (List.pairwise_cons.mp h).2 he']
   simp
def rowsOf (E : List (Nat × Vc)) : List Vc := E.map (·.2)
theorem res_span {E : List (Nat × Vc)} (h : E.Pairwise fun e f => e.2 f.1 = 0 ∧ f.2 e.1 = 0) {v : Vc} (hv : Sp (rowsOf E) v) : ∀ x, res E v x = 0 := by
 induction hv with
 | mem ha =>
  obtain ⟨e, he, rfl⟩ := List.mem_map.mp ha
  exact res_mem h he
 | zero => exact res_zero E
 | comb c d _ _ i j => intro x; rw [res_comb, i, j]; simp
 | div c hc _ i => intro x; have := i x; rw [res_scale] at this; exact (Int.mul_eq_zero.mp this).resolve_left hc
/-- What is spanned and vanishes in all pivots' columns is zero. -/
theorem Piv.only {E : List (Nat × Vc)} (h : Piv E) {v : Vc} (hv : Sp (rowsOf E) v) (h0 : ∀ e ∈ E, v e.1 = 0) (x : Nat) : v x = 0 := by
 obtain ⟨d, hd, hr⟩ := res_off E v h.nz h0
 have := res_span h.zr hv x
 rw [hr] at this
 exact (Int.mul_eq_zero.mp this).resolve_left hd
theorem res_lead (E : List (Nat × Vc)) (c : Nat) : ∀ v : Vc, (∀ e ∈ E, e.2 e.1 ≠ 0) → (∀ e ∈ E, ∀ x, x < e.1 → e.2 x = 0) → (∀ e ∈ E, e.1 ≠ c) → (∀ x, x < c → v x = 0) → v c ≠ 0 → res E v c ≠ 0 := by
 induction E with
 | nil => intro v _ _ _ _ h; exact h
 | cons e E ih =>
  intro v hn hl hc h0 h1
  simp only [res]
  have hen := hn e List.mem_cons_self
  have hel := hl e List.mem_cons_self
  have hec := hc e List.mem_cons_self
  refine ih _ (fun f hf => hn f (List.mem_cons_of_mem _ hf)) (fun f hf => hl f (List.mem_cons_of_mem _ hf)) (fun f hf => hc f (List.mem_cons_of_mem _ hf)) ?_ ?_
  ·
   intro x hx
   rw [h0 x hx]
   rcases Nat.lt_or_gt_of_ne hec with h | h
   ·
    rw [h0 e.1 h]; simp
   ·
    rw [hel x (by omega)]; simp
  ·
   rcases Nat.lt_or_gt_of_ne hec with h | h
   ·
    rw [h0 e.1 h]; simp; exact ⟨hen, h1⟩
   ·
    rw [hel c h]; simp; exact ⟨hen, h1⟩
/-- The first column of a spanned vector is a pivot's. -/
theorem Piv.lead {E : List (Nat × Vc)} (h : Piv E) (hl : ∀ e ∈ E, ∀ x, x < e.1 → e.2 x = 0) {v : Vc} (hv : Sp (rowsOf E) v) {c : Nat} (h0 : ∀ x, x < c → v x = 0) (h1 : v c ≠ 0) : ∃ e ∈ E, e.1 = c := by
 apply Classical.byContradiction
 intro hno
 have := res_lead E c v h.nz hl (fun e he hc => hno ⟨e, he, hc⟩) h0 h1
 exact this (res_span h.zr hv c)
/-- Vectors whose elements have no common divisor. -/
def Prm (v : Vc) : Prop := ∀ d : Int, (∀ x, d ∣ v x) → d ∣ 1
theorem Prm.dvd {u : Vc} (h : Prm u) {p q : Int} (hq : q ≠ 0) (hd : ∀ x, q ∣ p * u x) : q ∣ p := by
 have hg : (Int.gcd q p : Int) ≠ 0 := by
  intro hz
  have := Int.gcd_eq_zero_iff.mp (Int.ofNat_eq_zero.mp hz)
  exact hq this.1
 obtain ⟨q1, hq1⟩ := Int.gcd_dvd_left q p
 obtain ⟨p1, hp1⟩ := Int.gcd_dvd_right q p
 have hc : Int.gcd q1 p1 = 1 := by
  have e := Int.gcd_mul_left (Int.gcd q p : Int) q1 p1
  rw [← hq1, ← hp1] at e
  simp at e
  have h1 : 0 < Int.gcd q p := by omega
  exact Nat.eq_of_mul_eq_mul_left h1 (by omega)
 have h1 : q1 ∣ 1 := by
  apply h
  intro x
  have := hd x
  obtain ⟨z, hz⟩ := this
  have hz1 : q1 ∣ p1 * u x := by
   refine ⟨z, ?_⟩
   have : (Int.gcd q p : Int) * (p1 * u x) = (Int.gcd q p : Int) * (q1 * z) := by
    rw [← Int.mul_assoc, ← hp1, hz, ← Int.mul_assoc, ← hq1]
   exact Int.eq_of_mul_eq_mul_left hg this
  exact Int.natAbs_dvd_natAbs.mp ((show Nat.Coprime q1.natAbs p1.natAbs from hc).dvd_of_dvd_mul_left (by rw [← Int.natAbs_mul]; exact Int.natAbs_dvd_natAbs.mpr hz1))
 obtain ⟨z, hz⟩ := h1
 refine ⟨p1 * z, ?_⟩
 rw [hq1]
 have : (Int.gcd q p : Int) * q1 * (p1 * z) = ((Int.gcd q p : Int) * p1) * (q1 * z) := by grind
 rw [this, ← hz, ← hp1]
 simp
theorem Prm.quot {u v : Vc} (h : Prm u) {a d : Int} (ha : a ≠ 0) (e : ∀ x, a * v x = d * u x) : ∃ t : Int, (∀ x, v x = t * u x) ∧ d = a * t := by
 obtain ⟨t, ht⟩ := h.dvd (p := d) ha fun x => ⟨v x, (e x).symm⟩
 refine ⟨t, fun x => Int.eq_of_mul_eq_mul_left ha ?_, ht⟩
 rw [e x, ht, Int.mul_assoc]
theorem Prm.bound {u v : Vc} (h : Prm u) {a d : Int} (ha : a ≠ 0) (hd : d ≠ 0) (e : ∀ x, a * v x = d * u x) (x : Nat) : (u x).natAbs ≤ (v x).natAbs := by
 obtain ⟨t, ht, hdt⟩ := h.quot ha e
 have : t ≠ 0 := by intro h0; rw [h0] at hdt; simp at hdt; exact hd hdt
 rw [ht x, Int.natAbs_mul]
 exact Nat.le_mul_of_pos_left _ (by omega)
theorem Prm.same {u v : Vc} (hu : Prm u) (hv : Prm v) {p q : Int} (hp : 0 < p) (hq : 0 < q) (e : ∀ x, p * u x = q * v x) : ∀ x, u x = v x := by
 have h1 : q ∣ p := hu.dvd (by omega) fun x => ⟨v x, e x⟩
 have h2 : p ∣ q := hv.dvd (by omega) fun x => ⟨u x, (e x).symm⟩
 have : p = q := Int.dvd_antisymm (by omega) (by omega) h2 h1
 intro x
 have := e x
 subst p
 exact Int.eq_of_mul_eq_mul_left (by omega) this
/-- Two reduced forms that span the same are the same. -/
structure Red (E : List (Nat × Vc)) : Prop where
 piv : Piv E
 ld : ∀ e ∈ E, ∀ x, x < e.1 → e.2 x = 0
 inc : E.Pairwise fun e f => e.1 < f.1
theorem sorted_same : ∀ (l m : List Nat), l.Pairwise (· < ·) → m.Pairwise (· < ·) → (∀ x, x ∈ l ↔ x ∈ m) → l = m := by
 intro l
 induction l with
 | nil =>
  intro m _ _ h
  cases m with
  | nil => rfl
  | cons y m => exact absurd ((h y).mpr List.mem_cons_self) (by simp)
 | cons x l ih =>
  intro m hl hm h
  cases m with
  | nil => exact absurd ((h x).mp List.mem_cons_self) (by simp)
  | cons y m =>
   have hl1 := List.pairwise_cons.mp hl
   have hm1 := List.pairwise_cons.mp hm
   have hxy : x = y := by
    rcases List.mem_cons.mp ((h x).mp List.mem_cons_self) with e | e
    ·
     exact e
    ·
     rcases List.mem_cons.mp ((h y).mpr List.mem_cons_self) with e' | e'
     ·
      exact e'.symm
     ·
      have := hl1.1 y e'; have := hm1.1 x e; omega
   subst hxy
   rw [ih m hl1.2 hm1.2 fun z => ?_]
   constructor
   ·
    intro hz
    rcases List.mem_cons.mp ((h z).mp (List.mem_cons_of_mem _ hz)) with e | e
    ·
     have := hl1.1 z hz; omega
    ·
     exact e
   ·
    intro hz
    rcases List.mem_cons.mp ((h z).mpr (List.mem_cons_of_mem _ hz)) with e | e
    ·
     have := hm1.1 z hz; omega
    ·
     exact e
theorem Red.cols_sub {E F : List (Nat × Vc)} (hE : Red E) (hF : Red F) (h : ∀ v ∈ rowsOf E, Sp (rowsOf F) v) : ∀ x ∈ E.map (·.1), x ∈ F.map (·.1) := by
 intro x hx
 obtain ⟨e, he, rfl⟩ := List.mem_map.mp hx
 obtain ⟨f, hf, h1⟩ := hF.piv.lead hF.ld (h e.2 (List.mem_map_of_mem he)) (hE.ld e he) (hE.piv.nz e he)
 rw [← h1]
 exact List.mem_map_of_mem hf
theorem Red.cols {E F : List (Nat × Vc)} (hE : Red E) (hF : Red F) (h : ∀ v ∈ rowsOf E, Sp (rowsOf F) v) (h' : ∀ v ∈ rowsOf F, Sp (rowsOf E) v) : E.map (·.1) = F.map (·.1) :=
 sorted_same _ _ (List.pairwise_map.mpr hE.inc) (List.pairwise_map.mpr hF.inc) fun x => ⟨hE.cols_sub hF h x, hF.cols_sub hE h' x⟩
theorem pw_apart {E : List (Nat × Vc)} (h : E.Pairwise fun e f => e.2 f.1 = 0 ∧ f.2 e.1 = 0) {e f : Nat × Vc} (he : e ∈ E) (hf : f ∈ E) (hne : e.1 ≠ f.1) : e.2 f.1 = 0 := by
 induction E with
 | nil => cases he
 | cons g E ih =>
  have h1 := List.pairwise_cons.mp h
  rcases List.mem_cons.mp he with rfl | he'
  ·
   rcases List.mem_cons.mp hf with rfl | hf'
   ·
    exact absurd rfl hne
   ·
    exact (h1.1 f hf').1
  ·
   rcases List.mem_cons.mp hf with rfl | hf'
   ·
    exact (h1.1 e he').2
   ·
    exact ih h1.2 he' hf'
theorem Red.rows {E F : List (Nat × Vc)} (hE : Red E) (hF : Red F) (h : ∀ v ∈ rowsOf E, Sp (rowsOf F) v) (h' : ∀ v ∈ rowsOf F, Sp (rowsOf E) v)
  (pE : ∀ e ∈ E, Prm e.2 ∧ 0 < e.2 e.1) (pF : ∀ e ∈ F, Prm e.2 ∧ 0 < e.2 e.1) : ∀ e ∈ E, ∀ f ∈ F, e.1 = f.1 → e.2 = f.2 := by
 intro e he f hf hef
 have hc := hE.cols hF h h'
 funext x
 refine (pE e he).1.same (pF f hf).1 (pF f hf).2 (pE e he).2 (fun x => ?_) x
 have hv : Sp (rowsOf E) (fun x => f.2 f.1 * e.2 x + (-(e.2 e.1)) * f.2 x) := .comb _ _ (.mem (List.mem_map_of_mem he)) (h' _ (List.mem_map_of_mem hf))
 have := hE.piv.only hv (fun g hg => by
  by_cases hge : g.1 = e.1
  ·
   rw [hge, hef]; grind
  ·
   have h1 := pw_apart hE.piv.zr he hg (fun z => hge z.symm)
   have hg2 : g.1 ∈ F.map (·.1) := hc ▸ List.mem_map_of_mem hg
   obtain ⟨g', hg', e'⟩ := List.mem_map.mp hg2
   have h2 := pw_apart hF.piv.zr hf hg' (fun z => hge (by omega))
   rw [e'] at h2
   rw [h1, h2]; simp) x
 exact Int.sub_eq_zero.mp (by rw [← this]; simp [Int.sub_eq_add_neg, Int.neg_mul])
end Go.Proofs.Ytckefohfahphpaa.Z
end
section
namespace Go.Proofs.Ytckefohfahphpaa.Z
open Go.RowKit Go.Proofs.YtckefohfahphpaaW.PrintWords Go.Proofs.YtckefohfahphpaaW.PrintLast Go.Proofs.YtckefohfahphpaaW.PrintMore
set_option linter.unusedVariables false
set_option linter.unusedSimpArgs false
/-- Expansion of a determinant along a row. -/
def ex (r : Vc) (f : List Nat → Int) : List Nat → List Nat → Int
 | _, [] => 0
 | pre, c :: C => r c * f (pre ++ C) - ex r f (pre ++ [c]) C
def det : List Vc → List Nat → Int
 | [], [] => 1
 | [], _ :: _ => 0
 | r :: R, C => ex r (det R) [] C
theorem ex_pre {r : Vc} {f : List Nat → Int} {a b : Nat} (h : ∀ P Q, f (P ++ a :: b :: Q) = -f (P ++ b :: a :: Q)) (P : List Nat) : ∀ (C S : List Nat), ex r f (P ++ a :: b :: S) C = -ex r f (P ++ b :: a :: S) C := by
 intro C
 induction C with
 | nil => intro S; simp [ex]
 | cons c C ih =>
  intro S
  simp only [ex, List.append_assoc, List.cons_append]
  have h1 := h P (S ++ C)
  have h2 := ih (S ++ [c])
  rw [h1, h2]
  grind
theorem ex_swap {r : Vc} {f : List Nat → Int} {a b : Nat} (h : ∀ P Q, f (P ++ a :: b :: Q) = -f (P ++ b :: a :: Q)) : ∀ (P S Q : List Nat), ex r f S (P ++ a :: b :: Q) = -ex r f S (P ++ b :: a :: Q) := by
 intro P
 induction P with
 | nil =>
  intro S Q
  simp only [ex, List.nil_append, List.append_assoc, List.cons_append]
  have := ex_pre (r := r) h S Q []
  grind
 | cons c P ih =>
  intro S Q
  simp only [ex, List.cons_append]
  have h1 := h (S ++ P) Q
  have h2 := ih (S ++ [c]) Q
  simp only [List.append_assoc] at h1
  rw [h1, h2]
  grind
theorem det_swap : ∀ (R : List Vc) (a b : Nat) (P Q : List Nat), det R (P ++ a :: b :: Q) = -det R (P ++ b :: a :: Q) := by
 intro R
 induction R with
 | nil => intro a b P Q; cases P <;> rfl
 | cons r R ih => intro a b P Q; simp only [det]; exact ex_swap (fun P Q => ih a b P Q) P [] Q
theorem det_move (R : List Vc) (c : Nat) : ∀ (P Q S : List Nat), (det R (S ++ P ++ c :: Q)).natAbs = (det R (S ++ c :: (P ++ Q))).natAbs := by
 intro P
 induction P with
 | nil => intro Q S; simp
 | cons p P ih =>
  intro Q S
  have h1 := ih Q (S ++ [p])
  have h2 := det_swap R p c S (P ++ Q)
  simp only [List.append_assoc, List.cons_append, List.nil_append] at h1 h2 ⊢
  rw [h1, h2, Int.natAbs_neg]
theorem det_same (R : List Vc) {c : Nat} {C : List Nat} (h : c ∈ C) : det R (c :: C) = 0 := by
 obtain ⟨P, Q, rfl⟩ := List.append_of_mem h
 have h1 := det_move R c P Q [c]
 have h2 := det_swap R c c [] (P ++ Q)
 simp only [List.cons_append, List.nil_append] at h1 h2
 omega
theorem ex_span {A : List Vc} {r : Vc} {f : List Nat → Int} (h : ∀ C, Sp A fun x => f (x :: C)) : ∀ (C P : List Nat), Sp A fun x => ex r f (x :: P) C := by
 intro C
 induction C with
 | nil => intro P; exact Sp.zero
 | cons c C ih => intro P; exact (Sp.comb (r c) (-1) (h (P ++ C)) (ih (P ++ [c]))).eq fun x => by simp only [ex, List.cons_append]; omega
theorem Sp.mono {A B : List Vc} (h : ∀ a ∈ A, a ∈ B) {v : Vc} (hv : Sp A v) : Sp B v := hv.sub fun a ha => .mem (h a ha)
theorem det_span : ∀ (R : List Vc) (C : List Nat), Sp R fun x => det R (x :: C) := by
 intro R
 induction R with
 | nil => intro C; exact Sp.zero
 | cons r R ih =>
  intro C
  have h := (ex_span (r := r) ih C []).mono (B := r :: R) (fun a ha => List.mem_cons_of_mem _ ha)
  exact (Sp.comb (det R C) (-1) (.mem List.mem_cons_self) h).eq fun x => by simp only [det, ex, List.nil_append]; grind
theorem det_head (r : Vc) (R : List Vc) (C : List Nat) : Sp R fun x => det (r :: R) (x :: C) - det R C * r x :=
 (Sp.scale (-1) (ex_span (r := r) (det_span R) C [])).eq fun x => by simp only [det, ex, List.nil_append]; grind
def hb : Nat → Nat
 | 0 => 1
 | n + 1 => (n + 1) * (3 * hb n)
theorem ex_bound {r : Vc} {f : List Nat → Int} {M m : Nat} (hr : ∀ x, (r x).natAbs ≤ 3) (hf : ∀ L, L.length = m → (f L).natAbs ≤ M) : ∀ (C P : List Nat), P.length + C.length = m + 1 → (ex r f P C).natAbs ≤ C.length * (3 * M) := by
 intro C
 induction C with
 | nil => intro P _; simp [ex]
 | cons c C ih =>
  intro P hl
  have h1 := hf (P ++ C) (by simp at hl ⊢; omega)
  have h2 := ih (P ++ [c]) (by simp at hl ⊢; omega)
  have h3 := Nat.mul_le_mul (hr c) h1
  rw [← Int.natAbs_mul] at h3
  simp only [ex, List.length_cons]
  have h4 : (C.length + 1) * (3 * M) = C.length * (3 * M) + 3 * M := Nat.succ_mul _ _
  omega
theorem det_bound : ∀ (R : List Vc) (C : List Nat), (∀ r ∈ R, ∀ x, (r x).natAbs ≤ 3) → C.length = R.length → (det R C).natAbs ≤ hb R.length := by
 intro R
 induction R with
 | nil => intro C _ hl; cases C with
  | nil => simp [det, hb]
  | cons c C => simp at hl
 | cons r R ih =>
  intro C hr hl
  have := ex_bound (r := r) (f := det R) (M := hb R.length) (m := R.length) (hr r List.mem_cons_self) (fun L hL => ih L (fun q hq => hr q (List.mem_cons_of_mem _ hq)) hL) C [] (by simpa using hl)
  simp only [det, List.length_cons, hb]
  rw [hl] at this
  exact this
theorem hb_mono {n m : Nat} (h : n ≤ m) : hb n ≤ hb m := by
 induction h with
 | refl => exact Nat.le_refl _
 | step _ ih =>
  refine Nat.le_trans ih ?_
  simp only [hb]
  have : 1 * hb _ ≤ _ := Nat.mul_le_mul (show 1 ≤ 1 from Nat.le_refl _) (Nat.le_refl (hb ‹Nat›))
  rename_i k _
  have h1 : (k + 1) * (3 * hb k) = k * (3 * hb k) + 3 * hb k := Nat.succ_mul _ _
  omega
theorem hb8 : hb 8 = 264539520 := by decide
end Go.Proofs.Ytckefohfahphpaa.Z
end
section
namespace Go.Proofs.Ytckefohfahphpaa.Z
open Go.RowKit Go.Proofs.YtckefohfahphpaaW.PrintWords Go.Proofs.YtckefohfahphpaaW.PrintLast Go.Proofs.YtckefohfahphpaaW.PrintMore
attribute [local go_sem] max2_int min2_int max_two min_two max_three min_three max_four min_four   -- for this text's walks alone
set_option linter.unusedVariables false
set_option linter.unusedSimpArgs false

/-! ### matrix_Transpose: function 19 -/
mutual
def matrix_Transpose.l0 : Nat → List (List Int) → List (List Int) → Int → Int → Option ((List (List Int)))
 | 0, _, _, _, _ => none
 | k + 1, x0, x3, x16, x17 => if x17 < x16 then (matrix_Transpose.l1 k x0 x3 x17 x16 x17 x0 (x0.length : Int) 0) else (some x3)
def matrix_Transpose.l1 : Nat → List (List Int) → List (List Int) → Int → Int → Int → List (List Int) → Int → Int → Option ((List (List Int)))
 | 0, _, _, _, _, _, _, _, _ => none
 | k + 1, x0, x3, x4, x16, x17, x20, x21, x22 => if x22 < x21 then (if 0 ≤ x22 then (if x22 < (x20.length : Int) then (if 0 ≤ x4 then (if x4 < (x3.length : Int) then (if x4 < ((rd_L1 x20 x22).length : Int) then (if (rd_L1 x3 x4).length < 17592186044416 then (matrix_Transpose.l1 k x0 (x3.set (x4 : Int).toNat ((rd_L1 x3 x4) ++ [rd (rd_L1 x20 x22) x4])) x4 x16 x17 x20 x21 (wrap64 (x22 + 1))) else (none)) else (none)) else (none)) else (none)) else (none)) else (none)) else (matrix_Transpose.l0 k x0 x3 x16 (wrap64 (x17 + 1)))
end
def matrix_Transpose.f (k : Nat) (l0 : List (List Int)) : Option ((List (List Int))) := (matrix_Valid.f k l0).bind fun t189 => (if t189 = true then (if 0 < (l0.length : Int) then (if 0 ≤ ((rd_L1 l0 0).length : Int) then (if (((rd_L1 l0 0).length : Int) : Int).toNat ≤ 11728124029610 then ((some (List.replicate (((rd_L1 l0 0).length : Int) : Int).toNat [] : List (List Int))).bind fun y191 => (matrix_Transpose.l0 k l0 y191 (y191.length : Int) 0)) else (none)) else (none)) else (none)) else (some ([] : List (List Int))))
theorem matrix_Transpose.mono_l : ∀ k, (∀ y0 y1 y2 y3, LeO (matrix_Transpose.l0 k y0 y1 y2 y3) (matrix_Transpose.l0 (k + 1) y0 y1 y2 y3)) ∧ (∀ y0 y1 y2 y3 y4 y5 y6 y7, LeO (matrix_Transpose.l1 k y0 y1 y2 y3 y4 y5 y6 y7) (matrix_Transpose.l1 (k + 1) y0 y1 y2 y3 y4 y5 y6 y7))
 | 0 => ⟨fun _ _ _ _ r h => by simp [matrix_Transpose.l0] at h, fun _ _ _ _ _ _ _ _ r h => by simp [matrix_Transpose.l1] at h⟩
 | k + 1 => by
  obtain ⟨ih0, ih1⟩ := matrix_Transpose.mono_l k
  refine ⟨?_, ?_⟩
  ·
   intro y0 y1 y2 y3
   unfold matrix_Transpose.l0
   repeat' first
   | (with_reducible exact ih0 _ _ _ _)
   | (with_reducible exact ih1 _ _ _ _ _ _ _ _)
   | (with_reducible exact matrix_Valid.mono _ _)
   | (with_reducible exact LeO.refl _)
   | (with_reducible exact LeO.none _)
   | (with_reducible refine LeO.ite ?_ ?_)
   | (with_reducible refine LeO.bind ?_ (fun _ => ?_))
   | exact ih0 _ _ _ _
   | exact ih1 _ _ _ _ _ _ _ _
   | exact matrix_Valid.mono _ _
   | exact LeO.none _
   | refine LeO.ite ?_ ?_
   | refine LeO.bind ?_ (fun _ => ?_)
  ·
   intro y0 y1 y2 y3 y4 y5 y6 y7
   unfold matrix_Transpose.l1
   repeat' first
   | (with_reducible exact ih0 _ _ _ _)
   | (with_reducible exact ih1 _ _ _ _ _ _ _ _)
   | (with_reducible exact matrix_Valid.mono _ _)
   | (with_reducible exact LeO.refl _)
   | (with_reducible exact LeO.none _)
   | (with_reducible refine LeO.ite ?_ ?_)
   | (with_reducible refine LeO.bind ?_ (fun _ => ?_))
   | exact ih0 _ _ _ _
   | exact ih1 _ _ _ _ _ _ _ _
   | exact matrix_Valid.mono _ _
   | exact LeO.none _
   | refine LeO.ite ?_ ?_
   | refine LeO.bind ?_ (fun _ => ?_)
theorem matrix_Transpose.mono : ∀ a0 k, LeO (matrix_Transpose.f k a0) (matrix_Transpose.f (k + 1) a0) := by
 intro a0 k
 obtain ⟨ih0, ih1⟩ := matrix_Transpose.mono_l k
 unfold matrix_Transpose.f
 repeat' first
   | (with_reducible exact ih0 _ _ _ _)
   | (with_reducible exact ih1 _ _ _ _ _ _ _ _)
   | (with_reducible exact matrix_Valid.mono _ _)
   | (with_reducible exact LeO.refl _)
   | (with_reducible exact LeO.none _)
   | (with_reducible refine LeO.ite ?_ ?_)
   | (with_reducible refine LeO.bind ?_ (fun _ => ?_))
   | exact ih0 _ _ _ _
   | exact ih1 _ _ _ _ _ _ _ _
   | exact matrix_Valid.mono _ _
   | exact LeO.none _
   | refine LeO.ite ?_ ?_
   | refine LeO.bind ?_ (fun _ => ?_)
def matrix_Transpose.T10 : Bool × List (List Nat × List Nat) := (true, [([], []), ([], []), ([], []), ([], []), ([2, 3], [2, 3]), ([4], [4]), ([], []), ([], []), ([6, 7], [6, 7]), ([8], [8]), ([9], [9]), ([5, 10], [5, 10]), ([0, 1, 0, 1, 2, 3, 4, 5, 6, 7, 8, 9, 10, 11], [0, 1]), ([12, 11, 11, 0, 1, 2, 3, 4, 5, 6, 7, 8, 9, 10, 11], [11, 12])])
def matrix_Transpose.B10 : List Nat := [0, 0, 0, 0, 12, 28, 0, 0, 192, 448, 960, 2044, 4095, 8191]
theorem matrix_Transpose.tab10 : rtab .any (opsOf Try.f19 10) = matrix_Transpose.T10 := by kernel_rfl
theorem matrix_Transpose.bits10 : waitsOk matrix_Transpose.T10.2 matrix_Transpose.B10 = true := by kernel_rfl
set_option maxHeartbeats 8000000 in
set_option maxRecDepth 100000 in
theorem matrix_Transpose.calls (k : Nat) (A0 : Option Addr) (c0 : Nat) (l0 : List (List Int)) (r : List (List Int)) (w : World) (hr0 : Kd.C (Kd.slice 2 (Kd.int .i64)) w A0 l0.length l0) (hc0 : l0.length ≤ c0) (h : matrix_Transpose.f k l0 = some r) :
  Calls Try.prog 19 #[.slice A0 l0.length c0] w fun e w' => ∃ v0_ : Value, e = .returned (v0_) ∧ Kd.S (Kd.slice 2 (Kd.int .i64)) 33 w' w.heap.size (fun _ => True) v0_ r ∧ Below w.heap.size w w' := by
 have HR0 := Aside0.mk hr0
 have HC0 := Aside0.mk hc0
 clear hr0 hc0
 have HB := Aside0.mk (Below.refl w.heap.size w)
 have H : ((matrix_Valid.f k l0).bind fun t189 => (if t189 = true then (if 0 < (l0.length : Int) then (if 0 ≤ ((rd_L1 l0 0).length : Int) then (if (((rd_L1 l0 0).length : Int) : Int).toNat ≤ 11728124029610 then ((some (List.replicate (((rd_L1 l0 0).length : Int) : Int).toNat [] : List (List Int))).bind fun y191 => (matrix_Transpose.l0 k l0 y191 (y191.length : Int) 0)) else (none)) else (none)) else (none)) else (some ([] : List (List Int))))) = some r := h
 clear h
 replace H := Option.bind_eq_some_iff.mp H
 obtain ⟨t189, A20, H⟩ := H
 replace H : (if t189 = true then (if 0 < (l0.length : Int) then (if 0 ≤ ((rd_L1 l0 0).length : Int) then (if (((rd_L1 l0 0).length : Int) : Int).toNat ≤ 11728124029610 then ((some (List.replicate (((rd_L1 l0 0).length : Int) : Int).toNat [] : List (List Int))).bind fun y191 => (matrix_Transpose.l0 k l0 y191 (y191.length : Int) 0)) else (none)) else (none)) else (none)) else (some ([] : List (List Int)))) = some r := H
 have A2 := Aside0.mk A20
 clear A20
 by_cases c3 : t189 = true
 ·
  subst c3
  have H1 : (if 0 < (l0.length : Int) then (if 0 ≤ ((rd_L1 l0 0).length : Int) then (if (((rd_L1 l0 0).length : Int) : Int).toNat ≤ 11728124029610 then ((some (List.replicate (((rd_L1 l0 0).length : Int) : Int).toNat [] : List (List Int))).bind fun y191 => (matrix_Transpose.l0 k l0 y191 (y191.length : Int) 0)) else (none)) else (none)) else (none)) = some r := by rw [if_pos rfl] at H; exact H
  clear H
  have H := H1
  clear H1
  by_cases c4 : 0 < (l0.length : Int)
  ·
   rw [if_pos c4] at H
   have c4b0 : decide (0 < (l0.length : Int)) = true := decide_eq_true c4
   have c4b1 : decide (0 < l0.length) = true := decide_eq_true (by omega)
   clear c4
   by_cases c5 : 0 ≤ ((rd_L1 l0 0).length : Int)
   ·
    rw [if_pos c5] at H
    have c5b0 := eq_true c5
    have c5b1 : decide (0 ≤ ((rd_L1 l0 0).length : Int)) = true := decide_eq_true c5
    clear c5
    by_cases c6 : (((rd_L1 l0 0).length : Int) : Int).toNat ≤ 11728124029610
    ·
     rw [if_pos c6] at H
     have c6b0 := eq_true c6
     have c6b1 : decide ((((rd_L1 l0 0).length : Int) : Int).toNat ≤ 11728124029610) = true := decide_eq_true c6
     clear c6
     obtain ⟨y191, hy191⟩ : ∃ y_ : List (List Int), y_ = (List.replicate (((rd_L1 l0 0).length : Int) : Int).toNat []) := ⟨_, rfl⟩
     replace H : (matrix_Transpose.l0 k l0 y191 (y191.length : Int) 0) = some r := by first | (rw [hy191]; with_reducible exact H) | (have H2_ := (Option.bind_some _ _).symm.trans H; rw [hy191]; with_reducible exact H2_) | (have H2_ := (Option.bind_some _ _).symm.trans H; with_reducible exact H2_) | with_reducible exact H | (rw [hy191]; exact H) | exact H
     have Ny191 := Aside0.mk hy191
     clear hy191
     have H' := Aside0.mk H
     clear H
     go_enter Try.func19, Try.ntmps19
     go_wp2_with (first | ((with_reducible refine gate_callee (f := 18) rfl ?_); refine goesL_ (some 8) rfl rfl Try.func18 (by kernel_rfl) rfl #[.slice A0 l0.length c0] rfl (by (try simp only [List.map_toArray, List.map_cons, List.map_nil]); first | done | rfl | (simp only [List.length_drop, List.length_take]; rfl)) ?_; (with_reducible refine (matrix_Valid.calls k _ _ l0 true _ ?side1 ?side2 A2.out).mono ?_); (case side1 => repeat (first | exact HR0.out | (with_reducible refine Kd.C_alloc ?_ _) | (with_reducible refine Kd.C_drewN ?_ _) | (with_reducible refine Kd.C_drew ?_))); (case side2 => exact HC0.out); rintro e w' ⟨rfl, ⟨nd, rfl⟩⟩; refine ⟨_, rfl, ?_⟩; have p190 : 0 ≤ (0 : Int) := (by omega); have q190 : 0 < (l0.length : Int) := of_decide_eq_true (by first | (with_reducible assumption) | assumption); obtain ⟨ad190, A190_0, c190_0, e190, hx190_0, hl190_0, hi190_0⟩ := at_L1 HR0.out 0 p190 q190; cases e190; have qi190 : (0 < l0.length) = True := eq_true (by omega); (try rw [show ((0 : Int)).toNat = 0 from rfl] at hx190_0); (try rw [Addr.add_zero'] at hx190_0); have HR190_0 := Aside0.mk hi190_0; have HC190_0 := Aside0.mk hl190_0; clear hi190_0 hl190_0; replace p190 := eq_true p190; replace q190 := eq_true q190) | ((with_reducible refine gate_dst (N := 14) rfl ?_); refine Kd.S_make (Kd.slice 2 (Kd.int .i64)) _ 33 rfl (N := 14) rfl 22 _ _ rfl ((rd_L1 l0 0).length : Int) rfl rfl Try.underlying22 (.slice none 0 0) 24 info33 rfl (by decide) (by omega) [] (ok := fun _ => True) (okp := fun _ => True) ⟨_, rfl, Kd.R_nil _ _ _ _ _⟩ (fun _ hk => hk) trivial (of_decide_eq_true (by first | (with_reducible assumption) | assumption)) (Nat.le_trans (Nat.mul_le_mul_right _ (of_decide_eq_true (by first | (with_reducible assumption) | assumption) : ((rd_L1 l0 0).length : Int).toNat ≤ 11728124029610)) (by omega)) (Below.refl _ _) (Nat.le_refl _) ?_; intro v192 w7 ho8 hb hg_ hnew_; clear hg_ hnew_; (first | rw [← Ny191.out] at ho8 | (simp only [Int.reduceToNat] at ho8; rw [← Ny191.out] at ho8)); have n0_ := Aside0.mk (Kd.S_lower ho8 (below_size (by repeat (first | (with_reducible first | exact HB.out | apply below_alloc | apply pw_below_drewN | apply below_drew1) | exact HB.out)))); have n1_ := Aside0.mk (below_step (by repeat (first | (with_reducible first | exact HB.out | apply below_alloc | apply pw_below_drewN | apply below_drew1) | exact HB.out)) hb); clear HB; have HO193 := n0_; have HB := n1_; clear n0_ n1_; clear hb ho8; obtain ⟨Ao9, co9, eo9⟩ := Kd.S_slice HO193.out; subst eo9))
     go_loopg [17] k (fun kq v17 w' => ∃ (x3_1 : List (List Int)) (x17_1 : Int), v17 = .int .i64 x17_1 ∧ Aside0 (matrix_Transpose.l0 kq l0 x3_1 (y191.length : Int) x17_1 = some r) ∧ Aside0 (kq ≤ k) ∧ Aside0 (Kd.S (Kd.slice 2 (Kd.int .i64)) 33 w' w.heap.size (fun _ => True) (.slice Ao9 y191.length co9) x3_1) ∧ Aside0 (Below w.heap.size w w'))
     case atStart => exact ⟨(y191), (0), (by first | rfl | (simp; done) | (simp [*]; done)), H', ⟨Nat.le_refl _⟩, ⟨by (with_reducible repeat (first | apply Kd.S_alloc | apply Kd.S_drewN | apply Kd.S_drew)); exact HO193.out⟩, ⟨by repeat (first | (with_reducible first | exact HB.out | apply below_alloc | apply pw_below_drewN | apply below_drew1) | exact HB.out)⟩⟩
     case round =>
      clear H'
      try clear c1
      try clear p1
      try clear q1
      try clear hx1
      try clear qi1
      try clear p2
      try clear c3
      try clear c4
      try clear c4b0
      try clear c4b1
      try clear c5
      try clear c5b0
      try clear c5b1
      try clear c6
      try clear c6b0
      try clear c6b1
      try clear hx190_0
      try clear p190
      try clear q190
      obtain ⟨x3_1, x17_1, rfl, HA, HK1, HO_3, HB⟩ := hrel
      have hl3_1 := (Kd.S_reads' HO_3.out).1
      rw [hl3_1] at HO_3
      (try simp only [hl3_1])
      cases gk with
      | zero => exact absurd HA.out (by simp [matrix_Transpose.l0])
      | succ k1 =>
       have H := HA.out
       clear HA
       simp only [matrix_Transpose.l0] at H
       by_cases c10 : x17_1 < (y191.length : Int)
       ·
        rw [if_pos c10] at H
        have c10b0 : decide (x17_1 < (y191.length : Int)) = true := decide_eq_true c10
        have c10b9 : decide (x17_1 < (x3_1.length : Int)) = true := by rw [← hl3_1]; exact c10b0
        clear c10
        have H' := Aside0.mk H
        clear H
        go_wp2
        go_loopg [22] k1 (fun kq v22 w' => ∃ (x3_2 : List (List Int)) (x22_2 : Int), v22 = .int .i64 x22_2 ∧ Aside0 (matrix_Transpose.l1 kq l0 x3_2 x17_1 (y191.length : Int) x17_1 l0 (l0.length : Int) x22_2 = some r) ∧ Aside0 (kq ≤ k1) ∧ Aside0 (Kd.S (Kd.slice 2 (Kd.int .i64)) 33 w' w.heap.size (fun _ => True) (.slice Ao9 x3_1.length co9) x3_2) ∧ Aside0 (Below w.heap.size w w'))
        case atStart => exact ⟨(x3_1), (0), (by first | rfl | (simp; done) | (simp [*]; done)), H', ⟨Nat.le_refl _⟩, ⟨by (try simp only [hl3_1]); (with_reducible repeat (first | apply Kd.S_alloc | apply Kd.S_drewN | apply Kd.S_drew)); exact HO_3.out⟩, ⟨by repeat (first | (with_reducible first | exact HB.out | apply below_alloc | apply pw_below_drewN | apply below_drew1) | exact HB.out)⟩⟩
        case round =>
         clear H'
         try clear c1
         try clear p1
         try clear q1
         try clear hx1
         try clear qi1
         try clear p2
         try clear c3
         try clear c4
         try clear c4b0
         try clear c4b1
         try clear c5
         try clear c5b0
         try clear c5b1
         try clear c6
         try clear c6b0
         try clear c6b1
         try clear c10
         try clear c10b0
         try clear hx190_0
         try clear p1
         try clear p190
         try clear p2
         try clear q1
         try clear q190
         obtain ⟨x3_2, x22_2, rfl, HA, HK2, HO_3, HB⟩ := hrel
         have hl3_2 := (Kd.S_reads' HO_3.out).1
         rw [hl3_2] at HO_3
         (try simp only [hl3_2])
         cases gk with
         | zero => exact absurd HA.out (by simp [matrix_Transpose.l1])
         | succ k2 =>
          have H := HA.out
          clear HA
          simp only [matrix_Transpose.l1] at H
          by_cases c11 : x22_2 < (l0.length : Int)
          ·
           rw [if_pos c11] at H
           have c11b0 : decide (x22_2 < (l0.length : Int)) = true := decide_eq_true c11
           clear c11
           by_cases c12 : 0 ≤ x22_2
           ·
            rw [if_pos c12] at H
            have c12b0 : decide (0 ≤ x22_2) = true := decide_eq_true c12
            clear c12
            by_cases c13 : x22_2 < (l0.length : Int)
            ·
             rw [if_pos c13] at H
             have c13b0 : decide (x22_2 < (l0.length : Int)) = true := decide_eq_true c13
             clear c13
             by_cases c14 : 0 ≤ x17_1
             ·
              rw [if_pos c14] at H
              have c14b0 : decide (0 ≤ x17_1) = true := decide_eq_true c14
              clear c14
              by_cases c15 : x17_1 < (x3_2.length : Int)
              ·
               rw [if_pos c15] at H
               have c15b0 : decide (x17_1 < (x3_2.length : Int)) = true := decide_eq_true c15
               clear c15
               by_cases c16 : x17_1 < ((rd_L1 l0 x22_2).length : Int)
               ·
                rw [if_pos c16] at H
                have c16b0 : decide (x17_1 < ((rd_L1 l0 x22_2).length : Int)) = true := decide_eq_true c16
                clear c16
                by_cases c17 : (rd_L1 x3_2 x17_1).length < 17592186044416
                ·
                 rw [if_pos c17] at H
                 have LMc17 := Aside0.mk c17
                 clear c17
                 obtain ⟨y197, hy197⟩ : ∃ y_ : List Int, y_ = ((rd_L1 x3_2 x17_1) ++ [rd (rd_L1 l0 x22_2) x17_1]) := ⟨_, rfl⟩
                 replace H : (matrix_Transpose.l1 k2 l0 (x3_2.set (x17_1 : Int).toNat y197) x17_1 (y191.length : Int) x17_1 l0 (l0.length : Int) (wrap64 (x22_2 + 1))) = some r := by first | (rw [hy197]; with_reducible exact H) | (have H2_ := (Option.bind_some _ _).symm.trans H; rw [hy197]; with_reducible exact H2_) | (have H2_ := (Option.bind_some _ _).symm.trans H; with_reducible exact H2_) | with_reducible exact H | (rw [hy197]; exact H) | exact H
                 have Ny197 := Aside0.mk hy197
                 clear hy197
                 obtain ⟨y200, hy200⟩ : ∃ y_ : List (List Int), y_ = (x3_2.set (x17_1 : Int).toNat y197) := ⟨_, rfl⟩
                 replace H : (matrix_Transpose.l1 k2 l0 y200 x17_1 (y191.length : Int) x17_1 l0 (l0.length : Int) (wrap64 (x22_2 + 1))) = some r := by first | (rw [hy200]; with_reducible exact H) | (have H2_ := (Option.bind_some _ _).symm.trans H; rw [hy200]; with_reducible exact H2_) | (have H2_ := (Option.bind_some _ _).symm.trans H; with_reducible exact H2_) | with_reducible exact H | (rw [hy200]; exact H) | exact H
                 have Ny200 := Aside0.mk hy200
                 clear hy200
                 have H' := Aside0.mk H
                 clear H
                 have p194 : 0 ≤ (x22_2 : Int) := of_decide_eq_true (by first | (with_reducible assumption) | assumption)
                 have q194 : x22_2 < (l0.length : Int) := of_decide_eq_true (by first | (with_reducible assumption) | assumption)
                 obtain ⟨ad194, A194_0, c194_0, e194, hx194_0, hl194_0, hi194_0⟩ := at_L1 HR0.out x22_2 p194 q194
                 obtain rfl : ad190 = ad194 := (by injection e194)
                 replace hx194_0 := (HB.out.cell (World.block_lt_of_cell? w _ hx194_0)).trans hx194_0
                 have HR194_0 := Aside0.mk hi194_0
                 have HC194_0 := Aside0.mk hl194_0
                 clear hi194_0 hl194_0
                 replace p194 := eq_true p194
                 replace q194 := eq_true q194
                 try go_wp2
                 have n0_ := Aside0.mk (Kd.S_drew HO_3.out)
                 have n1_ := Aside0.mk (below_drew1 HB.out)
                 clear HO_3
                 clear HB
                 have HO_3 := n0_
                 have HB := n1_
                 clear n0_ n1_
                 have p195 : 0 ≤ (x17_1 : Int) := of_decide_eq_true (by first | (with_reducible assumption) | assumption)
                 have q195 : x17_1 < (x3_2.length : Int) := of_decide_eq_true (by first | (with_reducible assumption) | assumption)
                 obtain ⟨ad195, A195_0, c195_0, e195, hx195_0, hl195_0, hi195_0⟩ := at_L1 (Kd.S_reads' HO_3.out).2.2 x17_1 p195 q195
                 cases e195
                 obtain ⟨ce195, hce195, hMe195, hcc195⟩ := Kd.S_get HO_3.out [] x17_1 p195 (by first | exact q195 | exact of_decide_eq_true (by first | (with_reducible assumption) | assumption) | (have e_ := (Kd.S_reads' HO_3.out).1; omega))
                 obtain ⟨ve195_0, rfl, ge195_0⟩ := hMe195
                 have hv195_0 := hcc195 0 _ rfl
                 rw [Nat.add_zero, show ((Kd.slice 2 (Kd.int .i64))).sz = 1 from rfl, Nat.mul_one] at hv195_0
                 replace hv195_0 := Option.some.inj (hv195_0.symm.trans hx195_0)
                 rw [hv195_0] at ge195_0
                 have HL195_0 := Aside0.mk (show Kd.R (Kd.int .i64) 2 _ _ _ _ (rd_L1 x3_2 x17_1) from ge195_0)
                 clear hv195_0 ge195_0
                 have HX195_0 := Aside0.mk hx195_0
                 clear hcc195 hce195
                 have HR195_0 := Aside0.mk hi195_0
                 have HC195_0 := Aside0.mk hl195_0
                 clear hi195_0 hl195_0
                 replace p195 := eq_true p195
                 replace q195 := eq_true q195
                 have p196 : 0 ≤ (x17_1 : Int) := of_decide_eq_true (by first | (with_reducible assumption) | assumption)
                 have q196 : x17_1 < ((rd_L1 l0 x22_2).length : Int) := of_decide_eq_true (by first | (with_reducible assumption) | assumption)
                 obtain ⟨ad196, e196, hx196_0⟩ := Kd.at_int HR194_0.out x17_1 p196 q196
                 have hw196_0 := hx196_0
                 cases e196
                 replace hx196_0 := (HB.out.cell (World.block_lt_of_cell? w _ hx196_0)).trans hx196_0
                 replace p196 := eq_true p196
                 replace q196 := eq_true q196
                 obtain ⟨go20, co20, eo20, gb20, gl20, cl20, HG20⟩ := Kd.S_form HO_3.out (by have h_ : (x17_1 : Int) < ((x3_2.length : Int) : Int) := of_decide_eq_true (by first | (with_reducible assumption) | assumption); have h2_ : 0 ≤ (x17_1 : Int) := (of_decide_eq_true (by first | (with_reducible assumption) | assumption)); omega)
                 (first | cases eo20 | (injection eo20 with ea_ en_ ec_; (first | subst ea_ | (injection ea_ with ea_; subst ea_)); subst ec_; clear en_))
                 have GB20 := Aside0.mk gb20
                 have GG20 := Aside0.mk HG20
                 clear gb20 gl20 HG20
                 (first | simp only [add_plain] at hx195_0 | skip)
                 obtain ⟨oki20, ce20, hcl20, hM20, hcc20, _, _, hH20⟩ := Kd.S_elem HO_3.out [] (x17_1 : Int) (of_decide_eq_true (by first | (with_reducible assumption) | assumption)) (by have h_ : (x17_1 : Int) < ((x3_2.length : Int) : Int) := of_decide_eq_true (by first | (with_reducible assumption) | assumption); first | exact h_ | (have e_ := (Kd.S_reads' HO_3.out).1; omega) | simpa using h_)
                 obtain ⟨ve20_0, rfl, ge20_0⟩ := hM20
                 have hv20 := hcc20 0 _ rfl
                 have hX20 := HX195_0.out
                 (try simp only [add_plain] at hX20)
                 (try simp only [Nat.add_zero] at hv20)
                 (try rw [show ((Kd.slice 2 (Kd.int .i64))).sz = 1 from rfl, Nat.mul_one] at hv20)
                 replace hv20 := Option.some.inj (hv20.symm.trans hX20)
                 subst hv20
                 clear hX20 hcc20 hcl20
                 have UU20 := Aside0.mk (show Kd.R (Kd.int .i64) 2 _ w.heap.size oki20 (.slice A195_0 (rd_L1 x3_2 x17_1).length c195_0) (rd_L1 x3_2 x17_1) from ge20_0)
                 have HH20 := Aside0.mk hH20
                 have HN20 := Aside0.mk (Kd.S_reads' HO_3.out).1
                 clear hH20 ge20_0
                 refine start_ (n := 14) (S := fun w' => w'.cell? ⟨go20, (x17_1).toNat, none⟩ = some (.slice A195_0 (rd_L1 x3_2 x17_1).length c195_0) ∧ w'.cell? (ad196.add (x17_1).toNat) = some (.int .i64 (rd (rd_L1 l0 x22_2) x17_1))) (ds := [13]) #[false, false, false, false, false, false, false, false, false, false, false, false, false, false] (by kernel_rfl) rfl rfl ⟨hx195_0, ((HB.out.cell (World.block_lt_of_cell? w _ hw196_0)).trans hw196_0)⟩ (fun hHeld => ?_); refine with_tabW matrix_Transpose.tab10 matrix_Transpose.bits10 (fun HT_ HW_ => ?_)
                 generalize wr.drew = w19 at HO_3 HB GG20 HH20 HL195_0 HR195_0 HX195_0 UU20 hx195_0 hx196_0 hHeld ⊢
                 refine pure_ (i := 0) (N := some 26) (v := ?_) (a' := ?_) #[true, false, false, false, false, false, false, false, false, false, false, false, false, false] rfl rfl (any_of HT_.out (by kernel_rfl)) (fun _ _ _ h => h) (Or.inl ⟨by rfl, ?_⟩) ?_ ?_
                 rotate_left
                 ·
                  intro w'
                  go_simp
                  with_reducible rfl
                 rotate_left
                 ·
                  simp only [Act.put, List.setIfInBounds_toArray, List.set_cons_zero, List.set_cons_succ, i64_w, i32_w]
                  rfl
                 refine pure_ (i := 1) (N := some 27) (v := ?_) (a' := ?_) #[true, true, false, false, false, false, false, false, false, false, false, false, false, false] rfl rfl (any_of HT_.out (by kernel_rfl)) (fun _ _ _ h => h) (Or.inl ⟨by rfl, ?_⟩) ?_ ?_
                 rotate_left
                 ·
                  intro w'
                  go_simp
                  with_reducible rfl
                 rotate_left
                 ·
                  simp only [Act.put, List.setIfInBounds_toArray, List.set_cons_zero, List.set_cons_succ, i64_w, i32_w]
                  rfl
                 refine pure_ (i := 2) (N := some 28) (v := ?_) (a' := ?_) #[true, true, true, false, false, false, false, false, false, false, false, false, false, false] rfl rfl (any_of HT_.out (by kernel_rfl)) (fun _ _ _ h => h) (Or.inl ⟨by rfl, ?_⟩) ?_ ?_
                 rotate_left
                 ·
                  intro w'
                  go_simp
                  with_reducible rfl
                 rotate_left
                 ·
                  simp only [Act.put, List.setIfInBounds_toArray, List.set_cons_zero, List.set_cons_succ, i64_w, i32_w]
                  rfl
                 refine pure_ (i := 3) (N := some 29) (v := ?_) (a' := ?_) #[true, true, true, true, false, false, false, false, false, false, false, false, false, false] rfl rfl (any_of HT_.out (by kernel_rfl)) (fun _ _ _ h => h) (Or.inl ⟨by rfl, ?_⟩) ?_ ?_
                 rotate_left
                 ·
                  intro w'
                  go_simp
                  with_reducible rfl
                 rotate_left
                 ·
                  simp only [Act.put, List.setIfInBounds_toArray, List.set_cons_zero, List.set_cons_succ, i64_w, i32_w]
                  rfl
                 refine pure_ (i := 4) (N := some 30) (v := ?_) (a' := ?_) #[true, true, true, true, true, false, false, false, false, false, false, false, false, false] rfl rfl (any_of HT_.out (by kernel_rfl)) (fun _ _ _ h => h) (Or.inl ⟨by rfl, ?_⟩) ?_ ?_
                 rotate_left
                 ·
                  intro w'
                  go_simp
                  with_reducible rfl
                 rotate_left
                 ·
                  simp only [Act.put, List.setIfInBounds_toArray, List.set_cons_zero, List.set_cons_succ, i64_w, i32_w]
                  rfl
                 refine pure_ (i := 6) (N := some 32) (v := ?_) (a' := ?_) #[true, true, true, true, true, false, true, false, false, false, false, false, false, false] rfl rfl (any_of HT_.out (by kernel_rfl)) (fun _ _ _ h => h) (Or.inl ⟨by rfl, ?_⟩) ?_ ?_
                 rotate_left
                 ·
                  intro w'
                  go_simp
                  with_reducible rfl
                 rotate_left
                 ·
                  simp only [Act.put, List.setIfInBounds_toArray, List.set_cons_zero, List.set_cons_succ, i64_w, i32_w]
                  rfl
                 refine pure_ (i := 7) (N := some 33) (v := ?_) (a' := ?_) #[true, true, true, true, true, false, true, true, false, false, false, false, false, false] rfl rfl (any_of HT_.out (by kernel_rfl)) (fun _ _ _ h => h) (Or.inl ⟨by rfl, ?_⟩) ?_ ?_
                 rotate_left
                 ·
                  intro w'
                  go_simp
                  with_reducible rfl
                 rotate_left
                 ·
                  simp only [Act.put, List.setIfInBounds_toArray, List.set_cons_zero, List.set_cons_succ, i64_w, i32_w]
                  rfl
                 refine pure_ (i := 8) (N := some 34) (v := ?_) (a' := ?_) #[true, true, true, true, true, false, true, true, true, false, false, false, false, false] rfl rfl (any_of HT_.out (by kernel_rfl)) (fun _ _ _ h => h) (Or.inl ⟨by rfl, ?_⟩) ?_ ?_
                 rotate_left
                 ·
                  intro w'
                  go_simp
                  with_reducible rfl
                 rotate_left
                 ·
                  simp only [Act.put, List.setIfInBounds_toArray, List.set_cons_zero, List.set_cons_succ, i64_w, i32_w]
                  rfl
                 refine take_ (i := 5) (N := some 31) (v := ?_) (a' := ?_) #[true, true, true, true, true, true, true, true, true, false, false, false, false, false] rfl rfl (take_ofW HT_.out HW_.out (by kernel_rfl)) (fun _ _ _ h => h) (Or.inl ⟨by rfl, ?_⟩) hHeld ?_ ?_
                 rotate_left
                 ·
                  rintro w' ⟨s0, s1⟩
                  go_simp
                  with_reducible rfl
                 rotate_left
                 ·
                  simp only [Act.put, List.setIfInBounds_toArray, List.set_cons_zero, List.set_cons_succ, i64_w, i32_w]
                  rfl
                 refine take_ (i := 9) (N := some 35) (v := ?_) (a' := ?_) #[true, true, true, true, true, true, true, true, true, true, false, false, false, false] rfl rfl (take_ofW HT_.out HW_.out (by kernel_rfl)) (fun _ _ _ h => h) (Or.inl ⟨by rfl, ?_⟩) hHeld ?_ ?_
                 rotate_left
                 ·
                  rintro w' ⟨s0, s1⟩
                  go_simp
                  with_reducible rfl
                 rotate_left
                 ·
                  simp only [Act.put, List.setIfInBounds_toArray, List.set_cons_zero, List.set_cons_succ, i64_w, i32_w]
                  rfl
                 refine one_ (i := 10) (N := some 36) #[true, true, true, true, true, true, true, true, true, true, true, false, false, false] rfl rfl (one_of HT_.out (by kernel_rfl)) (by decide) (fun K hK => ?_)
                 refine value_ (w1 := ?_) (v := ?_) (by rfl) rfl ?_ ?_
                 rotate_left 2
                 ·
                  go_simp
                  constructor
                  ·
                   rfl
                  ·
                   rfl
                 refine hK.out _ _ ⟨(World.cell?_alloc_lt _ _ _ (World.block_lt_of_cell? _ _ (hHeld.1))).trans (hHeld.1), (World.cell?_alloc_lt _ _ _ (World.block_lt_of_cell? _ _ (((HB.out.cell (World.block_lt_of_cell? w _ hw196_0)).trans hw196_0)))).trans (((HB.out.cell (World.block_lt_of_cell? w _ hw196_0)).trans hw196_0))⟩ (fun hHeld => ?_)
                 clear hK K
                 refine norm_ (a' := ?_) ?_ ?_
                 rotate_left
                 ·
                  show Act.put _ (some 36) _ = _
                  simp only [Act.put, List.setIfInBounds_toArray, List.set_cons_zero, List.set_cons_succ, i64_w, i32_w]
                  rfl
                 refine one_ (i := 11) (N := some 37) #[true, true, true, true, true, true, true, true, true, true, true, true, false, false] rfl rfl (one_of HT_.out (by kernel_rfl)) (by decide) (fun K hK => ?_)
                 refine Kd.R_append_step (Kd.int .i64) (w0 := w) w.heap.size (by rfl) (.tmp 31) (.tmp 36) 33 2 (.int .i64 0) 8 rfl Try.underlying33 info2 rfl (by decide) (by omega) (.slice A195_0 (rd_L1 x3_2 x17_1).length c195_0) (rd_L1 x3_2 x17_1) (rd (rd_L1 l0 x22_2) x17_1) [.int .i64 (rd (rd_L1 l0 x22_2) x17_1)] (fun k_ => oki20 k_ ∨ ((fun _ => True)) k_ ∧ w19.heap.size ≤ k_) (fun _ => False) rfl rfl ?aP (fun _ hk => hk.elim) ?aF ?aO ?aB ?aS ?aL ?_
                 (case aP => exact rfl)
                 (case aB => exact (by repeat (first | (with_reducible first | exact HB.out | apply below_alloc | apply pw_below_drewN | apply below_drew1) | exact HB.out)))
                 (case aF => exact (fun k_ hk => .inr ⟨trivial, hk⟩))
                 (case aO => exact (by (with_reducible repeat (first | apply Kd.R_alloc | apply Kd.R_drewN | apply Kd.R_drew)); exact Kd.R_mono UU20.out (fun _ hk => .inl hk)))
                 (case aS => exact (below_size (by repeat (first | (with_reducible first | exact HB.out | apply below_alloc | apply pw_below_drewN | apply below_drew1) | exact HB.out))))
                 (case aL => have := LMc17.out; omega)
                 intro v198 w21 ho hb hg hat
                 (first | have HS0_ := cell_grown hg (hHeld.1) (by first | (rw [add_block]; exact (fun e_ => ((HL195_0.out.1 _ e_.symm).2) rfl)) | (show some (Addr.add _ _).block ≠ _; rw [add_block]; exact (fun e_ => ((HL195_0.out.1 _ e_.symm).2) rfl)) | exact (fun e_ => ((HL195_0.out.1 _ e_.symm).2) rfl)) | have HS0_ := cell_grown hg (cell_unalloc (hHeld.1) (by first | (rw [add_block]; exact Kd.S_lt HO_3.out _ rfl) | (show (Addr.add _ _).block < _; rw [add_block]; exact Kd.S_lt HO_3.out _ rfl) | exact Kd.S_lt HO_3.out _ rfl)) (by first | (rw [add_block]; exact (fun e_ => ((HL195_0.out.1 _ e_.symm).2) rfl)) | (show some (Addr.add _ _).block ≠ _; rw [add_block]; exact (fun e_ => ((HL195_0.out.1 _ e_.symm).2) rfl)) | exact (fun e_ => ((HL195_0.out.1 _ e_.symm).2) rfl)))
                 rw [← Ny197.out] at ho
                 have n0_ := Aside0.mk (hb)
                 have n1_ := Aside0.mk (Kd.H_grown (Kd.H_widen (by repeat (first | exact HH20.out | refine Kd.H_alloc ?_ _ | refine Kd.H_drewN ?_ _ | refine Kd.H_drew ?_))) hg (fun k_ e_ => .inl (UU20.out.1 k_ e_)))
                 have n2_ := Aside0.mk (ho)
                 clear HB
                 clear HH20
                 clear HO_3
                 clear UU20
                 clear HL195_0
                 have HB := n0_
                 have HH20 := n1_
                 have HO199 := n2_
                 clear n0_ n1_ n2_
                 clear ho hb hg hat
                 have p18 : 0 ≤ (x17_1 : Int) := of_decide_eq_true (by first | (with_reducible assumption) | assumption)
                 have q18 : (x17_1 : Int) < ((x3_2.length : Int) : Int) := of_decide_eq_true (by first | (with_reducible assumption) | assumption)
                 replace p18 := eq_true p18
                 replace q18 := eq_true q18
                 obtain ⟨Ao24, co24, eo24⟩ := Kd.R_slice HO199.out
                 (first | subst eo24 | (injection eo24 with f1_ f2_ f3_; have f4_ := f1_.symm; have f5_ := f3_.symm; clear f1_ f2_ f3_; subst f4_; subst f5_))
                 obtain ⟨_, _, hraw22, _, _, hcc22, _⟩ := Kd.H_raw HH20.out (of_decide_eq_true (by first | (with_reducible assumption) | assumption)) (by have h_ : (x17_1 : Int) < ((x3_2.length : Int) : Int) := of_decide_eq_true (by first | (with_reducible assumption) | assumption); first | exact h_ | (have e_ := (HN20.out); omega) | simpa using h_)
                 obtain ⟨_, hfr22⟩ := Kd.H_at HH20.out (of_decide_eq_true (by first | (with_reducible assumption) | assumption)) (by have h_ : (x17_1 : Int) < ((x3_2.length : Int) : Int) := of_decide_eq_true (by first | (with_reducible assumption) | assumption); first | exact h_ | (have e_ := (HN20.out); omega) | simpa using h_)
                 have hx22_0 := hcc22 0 _ rfl
                 have hf22_0 := hfr22 0
                 (try simp only [Nat.add_zero] at hx22_0 hf22_0)
                 (try rw [show ((Kd.slice 2 (Kd.int .i64))).sz = 1 from rfl, Nat.mul_one] at hx22_0)
                 (try rw [show ((Kd.slice 2 (Kd.int .i64))).sz = 1 from rfl, Nat.mul_one] at hf22_0)
                 have HP22 := Kd.S_seg0 HH20.out (of_decide_eq_true (by first | (with_reducible assumption) | assumption)) (by have h_ : (x17_1 : Int) < ((x3_2.length : Int) : Int) := of_decide_eq_true (by first | (with_reducible assumption) | assumption); first | exact h_ | (have e_ := (HN20.out); omega) | simpa using h_) (seg := [.slice Ao24 y197.length co24]) (j := 0) (show 1 ≤ 1 from by decide) (x' := y197) (Kd.M_row HO199.out) (fun _ hk => hk)
                 (try simp only [show ((Kd.slice 2 (Kd.int .i64))).sz = 1 from rfl, Nat.mul_one, Nat.add_zero] at HP22)
                 clear hcc22 hfr22
                 have HS22 := HP22.1
                 rw [← Ny200.out] at HS22
                 have HQ22 := Aside0.mk HS22
                 obtain ⟨_, hgg22⟩ := Kd.R_typed hraw22 go20 rfl
                 have GG22_ := Aside0.mk hgg22
                 clear HP22 HS22 hgg22
                 refine hK.out _ _ ⟨HS0_, ((HB.out.cell (World.block_lt_of_cell? w _ hw196_0)).trans hw196_0)⟩ (fun hHeld => ?_)
                 clear hK K
                 refine norm_ (a' := ?_) ?_ ?_
                 rotate_left
                 ·
                  show Act.put _ (some 37) _ = _
                  simp only [Act.put, List.setIfInBounds_toArray, List.set_cons_zero, List.set_cons_succ, i64_w, i32_w]
                  rfl
                 refine pure_ (i := 12) (N := some 38) (v := ?_) (a' := ?_) #[true, true, true, true, true, true, true, true, true, true, true, true, true, false] rfl rfl (any_of HT_.out (by kernel_rfl)) (fun _ _ _ h => h) (Or.inl ⟨by rfl, ?_⟩) ?_ ?_
                 rotate_left
                 ·
                  intro w'
                  go_simp
                  with_reducible rfl
                 rotate_left
                 ·
                  simp only [Act.put, List.setIfInBounds_toArray, List.set_cons_zero, List.set_cons_succ, i64_w, i32_w]
                  rfl
                 refine last_ (i := 13) (N := none) #[true, true, true, true, true, true, true, true, true, true, true, true, true, true] rfl rfl (one_of HT_.out (by kernel_rfl)) (by decide) (fun K hK => ?_)
                 refine skip_ (w1 := ?_) (by rfl) rfl ?_ ?_
                 rotate_left
                 ·
                  go_simp
                  rfl
                 refine hK.out _ _ ?_
                 clear hK K
                 refine done_ (done_of HT_.out (by kernel_rfl)) ?_
                 try go_wp2
                 (try simp only [← hl3_2])
                 go_roundg k2
                 case measure => have := HK1.out; have := HK2.out; omega
                 case rel => exact ⟨(y200), (wrap64 (x22_2 + 1)), (by first | rfl | (simp; done) | (simp [*]; done)), H', ⟨by have := HK1.out; have := HK2.out; omega⟩, ⟨by (try simp only [hl3_1]); (try simp only [hl3_2]); (with_reducible repeat (first | apply Kd.S_alloc | apply Kd.S_drewN | apply Kd.S_drew)); exact HQ22.out⟩, ⟨by repeat (first | (with_reducible first | exact HB.out | apply below_alloc | apply pw_below_drewN | apply below_drew1 | refine below_set ?_ GB20.out) | exact HB.out)⟩⟩
                ·
                 rw [if_neg c17] at H
                 exact absurd H (by simp)
               ·
                rw [if_neg c16] at H
                exact absurd H (by simp)
              ·
               rw [if_neg c15] at H
               exact absurd H (by simp)
             ·
              rw [if_neg c14] at H
              exact absurd H (by simp)
            ·
             rw [if_neg c13] at H
             exact absurd H (by simp)
           ·
            rw [if_neg c12] at H
            exact absurd H (by simp)
          ·
           rw [if_neg c11] at H
           have c11b0 : decide (x22_2 < (l0.length : Int)) = false := decide_eq_false c11
           clear c11
           have H' := Aside0.mk H
           clear H
           go_wp2
           (try simp only [← hl3_1, ← hl3_2])
           go_roundg k2
           case measure => have := HK1.out; have := HK2.out; omega
           case rel => exact ⟨(x3_2), (wrap64 (x17_1 + 1)), (by first | rfl | (simp; done) | (simp [*]; done)), H', ⟨by have := HK1.out; have := HK2.out; omega⟩, ⟨by (try simp only [hl3_1]); (try simp only [hl3_2]); (with_reducible repeat (first | apply Kd.S_alloc | apply Kd.S_drewN | apply Kd.S_drew)); exact HO_3.out⟩, ⟨by repeat (first | (with_reducible first | exact HB.out | apply below_alloc | apply pw_below_drewN | apply below_drew1) | exact HB.out)⟩⟩
       ·
        rw [if_neg c10] at H
        have c10b0 : decide (x17_1 < (y191.length : Int)) = false := decide_eq_false c10
        have c10b9 : decide (x17_1 < (x3_1.length : Int)) = false := by rw [← hl3_1]; exact c10b0
        clear c10
        obtain rfl := Option.some.inj H
        go_wp2
        go_ret
        exact ⟨_, by first | rfl | (simp [errW_none, errW_some] <;> rfl) | (simp [*, errW_none, errW_some] <;> rfl), by (with_reducible repeat (first | apply Kd.S_alloc | apply Kd.S_drewN | apply Kd.S_drew)); exact HO_3.out, by repeat (first | (with_reducible first | exact HB.out | apply below_alloc | apply pw_below_drewN | apply below_drew1) | exact HB.out)⟩
    ·
     rw [if_neg c6] at H
     exact absurd H (by simp)
   ·
    rw [if_neg c5] at H
    exact absurd H (by simp)
  ·
   rw [if_neg c4] at H
   exact absurd H (by simp)
 ·
  replace c3 := Bool.eq_false_iff.mpr c3
  subst c3
  have H1 : (some ([] : List (List Int))) = some r := by rw [if_neg (show ¬ (false = true) by decide)] at H; exact H
  clear H
  have H := H1
  clear H1
  obtain rfl := Option.some.inj H
  go_enter Try.func19, Try.ntmps19
  go_wp2_with (first | ((with_reducible refine gate_callee (f := 18) rfl ?_); refine goesL_ (some 8) rfl rfl Try.func18 (by kernel_rfl) rfl #[.slice A0 l0.length c0] rfl (by (try simp only [List.map_toArray, List.map_cons, List.map_nil]); first | done | rfl | (simp only [List.length_drop, List.length_take]; rfl)) ?_; (with_reducible refine (matrix_Valid.calls k _ _ l0 false _ ?side1 ?side2 A2.out).mono ?_); (case side1 => repeat (first | exact HR0.out | (with_reducible refine Kd.C_alloc ?_ _) | (with_reducible refine Kd.C_drewN ?_ _) | (with_reducible refine Kd.C_drew ?_))); (case side2 => exact HC0.out); rintro e w' ⟨rfl, ⟨nd, rfl⟩⟩; refine ⟨_, rfl, ?_⟩))
  go_ret
  exact ⟨_, by first | rfl | (simp [errW_none, errW_some] <;> rfl) | (simp [*, errW_none, errW_some] <;> rfl), by first | exact Kd.S_nil _ _ _ _ _ | exact Kd.N_nil _ _ _ _ _ | exact Kd.V_nil _ _ _ _ _ | exact Kd.Q_nil _ _ _ _ _ | exact Kd.R_nil _ _ _ _ _, by repeat (first | (with_reducible first | exact HB.out | apply below_alloc | apply pw_below_drewN | apply below_drew1) | exact HB.out)⟩

end Go.Proofs.Ytckefohfahphpaa.Z
end
section
namespace Go.Proofs.Ytckefohfahphpaa.Z
open Go.RowKit Go.Proofs.YtckefohfahphpaaW.PrintWords Go.Proofs.YtckefohfahphpaaW.PrintLast Go.Proofs.YtckefohfahphpaaW.PrintMore
attribute [local go_sem] max2_int min2_int max_two min_two max_three min_three max_four min_four   -- for this text's walks alone
set_option linter.unusedVariables false
set_option linter.unusedSimpArgs false

/-! ### petrinetref08_column: function 35 -/
def petrinetref08_column.l0 : Nat → List (List Int) → Int → List Int → Int → Option (List Int)
 | 0, _, _, _, _ => none
 | k + 1, x0, x1, x5, x6 => if x6 < (x0.length : Int) then (if 0 ≤ x6 then (if 0 ≤ x1 then (if x1 < ((rd_L1 x0 x6).length : Int) then (if x5.length < 17592186044416 then (petrinetref08_column.l0 k x0 x1 (x5 ++ [rd (rd_L1 x0 x6) x1]) (wrap64 (x6 + 1))) else (none)) else (none)) else (none)) else (none)) else (some x5)
def petrinetref08_column.f (k : Nat) (l0 : List (List Int)) (a1 : Int) : Option (List Int) := petrinetref08_column.l0 k l0 a1 ([] : List Int) 0
theorem petrinetref08_column.mono_l : ∀ k, (∀ y0 y1 y2 y3, LeO (petrinetref08_column.l0 k y0 y1 y2 y3) (petrinetref08_column.l0 (k + 1) y0 y1 y2 y3))
 | 0 => fun _ _ _ _ r h => by simp [petrinetref08_column.l0] at h
 | k + 1 => by
  have ih0 := petrinetref08_column.mono_l k
  ·
   intro y0 y1 y2 y3
   unfold petrinetref08_column.l0
   repeat' first
   | (with_reducible exact ih0 _ _ _ _)
   | (with_reducible exact LeO.refl _)
   | (with_reducible exact LeO.none _)
   | (with_reducible refine LeO.ite ?_ ?_)
   | (with_reducible refine LeO.bind ?_ (fun _ => ?_))
   | exact ih0 _ _ _ _
   | exact LeO.none _
   | refine LeO.ite ?_ ?_
   | refine LeO.bind ?_ (fun _ => ?_)
theorem petrinetref08_column.mono : ∀ a0 a1 k, LeO (petrinetref08_column.f k a0 a1) (petrinetref08_column.f (k + 1) a0 a1) := by
 intro a0 a1 k
 have ih0 := petrinetref08_column.mono_l k
 unfold petrinetref08_column.f
 repeat' first
   | (with_reducible exact ih0 _ _ _ _)
   | (with_reducible exact LeO.refl _)
   | (with_reducible exact LeO.none _)
   | (with_reducible refine LeO.ite ?_ ?_)
   | (with_reducible refine LeO.bind ?_ (fun _ => ?_))
   | exact ih0 _ _ _ _
   | exact LeO.none _
   | refine LeO.ite ?_ ?_
   | refine LeO.bind ?_ (fun _ => ?_)
set_option maxHeartbeats 8000000 in
set_option maxRecDepth 100000 in
theorem petrinetref08_column.calls (k : Nat) (A0 : Option Addr) (c0 : Nat) (l0 : List (List Int)) (a1 : Int) (r : List Int) (w : World) (hr0 : Kd.C (Kd.slice 2 (Kd.int .i64)) w A0 l0.length l0) (hc0 : l0.length ≤ c0) (h : petrinetref08_column.f k l0 a1 = some r) :
  Calls Try.prog 35 #[.slice A0 l0.length c0, .int .i64 a1] w fun e w' => ∃ v0_ : Value, e = .returned (v0_) ∧ Kd.R (Kd.int .i64) 2 w' w.heap.size (fun _ => True) v0_ r ∧ Below w.heap.size w w' := by
 have HR0 := Aside0.mk hr0
 have HC0 := Aside0.mk hc0
 clear hr0 hc0
 have HB := Aside0.mk (Below.refl w.heap.size w)
 have H : (petrinetref08_column.l0 k l0 a1 ([] : List Int) 0) = some r := h
 clear h
 have H' := Aside0.mk H
 clear H
 go_enter Try.func35, Try.ntmps35
 go_wp2
 go_loopg [5, 6] k (fun kq v5 v6 w' => ∃ (x5_1 : List Int) (x6_1 : Int), v6 = .int .i64 x6_1 ∧ Aside0 (petrinetref08_column.l0 kq l0 a1 x5_1 x6_1 = some r) ∧ Aside0 (kq ≤ k) ∧ Aside0 (Kd.R (Kd.int .i64) 2 w' w.heap.size (fun _ => True) v5 x5_1) ∧ Aside0 (Below w.heap.size w w'))
 case atStart => exact ⟨(([] : List Int)), (0), (by first | rfl | (simp; done) | (simp [*]; done)), H', ⟨Nat.le_refl _⟩, ⟨by first | exact Kd.R_nil _ _ _ _ _ | exact Kd.N_nil _ _ _ _ _ | exact Kd.V_nil _ _ _ _ _ | exact Kd.Q_nil _ _ _ _ _ | exact Kd.S_nil _ _ _ _ _⟩, ⟨by repeat (first | (with_reducible first | exact HB.out | apply below_alloc | apply pw_below_drewN | apply below_drew1) | exact HB.out)⟩⟩
 case round =>
  clear H'
  try clear p2
  obtain ⟨x5_1, x6_1, rfl, HA, HK1, HO_5, HB⟩ := hrel
  cases gk with
  | zero => exact absurd HA.out (by simp [petrinetref08_column.l0])
  | succ k1 =>
   have H := HA.out
   clear HA
   simp only [petrinetref08_column.l0] at H
   by_cases c3 : x6_1 < (l0.length : Int)
   ·
    rw [if_pos c3] at H
    have c3b0 : decide (x6_1 < (l0.length : Int)) = true := decide_eq_true c3
    clear c3
    by_cases c4 : 0 ≤ x6_1
    ·
     rw [if_pos c4] at H
     have c4b0 : decide (0 ≤ x6_1) = true := decide_eq_true c4
     clear c4
     by_cases c5 : 0 ≤ a1
     ·
      rw [if_pos c5] at H
      have c5b0 : decide (0 ≤ a1) = true := decide_eq_true c5
      clear c5
      by_cases c6 : a1 < ((rd_L1 l0 x6_1).length : Int)
      ·
       rw [if_pos c6] at H
       have c6b0 : decide (a1 < ((rd_L1 l0 x6_1).length : Int)) = true := decide_eq_true c6
       clear c6
       by_cases c7 : x5_1.length < 17592186044416
       ·
        rw [if_pos c7] at H
        have LMc7 := Aside0.mk c7
        clear c7
        obtain ⟨y203, hy203⟩ : ∃ y_ : List Int, y_ = (x5_1 ++ [rd (rd_L1 l0 x6_1) a1]) := ⟨_, rfl⟩
        replace H : (petrinetref08_column.l0 k1 l0 a1 y203 (wrap64 (x6_1 + 1))) = some r := by first | (rw [hy203]; with_reducible exact H) | (have H2_ := (Option.bind_some _ _).symm.trans H; rw [hy203]; with_reducible exact H2_) | (have H2_ := (Option.bind_some _ _).symm.trans H; with_reducible exact H2_) | with_reducible exact H | (rw [hy203]; exact H) | exact H
        have Ny203 := Aside0.mk hy203
        clear hy203
        have H' := Aside0.mk H
        clear H
        have p201 : 0 ≤ (x6_1 : Int) := of_decide_eq_true (by first | (with_reducible assumption) | assumption)
        have q201 : x6_1 < (l0.length : Int) := of_decide_eq_true (by first | (with_reducible assumption) | assumption)
        obtain ⟨ad201, A201_0, c201_0, e201, hx201_0, hl201_0, hi201_0⟩ := at_L1 HR0.out x6_1 p201 q201
        cases e201
        replace hx201_0 := (HB.out.cell (World.block_lt_of_cell? w _ hx201_0)).trans hx201_0
        have HR201_0 := Aside0.mk hi201_0
        have HC201_0 := Aside0.mk hl201_0
        clear hi201_0 hl201_0
        replace p201 := eq_true p201
        replace q201 := eq_true q201
        have p202 : 0 ≤ (a1 : Int) := of_decide_eq_true (by first | (with_reducible assumption) | assumption)
        have q202 : a1 < ((rd_L1 l0 x6_1).length : Int) := of_decide_eq_true (by first | (with_reducible assumption) | assumption)
        obtain ⟨ad202, e202, hx202_0⟩ := Kd.at_int HR201_0.out a1 p202 q202
        cases e202
        replace hx202_0 := (HB.out.cell (World.block_lt_of_cell? w _ hx202_0)).trans hx202_0
        replace p202 := eq_true p202
        replace q202 := eq_true q202
        go_wp2_with (first | ((with_reducible refine gate_builtin (b := .append) (xs := #[.tmp 13, .tmp 21]) rfl ?_); at_builtin; refine Kd.R_append (Kd.int .i64) (w0 := w) w.heap.size rfl (.tmp 13) (.tmp 21) 33 2 (.int .i64 0) 8 rfl Try.underlying33 info2 rfl (by decide) (by omega) u5 x5_1 (rd (rd_L1 l0 x6_1) a1) [.int .i64 (rd (rd_L1 l0 x6_1) a1)] (fun _ => True) (fun _ => False) rfl rfl ?aP (fun _ hk => hk.elim) ?aF ?aO ?aB ?aS ?aL ?_; (case aP => exact rfl); (case aB => exact (by repeat (first | (with_reducible first | exact HB.out | apply below_alloc | apply pw_below_drewN | apply below_drew1) | exact HB.out))); (case aF => exact (fun _ _ => trivial)); (case aO => exact (by (with_reducible repeat (first | apply Kd.R_alloc | apply Kd.R_drewN | apply Kd.R_drew)); exact HO_5.out)); (case aS => exact (below_size (by repeat (first | (with_reducible first | exact HB.out | apply below_alloc | apply pw_below_drewN | apply below_drew1) | exact HB.out)))); (case aL => have := LMc7.out; omega); intro v204 w8 ho hb hg hat; rw [← Ny203.out] at ho; have n0_ := Aside0.mk (hb); have n1_ := Aside0.mk (ho); clear HB; clear HO_5; have HB := n0_; have HO205 := n1_; clear n0_ n1_; clear ho hb hg hat))
        go_roundg k1
        case measure => have := HK1.out; omega
        case rel => exact ⟨(y203), (wrap64 (x6_1 + 1)), (by first | rfl | (simp; done) | (simp [*]; done)), H', ⟨by have := HK1.out; omega⟩, ⟨by (with_reducible repeat (first | apply Kd.R_alloc | apply Kd.R_drewN | apply Kd.R_drew)); exact HO205.out⟩, ⟨by repeat (first | (with_reducible first | exact HB.out | apply below_alloc | apply pw_below_drewN | apply below_drew1) | exact HB.out)⟩⟩
       ·
        rw [if_neg c7] at H
        exact absurd H (by simp)
      ·
       rw [if_neg c6] at H
       exact absurd H (by simp)
     ·
      rw [if_neg c5] at H
      exact absurd H (by simp)
    ·
     rw [if_neg c4] at H
     exact absurd H (by simp)
   ·
    rw [if_neg c3] at H
    have c3b0 : decide (x6_1 < (l0.length : Int)) = false := decide_eq_false c3
    clear c3
    obtain rfl := Option.some.inj H
    go_wp2
    go_ret
    exact ⟨_, by first | rfl | (simp [errW_none, errW_some] <;> rfl) | (simp [*, errW_none, errW_some] <;> rfl), by (with_reducible repeat (first | apply Kd.R_alloc | apply Kd.R_drewN | apply Kd.R_drew)); exact HO_5.out, by repeat (first | (with_reducible first | exact HB.out | apply below_alloc | apply pw_below_drewN | apply below_drew1) | exact HB.out)⟩

end Go.Proofs.Ytckefohfahphpaa.Z
end
