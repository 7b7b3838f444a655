/- The machine's side: plain Lean functions for the Go functions, each with its contract. Written by a program of this session (wip/xprint.py). -/
import Derived.Test.YtojpjknjoikdgaaZx0
import Derived.Test.YtojpjknjoikdgaaZx1
import Derived.Test.YtojpjknjoikdgaaZx10
namespace Go.Proofs.Ytojpjknjoikdgaa.Z
open Go.RowKit Go.Proofs.YtojpjknjoikdgaaW.PrintWords Go.Proofs.YtojpjknjoikdgaaW.PrintLast Go.Proofs.YtojpjknjoikdgaaW.PrintMore
attribute [local go_sem] max2_int min2_int max_two min_two max_three min_three max_four min_four   -- for this text's walks alone
set_option linter.unusedVariables false
set_option linter.unusedSimpArgs false

/-! ### petrinetref01_Plus: function 46, by hand -/
def petrinetref01_Plus.f (a0 a1 : Int) : Option (Bool × Int × Int) := if in64 a0 ∧ in64 a1 then some (decide (a0 + a1 < 0), ((a0 + a1).natAbs : Int) / 18446744073709551616, ((a0 + a1).natAbs : Int) % 18446744073709551616) else none
theorem petrinetref01_Plus.abs (a : Int) (h : in64 a) : petrinetref01_Abs.f a = some (a.natAbs : Int) := by
  obtain ⟨h1, h2⟩ := h
  unfold petrinetref01_Abs.f
  by_cases hn : a < 0
  · rw [if_pos hn]
    congr 1
    simp only [wrap_u64]
    unfold wrap64
    omega
  · rw [if_neg hn]
    congr 1
    rw [wrap_u64]
    omega
theorem petrinetref01_Plus.agg {n n' : Bool} {h h' l l' : Int} (e1 : n = n') (e2 : h = h') (e3 : l = l') : Value.agg #[.bool n, .int .u64 h, .int .u64 l] = Value.agg #[.bool n', .int .u64 h', .int .u64 l'] := by rw [e1, e2, e3]
set_option maxHeartbeats 8000000 in
set_option maxRecDepth 100000 in
theorem petrinetref01_Plus.calls (a0 : Int) (a1 : Int) (r1 : Bool) (r2 : Int) (r3 : Int) (w : World) (h : petrinetref01_Plus.f a0 a1 = some (r1, r2, r3)) :
    Calls Try.prog 46 #[.int .i64 a0, .int .i64 a1] w fun e w' => e = .returned (.agg #[.bool r1, .int .u64 r2, .int .u64 r3]) ∧ Below w.heap.size w w' := by
  have hg : in64 a0 ∧ in64 a1 := by
    unfold petrinetref01_Plus.f at h
    split at h
    · assumption
    · cases h
  unfold petrinetref01_Plus.f at h
  rw [if_pos hg] at h
  simp only [Option.some.injEq, Prod.mk.injEq] at h
  obtain ⟨h1, h2, h3⟩ := h
  have A0 := Aside0.mk (petrinetref01_Plus.abs a0 hg.1)
  have A1 := Aside0.mk (petrinetref01_Plus.abs a1 hg.2)
  have HG := Aside0.mk hg
  have H1 := Aside0.mk h1
  have H2 := Aside0.mk h2
  have H3 := Aside0.mk h3
  clear h1 h2 h3 hg
  by_cases n0 : a0 < 0
  · have d0 : decide (a0 < 0) = true := decide_eq_true n0
    have N0 := Aside0.mk n0
    clear n0
    by_cases n1 : a1 < 0
    · have d1 : decide (a1 < 0) = true := decide_eq_true n1
      have N1 := Aside0.mk n1
      clear n1
      have e1 : (decide (a0 < 0) == decide (a1 < 0)) = true := by rw [d0, d1]; rfl
      by_cases hc_ : IntKind.u64.wrap ((a0.natAbs : Int) + (a1.natAbs : Int)) < (a0.natAbs : Int)
      · have HO := Aside0.mk hc_
        have d2 : decide (IntKind.u64.wrap ((a0.natAbs : Int) + (a1.natAbs : Int)) < (a0.natAbs : Int)) = true := decide_eq_true hc_
        clear hc_
        go_enter Try.func46, Try.ntmps46
        go_wp2_with (fail)
        refine (petrinetref01_Abs.calls a0 _ _ A0.out).mono ?_
        rintro e w1 ⟨rfl, ⟨⟨n1, rfl⟩⟩⟩
        go_wp2_with (fail)
        refine (petrinetref01_Abs.calls a1 _ _ A1.out).mono ?_
        rintro e w2 ⟨rfl, ⟨⟨n2, rfl⟩⟩⟩
        go_wp2
        refine bodyPost_ret (v := .agg #[.bool r1, .int .u64 r2, .int .u64 r3]) ?_ rfl ⟨rfl, ?_⟩
        · simp [results, Try.results46, go_sem]
          have g0 := HG.out.1
          have g1 := HG.out.2
          have N0' := N0.out
          have N1' := N1.out
          have HO' := HO.out
          simp only [wrap_u64] at HO' ⊢
          unfold in64 at g0 g1
          refine ⟨?_, ?_, ?_⟩
          · rw [← H1.out]; simp; omega
          · rw [← H2.out]; omega
          · rw [← H3.out]; omega
        · skip
          repeat (first | exact Below.refl _ _ | apply below_alloc | apply pw_below_drewN | apply below_drew1 | refine below_set ?_ (Nat.le_refl _))
      · have HO := Aside0.mk hc_
        have d2 : decide (IntKind.u64.wrap ((a0.natAbs : Int) + (a1.natAbs : Int)) < (a0.natAbs : Int)) = false := decide_eq_false hc_
        clear hc_
        go_enter Try.func46, Try.ntmps46
        go_wp2_with (fail)
        refine (petrinetref01_Abs.calls a0 _ _ A0.out).mono ?_
        rintro e w1 ⟨rfl, ⟨⟨n1, rfl⟩⟩⟩
        go_wp2_with (fail)
        refine (petrinetref01_Abs.calls a1 _ _ A1.out).mono ?_
        rintro e w2 ⟨rfl, ⟨⟨n2, rfl⟩⟩⟩
        go_wp2
        refine bodyPost_ret (v := .agg #[.bool r1, .int .u64 r2, .int .u64 r3]) ?_ rfl ⟨rfl, ?_⟩
        · simp [results, Try.results46, go_sem]
          have g0 := HG.out.1
          have g1 := HG.out.2
          have N0' := N0.out
          have N1' := N1.out
          have HO' := HO.out
          simp only [wrap_u64] at HO' ⊢
          unfold in64 at g0 g1
          refine ⟨?_, ?_, ?_⟩
          · rw [← H1.out]; simp; omega
          · rw [← H2.out]; omega
          · rw [← H3.out]; omega
        · skip
          repeat (first | exact Below.refl _ _ | apply below_alloc | apply pw_below_drewN | apply below_drew1 | refine below_set ?_ (Nat.le_refl _))
    · have d1 : decide (a1 < 0) = false := decide_eq_false n1
      have N1 := Aside0.mk n1
      clear n1
      have e1 : (decide (a0 < 0) == decide (a1 < 0)) = false := by rw [d0, d1]; rfl
      by_cases hc_ : a0.natAbs < a1.natAbs
      · have HO := Aside0.mk hc_
        have d2 : decide (a0.natAbs < a1.natAbs) = true := decide_eq_true hc_
        clear hc_
        go_enter Try.func46, Try.ntmps46
        go_wp2_with (fail)
        refine (petrinetref01_Abs.calls a0 _ _ A0.out).mono ?_
        rintro e w1 ⟨rfl, ⟨⟨n1, rfl⟩⟩⟩
        go_wp2_with (fail)
        refine (petrinetref01_Abs.calls a1 _ _ A1.out).mono ?_
        rintro e w2 ⟨rfl, ⟨⟨n2, rfl⟩⟩⟩
        go_wp2
        refine bodyPost_ret (v := .agg #[.bool r1, .int .u64 r2, .int .u64 r3]) ?_ rfl ⟨rfl, ?_⟩
        · simp [results, Try.results46, go_sem]
          have g0 := HG.out.1
          have g1 := HG.out.2
          have N0' := N0.out
          have N1' := N1.out
          have HO' := HO.out
          simp only [wrap_u64] at HO' ⊢
          unfold in64 at g0 g1
          refine ⟨?_, ?_, ?_⟩
          · rw [← H1.out]; simp; omega
          · rw [← H2.out]; omega
          · rw [← H3.out]; omega
        · skip
          repeat (first | exact Below.refl _ _ | apply below_alloc | apply pw_below_drewN | apply below_drew1 | refine below_set ?_ (Nat.le_refl _))
      · have HO := Aside0.mk hc_
        have d2 : decide (a0.natAbs < a1.natAbs) = false := decide_eq_false hc_
        clear hc_
        have d3 : decide ((a1.natAbs : Int) < (a0.natAbs : Int)) = decide ((a1.natAbs : Int) < (a0.natAbs : Int)) := rfl
        clear d3
        go_enter Try.func46, Try.ntmps46
        go_wp2_with (fail)
        refine (petrinetref01_Abs.calls a0 _ _ A0.out).mono ?_
        rintro e w1 ⟨rfl, ⟨⟨n1, rfl⟩⟩⟩
        go_wp2_with (fail)
        refine (petrinetref01_Abs.calls a1 _ _ A1.out).mono ?_
        rintro e w2 ⟨rfl, ⟨⟨n2, rfl⟩⟩⟩
        go_wp2
        refine bodyPost_ret (v := .agg #[.bool r1, .int .u64 r2, .int .u64 r3]) ?_ rfl ⟨rfl, ?_⟩
        · simp [results, Try.results46, go_sem]
          have g0 := HG.out.1
          have g1 := HG.out.2
          have N0' := N0.out
          have N1' := N1.out
          have HO' := HO.out
          simp only [wrap_u64] at HO' ⊢
          unfold in64 at g0 g1
          refine ⟨?_, ?_, ?_⟩
          · rw [← H1.out]; simp; omega
          · rw [← H2.out]; omega
          · rw [← H3.out]; omega
        · skip
          repeat (first | exact Below.refl _ _ | apply below_alloc | apply pw_below_drewN | apply below_drew1 | refine below_set ?_ (Nat.le_refl _))
  · have d0 : decide (a0 < 0) = false := decide_eq_false n0
    have N0 := Aside0.mk n0
    clear n0
    by_cases n1 : a1 < 0
    · have d1 : decide (a1 < 0) = true := decide_eq_true n1
      have N1 := Aside0.mk n1
      clear n1
      have e1 : (decide (a0 < 0) == decide (a1 < 0)) = false := by rw [d0, d1]; rfl
      by_cases hc_ : a0.natAbs < a1.natAbs
      · have HO := Aside0.mk hc_
        have d2 : decide (a0.natAbs < a1.natAbs) = true := decide_eq_true hc_
        clear hc_
        go_enter Try.func46, Try.ntmps46
        go_wp2_with (fail)
        refine (petrinetref01_Abs.calls a0 _ _ A0.out).mono ?_
        rintro e w1 ⟨rfl, ⟨⟨n1, rfl⟩⟩⟩
        go_wp2_with (fail)
        refine (petrinetref01_Abs.calls a1 _ _ A1.out).mono ?_
        rintro e w2 ⟨rfl, ⟨⟨n2, rfl⟩⟩⟩
        go_wp2
        refine bodyPost_ret (v := .agg #[.bool r1, .int .u64 r2, .int .u64 r3]) ?_ rfl ⟨rfl, ?_⟩
        · simp [results, Try.results46, go_sem]
          have g0 := HG.out.1
          have g1 := HG.out.2
          have N0' := N0.out
          have N1' := N1.out
          have HO' := HO.out
          simp only [wrap_u64] at HO' ⊢
          unfold in64 at g0 g1
          refine ⟨?_, ?_, ?_⟩
          · rw [← H1.out]; simp; omega
          · rw [← H2.out]; omega
          · rw [← H3.out]; omega
        · skip
          repeat (first | exact Below.refl _ _ | apply below_alloc | apply pw_below_drewN | apply below_drew1 | refine below_set ?_ (Nat.le_refl _))
      · have HO := Aside0.mk hc_
        have d2 : decide (a0.natAbs < a1.natAbs) = false := decide_eq_false hc_
        clear hc_
        go_enter Try.func46, Try.ntmps46
        go_wp2_with (fail)
        refine (petrinetref01_Abs.calls a0 _ _ A0.out).mono ?_
        rintro e w1 ⟨rfl, ⟨⟨n1, rfl⟩⟩⟩
        go_wp2_with (fail)
        refine (petrinetref01_Abs.calls a1 _ _ A1.out).mono ?_
        rintro e w2 ⟨rfl, ⟨⟨n2, rfl⟩⟩⟩
        go_wp2
        refine bodyPost_ret (v := .agg #[.bool r1, .int .u64 r2, .int .u64 r3]) ?_ rfl ⟨rfl, ?_⟩
        · simp [results, Try.results46, go_sem]
          have g0 := HG.out.1
          have g1 := HG.out.2
          have N0' := N0.out
          have N1' := N1.out
          have HO' := HO.out
          simp only [wrap_u64] at HO' ⊢
          unfold in64 at g0 g1
          refine ⟨?_, ?_, ?_⟩
          · rw [← H1.out]; simp; omega
          · rw [← H2.out]; omega
          · rw [← H3.out]; omega
        · skip
          repeat (first | exact Below.refl _ _ | apply below_alloc | apply pw_below_drewN | apply below_drew1 | refine below_set ?_ (Nat.le_refl _))
    · have d1 : decide (a1 < 0) = false := decide_eq_false n1
      have N1 := Aside0.mk n1
      clear n1
      have e1 : (decide (a0 < 0) == decide (a1 < 0)) = true := by rw [d0, d1]; rfl
      by_cases hc_ : IntKind.u64.wrap ((a0.natAbs : Int) + (a1.natAbs : Int)) < (a0.natAbs : Int)
      · exact absurd hc_ (by have g0 := HG.out.1; have g1 := HG.out.2; have N0' := N0.out; have N1' := N1.out; unfold in64 at g0 g1; rw [wrap_u64]; omega)
      · have HO := Aside0.mk hc_
        have d2 : decide (IntKind.u64.wrap ((a0.natAbs : Int) + (a1.natAbs : Int)) < (a0.natAbs : Int)) = false := decide_eq_false hc_
        clear hc_
        go_enter Try.func46, Try.ntmps46
        go_wp2_with (fail)
        refine (petrinetref01_Abs.calls a0 _ _ A0.out).mono ?_
        rintro e w1 ⟨rfl, ⟨⟨n1, rfl⟩⟩⟩
        go_wp2_with (fail)
        refine (petrinetref01_Abs.calls a1 _ _ A1.out).mono ?_
        rintro e w2 ⟨rfl, ⟨⟨n2, rfl⟩⟩⟩
        go_wp2
        refine bodyPost_ret (v := .agg #[.bool r1, .int .u64 r2, .int .u64 r3]) ?_ rfl ⟨rfl, ?_⟩
        · simp [results, Try.results46, go_sem]
          have g0 := HG.out.1
          have g1 := HG.out.2
          have N0' := N0.out
          have N1' := N1.out
          have HO' := HO.out
          simp only [wrap_u64] at HO' ⊢
          unfold in64 at g0 g1
          refine ⟨?_, ?_, ?_⟩
          · rw [← H1.out]; simp; omega
          · rw [← H2.out]; omega
          · rw [← H3.out]; omega
        · skip
          repeat (first | exact Below.refl _ _ | apply below_alloc | apply pw_below_drewN | apply below_drew1 | refine below_set ?_ (Nat.le_refl _))

/-! ### petrinetref01_Add: function 40 -/
def petrinetref01_Add.f (k : Nat) (a0 : Int) (a1 : Int) : Option (Int × Bool) := (petrinetref01_Plus.f a0 a1).bind fun bt233 => ((petrinetref01_Narrow.f k bt233.1 bt233.2.1 bt233.2.2).bind fun bt236 => (some (bt236.1, bt236.2)))
theorem petrinetref01_Add.mono : ∀ a0 a1 k, LeO (petrinetref01_Add.f k a0 a1) (petrinetref01_Add.f (k + 1) a0 a1) := by
  intro a0 a1 k
  unfold petrinetref01_Add.f
  repeat' first
      | (with_reducible exact petrinetref01_Narrow.mono _ _ _ _)
      | (with_reducible exact LeO.refl _)
      | (with_reducible exact LeO.none _)
      | (with_reducible refine LeO.ite ?_ ?_)
      | (with_reducible refine LeO.bind ?_ (fun _ => ?_))
      | exact petrinetref01_Narrow.mono _ _ _ _
      | exact LeO.none _
      | refine LeO.ite ?_ ?_
      | refine LeO.bind ?_ (fun _ => ?_)
set_option maxHeartbeats 8000000 in
set_option maxRecDepth 100000 in
theorem petrinetref01_Add.calls (k : Nat) (a0 : Int) (a1 : Int) (r1 : Int) (r2 : Bool) (w : World) (h : petrinetref01_Add.f k a0 a1 = some (r1, r2)) :
    Calls Try.prog 40 #[.int .i64 a0, .int .i64 a1] w fun e w' => e = .returned (.tuple #[.int .i64 r1, .bool r2]) ∧ Below w.heap.size w w' := by
  have HB := Aside0.mk (Below.refl w.heap.size w)
  have H : ((petrinetref01_Plus.f a0 a1).bind fun bt233 => ((petrinetref01_Narrow.f k bt233.1 bt233.2.1 bt233.2.2).bind fun bt236 => (some (bt236.1, bt236.2)))) = some (r1, r2) := h
  clear h
  replace H := Option.bind_eq_some_iff.mp H
  obtain ⟨⟨t233, t234, t235⟩, A30, H⟩ := H
  replace H : ((petrinetref01_Narrow.f k t233 t234 t235).bind fun bt236 => (some (bt236.1, bt236.2))) = some (r1, r2) := H
  have A3 := Aside0.mk A30
  clear A30
  replace H := Option.bind_eq_some_iff.mp H
  obtain ⟨⟨t236, t237⟩, A40, H⟩ := H
  replace H : (some (t236, t237)) = some (r1, r2) := H
  have A4 := Aside0.mk A40
  clear A40
  simp only [Option.some.injEq, Prod.mk.injEq] at H
  obtain ⟨rfl, rfl⟩ := H
  go_enter Try.func40, Try.ntmps40
  go_wp2_with (first | ((with_reducible refine gate_callee (f := 46) rfl ?_); refine goesL_ (some 8) rfl rfl Try.func46 (by kernel_rfl) rfl #[.int .i64 a0, .int .i64 a1] rfl (by (try simp only [List.map_toArray, List.map_cons, List.map_nil]); first | done | rfl | (simp only [List.length_drop, List.length_take]; rfl)) ?_; (with_reducible refine (petrinetref01_Plus.calls a0 a1 t233 t234 t235 _ A3.out).mono ?_); rintro e w5 ⟨rfl, hb⟩; refine ⟨_, rfl, ?_⟩; have n0_ := Aside0.mk (below_step (by repeat (first | (with_reducible first | exact HB.out | apply below_alloc | apply pw_below_drewN | apply below_drew1) | exact HB.out)) hb); clear HB; have HB := n0_; clear n0_; (try clear hb); (try clear hb2); (try clear hk); (try clear hi)) | ((with_reducible refine gate_callee (f := 45) rfl ?_); refine goesL_ (some 9) rfl rfl Try.func45 (by kernel_rfl) rfl #[.agg #[.bool t233, .int .u64 t234, .int .u64 t235]] rfl (by (try simp only [List.map_toArray, List.map_cons, List.map_nil]); first | done | rfl | (simp only [List.length_drop, List.length_take]; rfl)) ?_; (with_reducible refine (petrinetref01_Narrow.calls k t233 t234 t235 t236 t237 _ A4.out).mono ?_); rintro e w6 ⟨rfl, hb⟩; refine ⟨_, rfl, ?_⟩; have n0_ := Aside0.mk (below_step (by repeat (first | (with_reducible first | exact HB.out | apply below_alloc | apply pw_below_drewN | apply below_drew1) | exact HB.out)) hb); clear HB; have HB := n0_; clear n0_; (try clear hb); (try clear hb2); (try clear hk); (try clear hi)))
  go_ret2
  exact ⟨by first | rfl | (simp [errW_none, errW_some] <;> rfl) | (simp [*, errW_none, errW_some] <;> rfl), by repeat (first | (with_reducible first | exact HB.out | apply below_alloc | apply pw_below_drewN | apply below_drew1) | exact HB.out)⟩

end Go.Proofs.Ytojpjknjoikdgaa.Z
