/- The machine's side: plain Lean functions for the Go functions, each with its contract. Written by a program of this session (wip/xprint.py). -/
import Derived.Test.YtckefohfahphpaaZx0
import Derived.Test.YtckefohfahphpaaZx1
namespace Go.Proofs.Ytckefohfahphpaa.Z
open Go.RowKit Go.Proofs.YtckefohfahphpaaW.PrintWords Go.Proofs.YtckefohfahphpaaW.PrintLast Go.Proofs.YtckefohfahphpaaW.PrintMore
attribute [local go_sem] max2_int min2_int max_two min_two max_three min_three max_four min_four   -- for this text's walks alone
set_option linter.unusedVariables false
set_option linter.unusedSimpArgs false

/-! ### vector_each: function 53, by hand -/
set_option maxHeartbeats 8000000 in
set_option maxRecDepth 100000 in
theorem vector_each.calls (f : Nat) (caps : Array Value) (g : Int → Int → Option (Int × Bool)) (A0 : Option Addr) (c0 : Nat) (l0 : List Int) (A1 : Option Addr) (c1 : Nat) (l1 : List Int) (r1 : List Int) (r2 : Int) (w : World)
    (hr0 : Kd.C (Kd.int .i64) w A0 l0.length l0) (hc0 : l0.length ≤ c0) (hr1 : Kd.C (Kd.int .i64) w A1 l1.length l1) (hc1 : l1.length ≤ c1)
    {fn : Func} (hfn : Try.prog.funcs[f]? = some fn) (hname : (fn.name == "runtime.NumGoroutine") = false) (hbody : fn.body.isSome = true)
    (hop : ∀ (x y : Int) (r1 : Int) (r2 : Bool) (W : World), Below w.heap.size w W → g x y = some (r1, r2) →
      Calls Try.prog f (#[.int .i64 x, .int .i64 y] ++ caps) W fun e w' => e = .returned (.tuple #[.int .i64 r1, .bool r2]) ∧ Below W.heap.size W w')
    (h : each_f g l0 l1 = some (r1, r2)) :
    Calls Try.prog 53 #[.slice A0 l0.length c0, .slice A1 l1.length c1, .func (.func f) #[] caps] w fun e w' => ∃ v0_ : Value, e = .returned (.tuple #[v0_, .int .i64 r2]) ∧ Kd.R (Kd.int .i64) 2 w' w.heap.size (fun _ => True) v0_ r1 ∧ Below w.heap.size w w' := by
  have hm : l0.length ≤ 35184372088832 := by
    unfold each_f at h
    split at h
    · assumption
    · cases h
  unfold each_f at h
  rw [if_pos hm] at h
  have HR0 := Aside0.mk hr0
  have HR1 := Aside0.mk hr1
  have HC0 := Aside0.mk hc0
  have HC1 := Aside0.mk hc1
  have HM := Aside0.mk hm
  have HOP := Aside0.mk hop
  have HB := Aside0.mk (Below.refl w.heap.size w)
  have HFN := Aside0.mk hfn
  have HNM := Aside0.mk hname
  have HBD := Aside0.mk hbody
  clear hr0 hr1 hc0 hc1 hm hop hfn hname hbody
  have hr1_ : 0 ≤ (l0.length : Int) := by omega
  by_cases hl : l0.length = l1.length
  · have HA : Aside0 (each_go g l0 l1 [] = some (r1, r2)) := by
      rw [if_pos hl] at h; exact ⟨h⟩
    clear h
    have e1 : (l0.length == l1.length) = true := by simpa using hl
    have e2 : ((l0.length : Int) == (l1.length : Int)) = true := beq_iff_eq.mpr (by omega)
    have e3 : ((l0.length : Int) != (l1.length : Int)) = false := bne_eq_false_iff_eq.mpr (by omega)
    have HL := Aside0.mk hl
    clear hl
    go_enter Try.func53, Try.ntmps53
    go_wp2
    go_step3
    go_wp2_with (first | ((with_reducible refine gate_dst (N := 20) rfl ?_); refine Kd.R_make (Kd.int .i64) _ 2 rfl (N := 20) rfl 33 _ _ rfl (l0.length : Int) rfl rfl Try.underlying33 (.int .i64 0) 8 info2 rfl (by decide) (by omega) 0 (ok := fun _ => True) (okp := fun _ => True) rfl (fun _ hk => hk) trivial (by omega) (by have := HM.out; simp; omega) (Below.refl _ _) (Nat.le_refl _) ?_; intro v1 w1 ho1 hb1 _ _))
    go_step3
    go_wp2
    have HO := Aside0.mk ho1
    have HB1 := Aside0.mk hb1
    clear ho1 hb1
    go_loopw [23] (fun s23 W => ∃ (i : Nat) (acc : List Int), i ≤ l0.length ∧ s23 = .int .i64 (i : Int) ∧ Aside0 (acc.length = i) ∧ Aside0 (each_go g (l0.drop i) (l1.drop i) acc = some (r1, r2)) ∧ Aside0 (Kd.R (Kd.int .i64) 2 W w.heap.size (fun _ => True) v1 (acc ++ List.replicate (l0.length - i) 0)) ∧ Aside0 (Below w.heap.size w W)) (fun s23 _ => l0.length - (intOf s23).toNat)
    case atStart => exact ⟨0, [], Nat.zero_le _, rfl, ⟨rfl⟩, ⟨by simpa using HA.out⟩, ⟨by simpa using HO.out⟩, HB1⟩
    case round =>
      obtain ⟨i, acc, hi, rfl, hacc, hgo, hO, hB⟩ := hrel
      clear HA HO HB1
      by_cases hlt : i < l0.length
      · have hlt1 : i < l1.length := by have := HL.out; omega
        have hbnd : (i : Int) + 1 ≤ 9223372036854775807 := by have := HM.out; omega
        obtain ⟨⟨q1, q2⟩, hg1, hg2, hg3⟩ := each_step hlt hlt1 hgo.out
        obtain ⟨a0, ea0, hx0⟩ := Kd.at_int HR0.out (i : Int) (by omega) (by omega)
        obtain ⟨a1, ea1, hx1⟩ := Kd.at_int HR1.out (i : Int) (by omega) (by omega)
        cases ea0
        cases ea1
        have t0 : ((i : Int)).toNat = i := by omega
        rw [t0] at hx0 hx1
        have HG1 := Aside0.mk hg1
        have HG2 := Aside0.mk hg2
        have HG3 := Aside0.mk hg3
        have HX1 := Aside0.mk hx1
        clear hg1 hg2 hg3 t0 
        replace hx0 := (hB.out.cell (World.block_lt_of_cell? w _ hx0)).trans hx0
        replace hx1 := (hB.out.cell (World.block_lt_of_cell? w _ hx1)).trans hx1
        have hlenx : (acc ++ List.replicate (l0.length - i) 0).length = l0.length := by simp; have := hacc.out; omega
        obtain ⟨gg, cap, ev, hbg, hgl, _⟩ := Kd.R_form hO.out (by rw [hlenx]; omega)
        rw [hlenx] at ev
        subst ev
        have HLX := Aside0.mk hlenx
        have HBG := Aside0.mk hbg
        clear hlenx hbg hgl
        cases q2
        · have e9 := Aside0.mk (HG3.out rfl)
          go_wp2
          rw [enters_ HFN.out HNM.out HBD.out, Oper.upon_enter]
          refine (HOP.out _ _ q1 false _ hB.out HG1.out).mono ?_
          rintro e w5 ⟨rfl, hb⟩
          have HO5 := Aside0.mk (Kd.R_below hO.out hb)
          have HB5 := Aside0.mk (below_step hB.out hb)
          clear hO hB hb
          obtain ⟨hy, hz⟩ := RI_cell HO5.out i (by have := HLX.out; omega)
          go_wp2
          try rw [Exit.noGoto_ret]
          go_ret2
          have e9' := e9.out
          cases e9'
          exact ⟨_, rfl, Kd.R_nil _ _ _ _ _, HB5.out⟩
        · have e9 := Aside0.mk (HG2.out rfl)
          go_wp2
          rw [enters_ HFN.out HNM.out HBD.out, Oper.upon_enter]
          refine (HOP.out _ _ q1 true _ hB.out HG1.out).mono ?_
          rintro e w5 ⟨rfl, hb⟩
          have HO5 := Aside0.mk (Kd.R_below hO.out hb)
          have HB5 := Aside0.mk (below_step hB.out hb)
          clear hO hB hb
          obtain ⟨hy, hz⟩ := RI_cell HO5.out i (by have := HLX.out; omega)
          go_wp2
          go_roundw
          case measure => simp [intOf]; omega
          case rel =>
            have hacc' := hacc.out
            refine ⟨i + 1, acc ++ [q1], by omega, by go_num, ⟨by simp [hacc']⟩, e9, ⟨?_⟩, ⟨below_set HB5.out HBG.out⟩⟩
            have hl' : l0.length - i = (l0.length - (i + 1)) + 1 := by omega
            have hs := set_zeros (acc := acc) (m := l0.length - (i + 1)) q1
            rw [hacc'] at hs
            have ho := HO5.out
            have hp := RI_put ho i q1
            rw [hl', hs] at hp
            exact hp
      · obtain rfl : i = l0.length := by omega
        go_wp2
        try rw [Exit.noGoto_ret]
        go_ret2
        have hg := hgo.out
        have hlr := HL.out
        rw [List.drop_of_length_le (Nat.le_refl _)] at hg
        simp only [each_go] at hg
        cases hg
        exact ⟨_, rfl, by simpa using hO.out, hB.out⟩
  · have HA : r1 = [] ∧ r2 = 2 := by
      rw [if_neg hl] at h; cases h; exact ⟨rfl, rfl⟩
    obtain ⟨rfl, rfl⟩ := HA
    have e1 : (l0.length == l1.length) = false := by simpa using hl
    have e2 : ((l0.length : Int) == (l1.length : Int)) = false := beq_eq_false_iff_ne.mpr (by omega)
    have e3 : ((l0.length : Int) != (l1.length : Int)) = true := bne_iff_ne.mpr (by omega)
    clear h hl
    go_enter Try.func53, Try.ntmps53
    go_wp2
    go_step3
    go_wp2
    try rw [Exit.noGoto_ret]
    go_ret2
    exact ⟨_, rfl, Kd.R_nil _ _ _ _ _, Below.refl _ _⟩

end Go.Proofs.Ytckefohfahphpaa.Z
