/- The machine's side: plain Lean functions for the Go functions, each with its contract. Written by a program of this session (wip/xprint.py). -/
import Derived.Test.YtojpjknjoikdgaaZx0
import Derived.Test.YtojpjknjoikdgaaZx1
import Derived.Test.YtojpjknjoikdgaaZx2
import Derived.Test.YtojpjknjoikdgaaZx3
namespace Go.Proofs.Ytojpjknjoikdgaa.Z
open Go.RowKit Go.Proofs.YtojpjknjoikdgaaW.PrintWords Go.Proofs.YtojpjknjoikdgaaW.PrintLast Go.Proofs.YtojpjknjoikdgaaW.PrintMore
attribute [local go_sem] max2_int min2_int max_two min_two max_three min_three max_four min_four   -- for this text's walks alone
set_option linter.unusedVariables false
set_option linter.unusedSimpArgs false

/-! ### vector_Combine: function 21, by hand -/
def comb (i k x y : Int) : Option (Int × Bool) := (safeint_Mul.f x i).bind fun p => if p.2 = true then ((safeint_Mul.f y k).bind fun q => if q.2 = true then safeint_Add.f p.1 q.1 else some (0, false)) else some (0, false)
set_option maxHeartbeats 8000000 in
set_option maxRecDepth 100000 in
theorem vector_Combine.clo (gi gk : Nat) (i k : Int) (x y : Int) (r1 : Int) (r2 : Bool) (w : World) (hi : w.cell? ⟨gi, 0, none⟩ = some (.int .i64 i)) (hk : w.cell? ⟨gk, 0, none⟩ = some (.int .i64 k)) (h : comb i k x y = some (r1, r2)) :
    Calls Try.prog 42 #[.int .i64 x, .int .i64 y, .pointer (some ⟨gi, 0, none⟩), .pointer (some ⟨gk, 0, none⟩)] w fun e w' => e = .returned (.tuple #[.int .i64 r1, .bool r2]) ∧ Below w.heap.size w w' := by
  unfold comb at h
  obtain ⟨⟨p1, p2⟩, hp, h⟩ := Option.bind_eq_some_iff.mp h
  have HP := Aside0.mk hp
  have hbk := World.block_lt_of_cell? w _ hk
  have HBK := Aside0.mk hbk
  clear hp hbk
  cases p2
  · have HH := Aside0.mk h
    clear h
    go_enter Try.func42, Try.ntmps42
    go_wp2_with (fail)
    refine (safeint_Mul.calls x i p1 false _ HP.out).mono ?_
    rintro e w1 ⟨rfl, hB⟩
    have HB := Aside0.mk hB
    clear hB hk hi
    go_wp2
    go_ret2
    have hh := HH.out
    simp at hh
    obtain ⟨rfl, rfl⟩ := hh
    exact ⟨rfl, HB.out⟩
  · simp only [if_true] at h
    obtain ⟨⟨q1, q2⟩, hq, h⟩ := Option.bind_eq_some_iff.mp h
    have HQ := Aside0.mk hq
    have HH := Aside0.mk h
    clear h hq
    cases q2
    · go_enter Try.func42, Try.ntmps42
      go_wp2_with (fail)
      refine (safeint_Mul.calls x i p1 true _ HP.out).mono ?_
      rintro e w1 ⟨rfl, hB⟩
      replace hk := (hB.cell HBK.out).trans hk
      have HB := Aside0.mk hB
      clear hB hi
      go_wp2_with (fail)
      refine (safeint_Mul.calls y k q1 false _ HQ.out).mono ?_
      rintro e w2 ⟨rfl, hB2⟩
      have HB2 := Aside0.mk hB2
      clear hB2 hk
      go_wp2
      go_ret2
      have hh := HH.out
      simp at hh
      obtain ⟨rfl, rfl⟩ := hh
      exact ⟨rfl, below_step HB.out HB2.out⟩
    · go_enter Try.func42, Try.ntmps42
      go_wp2_with (fail)
      refine (safeint_Mul.calls x i p1 true _ HP.out).mono ?_
      rintro e w1 ⟨rfl, hB⟩
      replace hk := (hB.cell HBK.out).trans hk
      have HB := Aside0.mk hB
      clear hB hi
      go_wp2_with (fail)
      refine (safeint_Mul.calls y k q1 true _ HQ.out).mono ?_
      rintro e w2 ⟨rfl, hB2⟩
      have HB2 := Aside0.mk hB2
      clear hB2 hk
      go_wp2_with (fail)
      refine (safeint_Add.calls p1 q1 r1 r2 _ (by have := HH.out; simpa using this)).mono ?_
      rintro e w3 ⟨rfl, hB3⟩
      have HB3 := Aside0.mk hB3
      clear hB3
      go_wp2
      go_ret2
      exact ⟨rfl, below_step (below_step HB.out HB2.out) HB3.out.below⟩
def vector_Combine.f (a : List Int) (i : Int) (b : List Int) (k : Int) : Option (List Int × Int) := each_f (comb i k) a b
set_option maxHeartbeats 8000000 in
set_option maxRecDepth 100000 in
theorem vector_Combine.calls (A0 : Option Addr) (c0 : Nat) (l0 : List Int) (a1 : Int) (A2 : Option Addr) (c2 : Nat) (l2 : List Int) (a3 : Int) (r1 : List Int) (r2 : Int) (w : World) (hr0 : Kd.C (Kd.int .i64) w A0 l0.length l0) (hc0 : l0.length ≤ c0) (hr2 : Kd.C (Kd.int .i64) w A2 l2.length l2) (hc2 : l2.length ≤ c2) (h : vector_Combine.f l0 a1 l2 a3 = some (r1, r2)) :
    Calls Try.prog 21 #[.slice A0 l0.length c0, .int .i64 a1, .slice A2 l2.length c2, .int .i64 a3] w fun e w' => ∃ v0_ : Value, e = .returned (.tuple #[v0_, .int .i64 r2]) ∧ Kd.R (Kd.int .i64) 2 w' w.heap.size (fun _ => True) v0_ r1 ∧ Below w.heap.size w w' := by
  have HR0 := Aside0.mk hr0
  have HC0 := Aside0.mk hc0
  have HR2 := Aside0.mk hr2
  have HC2 := Aside0.mk hc2
  have HH := Aside0.mk h
  clear hr0 hc0 hr2 hc2 h
  have hmf : ∀ (fn : Fn) (first cap : Array Value) (w : World), (Instr.makeFunc fn first cap).run Try.prog w = .ok (.func fn first cap) w := fun _ _ _ _ => rfl
  go_enter Try.func21, Try.ntmps21
  go_wp2_with (fail)
  have hb1 : Below w.heap.size w ((w.alloc (Obj.cells #[Value.int IntKind.i64 a1] 2)).alloc (Obj.cells #[Value.int IntKind.i64 a3] 2)) := below_alloc (below_alloc (Below.refl _ _) _) _
  have hc1 : ((w.alloc (Obj.cells #[Value.int IntKind.i64 a1] 2)).alloc (Obj.cells #[Value.int IntKind.i64 a3] 2)).cell? ⟨w.heap.size, 0, none⟩ = some (.int .i64 a1) := by rw [World.cell?_alloc_past _ _ _ (by simp), World.cell?_alloc_at _ _ _ _ rfl]; rfl
  have hc3 : ((w.alloc (Obj.cells #[Value.int IntKind.i64 a1] 2)).alloc (Obj.cells #[Value.int IntKind.i64 a3] 2)).cell? ⟨w.heap.size + 1, 0, none⟩ = some (.int .i64 a3) := by rw [World.cell?_alloc_at _ _ _ _ (by simp)]; rfl
  refine (vector_each.calls 42 #[.pointer (some ⟨w.heap.size, 0, none⟩), .pointer (some ⟨w.heap.size + 1, 0, none⟩)] (comb a1 a3) A0 c0 l0 A2 c2 l2 r1 r2 _ (Kd.C_alloc (Kd.C_alloc HR0.out _) _) HC0.out (Kd.C_alloc (Kd.C_alloc HR2.out _) _) HC2.out Try.func42 (by kernel_rfl) rfl
    (fun x y q1 q2 W hW hg => vector_Combine.clo w.heap.size (w.heap.size + 1) a1 a3 x y q1 q2 W ((hW.cell (World.block_lt_of_cell? _ _ hc1)).trans hc1) ((hW.cell (World.block_lt_of_cell? _ _ hc3)).trans hc3) hg) HH.out).mono ?_
  rintro e w1 ⟨v0, rfl, hR, hB⟩
  have HR := Aside0.mk (Kd.R_lower hR hb1.size)
  have HB := Aside0.mk (below_step hb1 hB)
  clear hR hB hb1 hc1 hc3 HR0 HC0 HR2 HC2 HH
  go_wp2
  go_ret2
  exact ⟨_, rfl, HR.out, HB.out⟩

/-! ### vector_Leq: function 23 -/
def vector_Leq.l0 : Nat → List Int → List Int → Int → Int → Option (Bool)
  | 0, _, _, _, _ => none
  | k + 1, x1, x12, x13, x14 => if x14 < x13 then (if 0 ≤ x14 then (if x14 < (x12.length : Int) then (if x14 < (x1.length : Int) then (if (rd x12 x14) > (rd x1 x14) then (some false) else (vector_Leq.l0 k x1 x12 x13 (wrap64 (x14 + 1)))) else (none)) else (none)) else (none)) else (some true)
def vector_Leq.f (k : Nat) (l0 : List Int) (l1 : List Int) : Option (Bool) := if (l0.length : Int) = (l1.length : Int) then (vector_Leq.l0 k l1 l0 (l0.length : Int) 0) else (some false)
theorem vector_Leq.mono_l : ∀ k, (∀ y0 y1 y2 y3, LeO (vector_Leq.l0 k y0 y1 y2 y3) (vector_Leq.l0 (k + 1) y0 y1 y2 y3))
  | 0 => fun _ _ _ _ r h => by simp [vector_Leq.l0] at h
  | k + 1 => by
    have ih0 := vector_Leq.mono_l k
    · intro y0 y1 y2 y3
      unfold vector_Leq.l0
      repeat' first
      | (with_reducible exact ih0 _ _ _ _)
      | (with_reducible exact LeO.refl _)
      | (with_reducible exact LeO.none _)
      | (with_reducible refine LeO.ite ?_ ?_)
      | (with_reducible refine LeO.bind ?_ (fun _ => ?_))
      | exact ih0 _ _ _ _
      | exact LeO.none _
      | refine LeO.ite ?_ ?_
      | refine LeO.bind ?_ (fun _ => ?_)
theorem vector_Leq.mono : ∀ a0 a1 k, LeO (vector_Leq.f k a0 a1) (vector_Leq.f (k + 1) a0 a1) := by
  intro a0 a1 k
  have ih0 := vector_Leq.mono_l k
  unfold vector_Leq.f
  repeat' first
      | (with_reducible exact ih0 _ _ _ _)
      | (with_reducible exact LeO.refl _)
      | (with_reducible exact LeO.none _)
      | (with_reducible refine LeO.ite ?_ ?_)
      | (with_reducible refine LeO.bind ?_ (fun _ => ?_))
      | exact ih0 _ _ _ _
      | exact LeO.none _
      | refine LeO.ite ?_ ?_
      | refine LeO.bind ?_ (fun _ => ?_)
set_option maxHeartbeats 8000000 in
set_option maxRecDepth 100000 in
theorem vector_Leq.calls (k : Nat) (A0 : Option Addr) (c0 : Nat) (l0 : List Int) (A1 : Option Addr) (c1 : Nat) (l1 : List Int) (r : Bool) (w : World) (hr0 : Kd.C (Kd.int .i64) w A0 l0.length l0) (hc0 : l0.length ≤ c0) (hr1 : Kd.C (Kd.int .i64) w A1 l1.length l1) (hc1 : l1.length ≤ c1) (h : vector_Leq.f k l0 l1 = some r) :
    Calls Try.prog 23 #[.slice A0 l0.length c0, .slice A1 l1.length c1] w fun e w' => e = .returned (.bool r) ∧ Drawn0 w w' := by
  have HR0 := Aside0.mk hr0
  have HC0 := Aside0.mk hc0
  clear hr0 hc0
  have HR1 := Aside0.mk hr1
  have HC1 := Aside0.mk hc1
  clear hr1 hc1
  have H : (if (l0.length : Int) = (l1.length : Int) then (vector_Leq.l0 k l1 l0 (l0.length : Int) 0) else (some false)) = some r := h
  clear h
  by_cases c3 : (l0.length : Int) = (l1.length : Int)
  · rw [if_pos c3] at H
    have c3b0 : ((l0.length : Int) == (l1.length : Int)) = true := beq_iff_eq.mpr c3
    have c3b1 : ((l0.length : Int) != (l1.length : Int)) = false := bne_eq_false_iff_eq.mpr c3
    have c3b2 : (l0.length == l1.length) = true := by first | simpa using c3 | (simp at c3 ⊢; omega)
    clear c3
    have H' := Aside0.mk H
    clear H
    go_enter Try.func23, Try.ntmps23
    go_wp2
    go_loopg [14] k (fun kq v14 w' => ∃ (x14_1 : Int), v14 = .int .i64 x14_1 ∧ Aside0 (vector_Leq.l0 kq l1 l0 (l0.length : Int) x14_1 = some r) ∧ Aside0 (kq ≤ k) ∧ Drawn0 w w')
    case atStart => exact ⟨(0), (by first | rfl | (simp; done) | (simp [*]; done)), H', ⟨Nat.le_refl _⟩, by repeat (first | exact Drawn0.refl _ | apply Drawn0.step)⟩
    case round =>
      clear H'
      try clear c1
      try clear c2
      try clear p2
      try clear c3
      try clear c3b0
      try clear c3b1
      try clear c3b2
      obtain ⟨x14_1, rfl, HA, HK1, ⟨m1, rfl⟩⟩ := hrel
      cases gk with
      | zero => exact absurd HA.out (by simp [vector_Leq.l0])
      | succ k1 =>
        have H := HA.out
        clear HA
        simp only [vector_Leq.l0] at H
        by_cases c4 : x14_1 < (l0.length : Int)
        · rw [if_pos c4] at H
          have c4b0 : decide (x14_1 < (l0.length : Int)) = true := decide_eq_true c4
          clear c4
          by_cases c5 : 0 ≤ x14_1
          · rw [if_pos c5] at H
            have c5b0 : decide (0 ≤ x14_1) = true := decide_eq_true c5
            clear c5
            by_cases c6 : x14_1 < (l0.length : Int)
            · rw [if_pos c6] at H
              have c6b0 : decide (x14_1 < (l0.length : Int)) = true := decide_eq_true c6
              clear c6
              by_cases c7 : x14_1 < (l1.length : Int)
              · rw [if_pos c7] at H
                have c7b0 : decide (x14_1 < (l1.length : Int)) = true := decide_eq_true c7
                clear c7
                by_cases c8 : (rd l0 x14_1) > (rd l1 x14_1)
                · rw [if_pos c8] at H
                  have c8b0 : decide ((rd l1 x14_1) < (rd l0 x14_1)) = true := decide_eq_true c8
                  clear c8
                  obtain rfl := Option.some.inj H
                  have p107 : 0 ≤ (x14_1 : Int) := of_decide_eq_true (by first | (with_reducible assumption) | assumption)
                  have q107 : x14_1 < (l0.length : Int) := of_decide_eq_true (by first | (with_reducible assumption) | assumption)
                  obtain ⟨ad107, e107, hx107_0⟩ := Kd.at_int HR0.out x14_1 p107 q107
                  cases e107
                  replace p107 := eq_true p107
                  replace q107 := eq_true q107
                  have p108 : 0 ≤ (x14_1 : Int) := of_decide_eq_true (by first | (with_reducible assumption) | assumption)
                  have q108 : x14_1 < (l1.length : Int) := of_decide_eq_true (by first | (with_reducible assumption) | assumption)
                  obtain ⟨ad108, e108, hx108_0⟩ := Kd.at_int HR1.out x14_1 p108 q108
                  cases e108
                  replace p108 := eq_true p108
                  replace q108 := eq_true q108
                  go_wp2
                  go_ret
                  exact ⟨by first | rfl | (simp; done) | (simp [*]; done), by repeat (first | exact Drawn0.refl _ | apply Drawn0.step)⟩
                · rw [if_neg c8] at H
                  have c8b0 : decide ((rd l1 x14_1) < (rd l0 x14_1)) = false := decide_eq_false c8
                  clear c8
                  have H' := Aside0.mk H
                  clear H
                  have p107 : 0 ≤ (x14_1 : Int) := of_decide_eq_true (by first | (with_reducible assumption) | assumption)
                  have q107 : x14_1 < (l0.length : Int) := of_decide_eq_true (by first | (with_reducible assumption) | assumption)
                  obtain ⟨ad107, e107, hx107_0⟩ := Kd.at_int HR0.out x14_1 p107 q107
                  cases e107
                  replace p107 := eq_true p107
                  replace q107 := eq_true q107
                  have p108 : 0 ≤ (x14_1 : Int) := of_decide_eq_true (by first | (with_reducible assumption) | assumption)
                  have q108 : x14_1 < (l1.length : Int) := of_decide_eq_true (by first | (with_reducible assumption) | assumption)
                  obtain ⟨ad108, e108, hx108_0⟩ := Kd.at_int HR1.out x14_1 p108 q108
                  cases e108
                  replace p108 := eq_true p108
                  replace q108 := eq_true q108
                  go_wp2
                  go_roundg k1
                  case measure => have := HK1.out; omega
                  case rel => exact ⟨(wrap64 (x14_1 + 1)), (by first | rfl | (simp; done) | (simp [*]; done)), H', ⟨by have := HK1.out; omega⟩, by repeat (first | exact Drawn0.refl _ | apply Drawn0.step)⟩
              · rw [if_neg c7] at H
                exact absurd H (by simp)
            · rw [if_neg c6] at H
              exact absurd H (by simp)
          · rw [if_neg c5] at H
            exact absurd H (by simp)
        · rw [if_neg c4] at H
          have c4b0 : decide (x14_1 < (l0.length : Int)) = false := decide_eq_false c4
          clear c4
          obtain rfl := Option.some.inj H
          go_wp2
          go_ret
          exact ⟨by first | rfl | (simp; done) | (simp [*]; done), by repeat (first | exact Drawn0.refl _ | apply Drawn0.step)⟩
  · rw [if_neg c3] at H
    have c3b0 : ((l0.length : Int) == (l1.length : Int)) = false := beq_eq_false_iff_ne.mpr c3
    have c3b1 : ((l0.length : Int) != (l1.length : Int)) = true := bne_iff_ne.mpr c3
    have c3b2 : (l0.length == l1.length) = false := by first | simpa using c3 | (simp at c3 ⊢; omega)
    obtain rfl := Option.some.inj H
    go_enter Try.func23, Try.ntmps23
    go_wp2
    go_ret
    exact ⟨by first | rfl | (simp; done) | (simp [*]; done), by repeat (first | exact Drawn0.refl _ | apply Drawn0.step)⟩

end Go.Proofs.Ytojpjknjoikdgaa.Z
