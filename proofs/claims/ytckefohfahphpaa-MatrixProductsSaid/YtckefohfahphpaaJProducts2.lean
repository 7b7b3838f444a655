/- Walks of the program's functions and plain laws, for the statement Products, for all inputs that each lemma names. -/
import Derived.Test.YtckefohfahphpaaJProducts0
import Derived.Test.YtckefohfahphpaaJProducts1
section
namespace Go.Proofs.Ytckefohfahphpaa.Z
open Go.RowKit Go.Proofs.YtckefohfahphpaaW.PrintWords Go.Proofs.YtckefohfahphpaaW.PrintLast Go.Proofs.YtckefohfahphpaaW.PrintMore
attribute [local go_sem] max2_int min2_int max_two min_two max_three min_three max_four min_four   -- for this text's walks alone
set_option linter.unusedVariables false
set_option linter.unusedSimpArgs false

/-! ### petrinetref08_Transpose: function 20 -/
def petrinetref08_Transpose.l0 : Nat → List (List Int) → List (List Int) → Int → Option ((List (List Int)))
 | 0, _, _, _ => none
 | k + 1, x0, x3, x4 => if 0 < (x0.length : Int) then (if x4 < ((rd_L1 x0 0).length : Int) then ((petrinetref08_column.f k x0 x4).bind fun t208 => (if x3.length < 5864062014805 then (petrinetref08_Transpose.l0 k x0 (x3 ++ [t208]) (wrap64 (x4 + 1))) else (none))) else (some x3)) else (none)
def petrinetref08_Transpose.f (k : Nat) (l0 : List (List Int)) : Option ((List (List Int))) := (petrinetref08_Valid.f k l0).bind fun t206 => (if t206 = true then (petrinetref08_Transpose.l0 k l0 ([] : List (List Int)) 0) else (some ([] : List (List Int))))
theorem petrinetref08_Transpose.mono_l : ∀ k, (∀ y0 y1 y2, LeO (petrinetref08_Transpose.l0 k y0 y1 y2) (petrinetref08_Transpose.l0 (k + 1) y0 y1 y2))
 | 0 => fun _ _ _ r h => by simp [petrinetref08_Transpose.l0] at h
 | k + 1 => by
  have ih0 := petrinetref08_Transpose.mono_l k
  ·
   intro y0 y1 y2
   unfold petrinetref08_Transpose.l0
   repeat' first
   | (with_reducible exact ih0 _ _ _)
   | (with_reducible exact petrinetref08_Valid.mono _ _)
   | (with_reducible exact petrinetref08_column.mono _ _ _)
   | (with_reducible exact LeO.refl _)
   | (with_reducible exact LeO.none _)
   | (with_reducible refine LeO.ite ?_ ?_)
   | (with_reducible refine LeO.bind ?_ (fun _ => ?_))
   | exact ih0 _ _ _
   | exact petrinetref08_Valid.mono _ _
   | exact petrinetref08_column.mono _ _ _
   | exact LeO.none _
   | refine LeO.ite ?_ ?_
   | refine LeO.bind ?_ (fun _ => ?_)
theorem petrinetref08_Transpose.mono : ∀ a0 k, LeO (petrinetref08_Transpose.f k a0) (petrinetref08_Transpose.f (k + 1) a0) := by
 intro a0 k
 have ih0 := petrinetref08_Transpose.mono_l k
 unfold petrinetref08_Transpose.f
 repeat' first
   | (with_reducible exact ih0 _ _ _)
   | (with_reducible exact petrinetref08_Valid.mono _ _)
   | (with_reducible exact petrinetref08_column.mono _ _ _)
   | (with_reducible exact LeO.refl _)
   | (with_reducible exact LeO.none _)
   | (with_reducible refine LeO.ite ?_ ?_)
   | (with_reducible refine LeO.bind ?_ (fun _ => ?_))
   | exact ih0 _ _ _
   | exact petrinetref08_Valid.mono _ _
   | exact petrinetref08_column.mono _ _ _
   | exact LeO.none _
   | refine LeO.ite ?_ ?_
   | refine LeO.bind ?_ (fun _ => ?_)
set_option maxHeartbeats 8000000 in
set_option maxRecDepth 100000 in
theorem petrinetref08_Transpose.calls (k : Nat) (A0 : Option Addr) (c0 : Nat) (l0 : List (List Int)) (r : List (List Int)) (w : World) (hr0 : Kd.C (Kd.slice 2 (Kd.int .i64)) w A0 l0.length l0) (hc0 : l0.length ≤ c0) (h : petrinetref08_Transpose.f k l0 = some r) :
  Calls Try.prog 20 #[.slice A0 l0.length c0] w fun e w' => ∃ v0_ : Value, e = .returned (v0_) ∧ Kd.S (Kd.slice 2 (Kd.int .i64)) 33 w' w.heap.size (fun _ => True) v0_ r ∧ Below w.heap.size w w' := by
 have HR0 := Aside0.mk hr0
 have HC0 := Aside0.mk hc0
 clear hr0 hc0
 have HB := Aside0.mk (Below.refl w.heap.size w)
 have H : ((petrinetref08_Valid.f k l0).bind fun t206 => (if t206 = true then (petrinetref08_Transpose.l0 k l0 ([] : List (List Int)) 0) else (some ([] : List (List Int))))) = some r := h
 clear h
 replace H := Option.bind_eq_some_iff.mp H
 obtain ⟨t206, A20, H⟩ := H
 replace H : (if t206 = true then (petrinetref08_Transpose.l0 k l0 ([] : List (List Int)) 0) else (some ([] : List (List Int)))) = some r := H
 have A2 := Aside0.mk A20
 clear A20
 by_cases c3 : t206 = true
 ·
  subst c3
  have H1 : (petrinetref08_Transpose.l0 k l0 ([] : List (List Int)) 0) = some r := by rw [if_pos rfl] at H; exact H
  clear H
  have H := H1
  clear H1
  have H' := Aside0.mk H
  clear H
  go_enter Try.func20, Try.ntmps20
  go_wp2_with (first | ((with_reducible refine gate_callee (f := 10) rfl ?_); refine goesL_ (some 6) rfl rfl Try.func10 (by kernel_rfl) rfl #[.slice A0 l0.length c0] rfl (by (try simp only [List.map_toArray, List.map_cons, List.map_nil]); first | done | rfl | (simp only [List.length_drop, List.length_take]; rfl)) ?_; (with_reducible refine (petrinetref08_Valid.calls k _ _ l0 true _ ?side1 ?side2 A2.out).mono ?_); (case side1 => repeat (first | exact HR0.out | (with_reducible refine Kd.C_alloc ?_ _) | (with_reducible refine Kd.C_drewN ?_ _) | (with_reducible refine Kd.C_drew ?_))); (case side2 => exact HC0.out); rintro e w' ⟨rfl, ⟨nd, rfl⟩⟩; refine ⟨_, rfl, ?_⟩))
  go_loopg [3, 4] k (fun kq v3 v4 w' => ∃ (x3_1 : List (List Int)) (x4_1 : Int), v4 = .int .i64 x4_1 ∧ Aside0 (petrinetref08_Transpose.l0 kq l0 x3_1 x4_1 = some r) ∧ Aside0 (kq ≤ k) ∧ Aside0 (Kd.S (Kd.slice 2 (Kd.int .i64)) 33 w' w.heap.size (fun _ => True) v3 x3_1) ∧ Aside0 (Below w.heap.size w w'))
  case atStart => exact ⟨(([] : List (List Int))), (0), (by first | rfl | (simp; done) | (simp [*]; done)), H', ⟨Nat.le_refl _⟩, ⟨by first | exact Kd.S_nil _ _ _ _ _ | exact Kd.N_nil _ _ _ _ _ | exact Kd.V_nil _ _ _ _ _ | exact Kd.Q_nil _ _ _ _ _ | exact Kd.R_nil _ _ _ _ _⟩, ⟨by repeat (first | (with_reducible first | exact HB.out | apply below_alloc | apply pw_below_drewN | apply below_drew1) | exact HB.out)⟩⟩
  case round =>
   clear H'
   try clear c1
   try clear c2
   try clear p2
   try clear c3
   obtain ⟨x3_1, x4_1, rfl, HA, HK1, HO_3, HB⟩ := hrel
   cases gk with
   | zero => exact absurd HA.out (by simp [petrinetref08_Transpose.l0])
   | succ k1 =>
    have H := HA.out
    clear HA
    simp only [petrinetref08_Transpose.l0] at H
    by_cases c4 : 0 < (l0.length : Int)
    ·
     rw [if_pos c4] at H
     have c4b0 : decide (0 < (l0.length : Int)) = true := decide_eq_true c4
     have c4b1 : decide (0 < l0.length) = true := decide_eq_true (by omega)
     clear c4
     by_cases c5 : x4_1 < ((rd_L1 l0 0).length : Int)
     ·
      rw [if_pos c5] at H
      have c5b0 : decide (x4_1 < ((rd_L1 l0 0).length : Int)) = true := decide_eq_true c5
      clear c5
      replace H := Option.bind_eq_some_iff.mp H
      obtain ⟨t208, A60, H⟩ := H
      replace H : (if x3_1.length < 5864062014805 then (petrinetref08_Transpose.l0 k1 l0 (x3_1 ++ [t208]) (wrap64 (x4_1 + 1))) else (none)) = some r := H
      have A6 := Aside0.mk A60
      clear A60
      by_cases c7 : x3_1.length < 5864062014805
      ·
       rw [if_pos c7] at H
       have LMc7 := Aside0.mk c7
       clear c7
       obtain ⟨y211, hy211⟩ : ∃ y_ : List (List Int), y_ = (x3_1 ++ [t208]) := ⟨_, rfl⟩
       replace H : (petrinetref08_Transpose.l0 k1 l0 y211 (wrap64 (x4_1 + 1))) = some r := by first | (rw [hy211]; with_reducible exact H) | (have H2_ := (Option.bind_some _ _).symm.trans H; rw [hy211]; with_reducible exact H2_) | (have H2_ := (Option.bind_some _ _).symm.trans H; with_reducible exact H2_) | with_reducible exact H | (rw [hy211]; exact H) | exact H
       have Ny211 := Aside0.mk hy211
       clear hy211
       have H' := Aside0.mk H
       clear H
       have p207 : 0 ≤ (0 : Int) := (by omega)
       have q207 : 0 < (l0.length : Int) := of_decide_eq_true (by first | (with_reducible assumption) | assumption)
       obtain ⟨ad207, A207_0, c207_0, e207, hx207_0, hl207_0, hi207_0⟩ := at_L1 HR0.out 0 p207 q207
       cases e207
       have qi207 : (0 < l0.length) = True := eq_true (by omega)
       (try rw [show ((0 : Int)).toNat = 0 from rfl] at hx207_0)
       (try rw [Addr.add_zero'] at hx207_0)
       replace hx207_0 := (HB.out.cell (World.block_lt_of_cell? w _ hx207_0)).trans hx207_0
       have HR207_0 := Aside0.mk hi207_0
       have HC207_0 := Aside0.mk hl207_0
       clear hi207_0 hl207_0
       replace p207 := eq_true p207
       replace q207 := eq_true q207
       go_wp2_with (first | ((with_reducible refine gate_callee (f := 35) rfl ?_); refine goesL_ (some 19) rfl rfl Try.func35 (by kernel_rfl) rfl #[.slice (some ad207) l0.length c0, .int .i64 x4_1] rfl (by (try simp only [List.map_toArray, List.map_cons, List.map_nil]); first | done | rfl | (simp only [List.length_drop, List.length_take]; rfl)) ?_; (with_reducible refine (petrinetref08_column.calls k1 _ _ l0 x4_1 t208 _ ?side1 ?side2 A6.out).mono ?_); (case side1 => repeat (first | exact (Kd.C_below HR0.out HB.out) | (with_reducible refine Kd.C_alloc ?_ _) | (with_reducible refine Kd.C_drewN ?_ _) | (with_reducible refine Kd.C_drew ?_))); (case side2 => exact HC0.out); rintro e w8 ⟨v209, rfl, ho0, hb⟩; refine ⟨_, rfl, ?_⟩; have n0_ := Aside0.mk (Kd.S_elder' (by (with_reducible repeat (first | apply Kd.S_alloc | apply Kd.S_drewN | apply Kd.S_drew)); exact HO_3.out) (Kd.R_base ho0) hb); have n1_ := Aside0.mk (Kd.R_lower ho0 (below_size (by repeat (first | (with_reducible first | exact HB.out | apply below_alloc | apply pw_below_drewN | apply below_drew1) | exact HB.out)))); have n2_ := Aside0.mk (below_step (by repeat (first | (with_reducible first | exact HB.out | apply below_alloc | apply pw_below_drewN | apply below_drew1) | exact HB.out)) hb); clear HO_3; clear HB; have HO_3 := n0_; have HO210 := n1_; have HB := n2_; clear n0_ n1_ n2_; (try clear hb); (try clear hb2); (try clear hk); (try clear hi); (try clear ho0); obtain ⟨Ao10, co10, eo10⟩ := Kd.R_slice HO210.out; subst eo10) | ((with_reducible refine gate_builtin (b := .append) (xs := #[.tmp 16, .tmp 20]) rfl ?_); at_builtin; refine Kd.S_append (Kd.slice 2 (Kd.int .i64)) (w0 := w) w.heap.size rfl (.tmp 16) (.tmp 20) 22 33 (.slice none 0 0) 24 rfl Try.underlying22 info33 rfl (by decide) (by omega) u3 x3_1 t208 [.slice Ao10 t208.length co10] (fun _ => True) (fun k_ => some k_ = (.slice Ao10 t208.length co10 : Value).ownBlock) rfl rfl ?aP (fun k_ hk_ => ((Kd.R_mono (ok' := fun k_ => ((fun _ => True)) k_ ∧ some k_ ≠ (u3 : Value).ownBlock) (Kd.R_apart' (HO210.out) (Kd.S_typed HO_3.out) (by decide)) (fun k_ hk => ⟨trivial, hk.2⟩))).1 k_ hk_.symm) ?aF ?aO ?aB ?aS ?aL ?_; (case aP => exact Kd.M_row (Kd.R_mono (Kd.R_tight rfl (Kd.R_mono (ok' := fun k_ => ((fun _ => True)) k_ ∧ some k_ ≠ (u3 : Value).ownBlock) (Kd.R_apart' (HO210.out) (Kd.S_typed HO_3.out) (by decide)) (fun k_ hk => ⟨trivial, hk.2⟩))) (fun _ h_ => h_))); (case aB => exact (by repeat (first | (with_reducible first | exact HB.out | apply below_alloc | apply pw_below_drewN | apply below_drew1) | exact HB.out))); (case aF => exact (fun _ _ => trivial)); (case aO => exact (by (with_reducible repeat (first | apply Kd.S_alloc | apply Kd.S_drewN | apply Kd.S_drew)); exact Kd.S_mono HO_3.out (fun k_ hk => ⟨trivial, fun e_ => hk.2 e_⟩))); (case aS => exact (below_size (by repeat (first | (with_reducible first | exact HB.out | apply below_alloc | apply pw_below_drewN | apply below_drew1) | exact HB.out)))); (case aL => have := LMc7.out; omega); intro v212 w9 ho hb hg hat; rw [← Ny211.out] at ho; have n0_ := Aside0.mk (hb); have n1_ := Aside0.mk (ho); clear HB; clear HO_3; clear HO210; have HB := n0_; have HO213 := n1_; clear n0_ n1_; clear ho hb hg hat))
       go_roundg k1
       case measure => have := HK1.out; omega
       case rel => exact ⟨(y211), (wrap64 (x4_1 + 1)), (by first | rfl | (simp; done) | (simp [*]; done)), H', ⟨by have := HK1.out; omega⟩, ⟨by (with_reducible repeat (first | apply Kd.S_alloc | apply Kd.S_drewN | apply Kd.S_drew)); exact HO213.out⟩, ⟨by repeat (first | (with_reducible first | exact HB.out | apply below_alloc | apply pw_below_drewN | apply below_drew1) | exact HB.out)⟩⟩
      ·
       rw [if_neg c7] at H
       exact absurd H (by simp)
     ·
      rw [if_neg c5] at H
      have c5b0 : decide (x4_1 < ((rd_L1 l0 0).length : Int)) = false := decide_eq_false c5
      clear c5
      obtain rfl := Option.some.inj H
      have p207 : 0 ≤ (0 : Int) := (by omega)
      have q207 : 0 < (l0.length : Int) := of_decide_eq_true (by first | (with_reducible assumption) | assumption)
      obtain ⟨ad207, A207_0, c207_0, e207, hx207_0, hl207_0, hi207_0⟩ := at_L1 HR0.out 0 p207 q207
      cases e207
      have qi207 : (0 < l0.length) = True := eq_true (by omega)
      (try rw [show ((0 : Int)).toNat = 0 from rfl] at hx207_0)
      (try rw [Addr.add_zero'] at hx207_0)
      replace hx207_0 := (HB.out.cell (World.block_lt_of_cell? w _ hx207_0)).trans hx207_0
      have HR207_0 := Aside0.mk hi207_0
      have HC207_0 := Aside0.mk hl207_0
      clear hi207_0 hl207_0
      replace p207 := eq_true p207
      replace q207 := eq_true q207
      go_wp2
      go_ret
      exact ⟨_, by first | rfl | (simp [errW_none, errW_some] <;> rfl) | (simp [*, errW_none, errW_some] <;> rfl), by (with_reducible repeat (first | apply Kd.S_alloc | apply Kd.S_drewN | apply Kd.S_drew)); exact HO_3.out, by repeat (first | (with_reducible first | exact HB.out | apply below_alloc | apply pw_below_drewN | apply below_drew1) | exact HB.out)⟩
    ·
     rw [if_neg c4] at H
     exact absurd H (by simp)
 ·
  replace c3 := Bool.eq_false_iff.mpr c3
  subst c3
  have H1 : (some ([] : List (List Int))) = some r := by rw [if_neg (show ¬ (false = true) by decide)] at H; exact H
  clear H
  have H := H1
  clear H1
  obtain rfl := Option.some.inj H
  go_enter Try.func20, Try.ntmps20
  go_wp2_with (first | ((with_reducible refine gate_callee (f := 10) rfl ?_); refine goesL_ (some 6) rfl rfl Try.func10 (by kernel_rfl) rfl #[.slice A0 l0.length c0] rfl (by (try simp only [List.map_toArray, List.map_cons, List.map_nil]); first | done | rfl | (simp only [List.length_drop, List.length_take]; rfl)) ?_; (with_reducible refine (petrinetref08_Valid.calls k _ _ l0 false _ ?side1 ?side2 A2.out).mono ?_); (case side1 => repeat (first | exact HR0.out | (with_reducible refine Kd.C_alloc ?_ _) | (with_reducible refine Kd.C_drewN ?_ _) | (with_reducible refine Kd.C_drew ?_))); (case side2 => exact HC0.out); rintro e w' ⟨rfl, ⟨nd, rfl⟩⟩; refine ⟨_, rfl, ?_⟩))
  go_ret
  exact ⟨_, by first | rfl | (simp [errW_none, errW_some] <;> rfl) | (simp [*, errW_none, errW_some] <;> rfl), by first | exact Kd.S_nil _ _ _ _ _ | exact Kd.N_nil _ _ _ _ _ | exact Kd.V_nil _ _ _ _ _ | exact Kd.Q_nil _ _ _ _ _ | exact Kd.R_nil _ _ _ _ _, by repeat (first | (with_reducible first | exact HB.out | apply below_alloc | apply pw_below_drewN | apply below_drew1) | exact HB.out)⟩

end Go.Proofs.Ytckefohfahphpaa.Z
end
section
namespace Go.Proofs.Ytckefohfahphpaa.Z
open Go.RowKit Go.Proofs.YtckefohfahphpaaW.PrintWords Go.Proofs.YtckefohfahphpaaW.PrintLast Go.Proofs.YtckefohfahphpaaW.PrintMore
set_option linter.unusedVariables false
set_option linter.unusedSimpArgs false
def colM (a : List (List Int)) (k : Int) : List Int := a.map fun r => rd r k
def transM (a : List (List Int)) : List (List Int) := (List.range (rd_L1 a 0).length).map fun k : Nat => colM a (k : Int)
theorem rdL_mid (A B : List (List Int)) (p : List Int) {i : Int} (hi : i = (A.length : Int)) : rd_L1 (A ++ p :: B) i = p := by
 subst hi
 simp [rd_L1, List.getD_eq_getElem?_getD]
theorem set_mid (A B : List (List Int)) (p q : List Int) {i : Nat} (hi : i = A.length) : (A ++ p :: B).set i q = A ++ q :: B := by
 subst hi
 simp
theorem colM_take {a : List (List Int)} {k j : Int} (h0 : 0 ≤ j) (h1 : j < (a.length : Int)) : colM (a.take j.toNat) k ++ [rd (rd_L1 a j) k] = colM (a.take (j + 1).toNat) k := by
 have h : j.toNat < a.length := by omega
 have e : rd_L1 a j = a[j.toNat] := by simp [rd_L1, List.getD_eq_getElem?_getD, h]
 unfold colM
 rw [show (j + 1).toNat = j.toNat + 1 by omega, List.take_succ_eq_append_getElem h, List.map_append, e]
 rfl
theorem rcol_l0 {a : List (List Int)} {n : Nat} (hl : a.length ≤ 1000000) (hr : ∀ r ∈ a, r.length = n) {k : Int} (hk : 0 ≤ k) (hk' : k < (n : Int)) : ∀ (d m : Nat) (j : Int), 0 ≤ j → (a.length : Int) - j = d → d + 2 ≤ m →
  petrinetref08_column.l0 m a k (colM (a.take j.toNat) k) j = some (colM a k) := by
 intro d
 induction d with
 | zero =>
  intro m j h0 hd hm
  obtain ⟨m, rfl⟩ : ∃ z, m = z + 1 := ⟨m - 1, by omega⟩
  rw [petrinetref08_column.l0, if_neg (by omega), List.take_of_length_le (by omega)]
 | succ d ih =>
  intro m j h0 hd hm
  obtain ⟨m, rfl⟩ : ∃ z, m = z + 1 := ⟨m - 1, by omega⟩
  have := hr _ (rdL_mem h0 (show j < (a.length : Int) by omega))
  rw [petrinetref08_column.l0, if_pos (by omega), if_pos h0, if_pos hk, if_pos (by omega), if_pos (by simp [colM]; omega), colM_take h0 (by omega), wrap64_small (by omega) (by omega)]
  exact ih m (j + 1) (by omega) (by omega) (by omega)
theorem rcol_eq {a : List (List Int)} {n : Nat} (hl : a.length ≤ 1000000) (hr : ∀ r ∈ a, r.length = n) {k : Int} (hk : 0 ≤ k) (hk' : k < (n : Int)) (m : Nat) (hm : a.length + 2 ≤ m) : petrinetref08_column.f m a k = some (colM a k) := by
 have := rcol_l0 hl hr hk hk' a.length m 0 (by omega) (by omega) (by omega)
 exact this
theorem transM_take (a : List (List Int)) {j : Int} (h0 : 0 ≤ j) : (List.range j.toNat).map (fun k : Nat => colM a (k : Int)) ++ [colM a j] = (List.range (j + 1).toNat).map fun k : Nat => colM a (k : Int) := by
 rw [show (j + 1).toNat = j.toNat + 1 by omega, List.range_succ, List.map_append]
 simp only [List.map_cons, List.map_nil]
 rw [show ((j.toNat : Nat) : Int) = j by omega]
theorem rtrans_l0 {a : List (List Int)} {n : Nat} (hn : n ≤ 1000000) (hp : 1 ≤ a.length) (hl : a.length ≤ 1000000) (hr : ∀ r ∈ a, r.length = n) : ∀ (d m : Nat) (j : Int), 0 ≤ j → (n : Int) - j = d → d + a.length + 4 ≤ m →
  petrinetref08_Transpose.l0 m a ((List.range j.toNat).map fun k : Nat => colM a (k : Int)) j = some (transM a) := by
 have hn0 : (rd_L1 a 0).length = n := hr _ (rdL_mem (by omega) (by omega))
 intro d
 induction d with
 | zero =>
  intro m j h0 hd hm
  obtain ⟨m, rfl⟩ : ∃ z, m = z + 1 := ⟨m - 1, by omega⟩
  rw [petrinetref08_Transpose.l0, if_pos (by omega), if_neg (by omega)]
  unfold transM
  rw [hn0, show j.toNat = n by omega]
 | succ d ih =>
  intro m j h0 hd hm
  obtain ⟨m, rfl⟩ : ∃ z, m = z + 1 := ⟨m - 1, by omega⟩
  rw [petrinetref08_Transpose.l0, if_pos (by omega), if_pos (by omega), rcol_eq hl hr h0 (by omega) m (by omega)]
  simp only [Option.bind_some]
  rw [if_pos (by simp; omega), transM_take a h0, wrap64_small (by omega) (by omega)]
  exact ih m (j + 1) (by omega) (by omega) (by omega)
theorem mtrans_l1 {a : List (List Int)} {n : Nat} (hn : n ≤ 1000000) (hl : a.length ≤ 1000000) (hr : ∀ r ∈ a, r.length = n) {A B : List (List Int)} {c : Int} (hA : c = (A.length : Int)) (hc' : c < (n : Int)) : ∀ (d m : Nat) (j : Int), 0 ≤ j → (a.length : Int) - j = d → d + 2 ≤ m →
  ∃ m', m' + d + 1 = m ∧ matrix_Transpose.l1 m a (A ++ colM (a.take j.toNat) c :: B) c n c a (a.length : Int) j = matrix_Transpose.l0 m' a (A ++ colM a c :: B) n (wrap64 (c + 1)) := by
 intro d
 induction d with
 | zero =>
  intro m j h0 hd hm
  obtain ⟨m, rfl⟩ : ∃ z, m = z + 1 := ⟨m - 1, by omega⟩
  refine ⟨m, by omega, ?_⟩
  rw [matrix_Transpose.l1, if_neg (by omega), List.take_of_length_le (by omega)]
 | succ d ih =>
  intro m j h0 hd hm
  obtain ⟨m, rfl⟩ : ∃ z, m = z + 1 := ⟨m - 1, by omega⟩
  obtain ⟨m', hm', e⟩ := ih m (j + 1) (by omega) (by omega) (by omega)
  refine ⟨m', by omega, ?_⟩
  have := hr _ (rdL_mem h0 (show j < (a.length : Int) by omega))
  rw [matrix_Transpose.l1, if_pos (by omega), if_pos h0, if_pos (by omega), if_pos (by omega), if_pos (by simp; omega), if_pos (by omega), rdL_mid A B _ hA, if_pos (by simp [colM]; omega), set_mid A B _ _ (by omega), colM_take h0 (by omega), wrap64_small (by omega) (by omega)]
  exact e
theorem mtrans_l0 {a : List (List Int)} {n : Nat} (hn : n ≤ 1000000) (hp : 1 ≤ a.length) (hl : a.length ≤ 1000000) (hr : ∀ r ∈ a, r.length = n) : ∀ (d m : Nat) (j : Nat), (n : Int) - j = d → d * (a.length + 3) + 4 ≤ m →
  matrix_Transpose.l0 m a ((List.range j).map (fun k : Nat => colM a (k : Int)) ++ List.replicate d []) n j = some (transM a) := by
 have hn0 : (rd_L1 a 0).length = n := hr _ (rdL_mem (by omega) (by omega))
 intro d
 induction d with
 | zero =>
  intro m j hd hm
  obtain ⟨m, rfl⟩ : ∃ z, m = z + 1 := ⟨m - 1, by omega⟩
  rw [matrix_Transpose.l0, if_neg (by omega)]
  unfold transM
  rw [hn0, show j = n by omega]
  simp
 | succ d ih =>
  intro m j hd hm
  have e1 : (d + 1) * (a.length + 3) = d * (a.length + 3) + (a.length + 3) := Nat.succ_mul _ _
  obtain ⟨m, rfl⟩ : ∃ z, m = z + 1 := ⟨m - 1, by omega⟩
  rw [matrix_Transpose.l0, if_pos (by omega), List.replicate_succ]
  obtain ⟨m', hm', e⟩ := mtrans_l1 (A := (List.range j).map fun k : Nat => colM a (k : Int)) (B := List.replicate d []) hn hl hr (c := (j : Int)) (by simp) (by omega) a.length m 0 (by omega) (by omega) (by omega)
  have e2 : colM (a.take (0 : Int).toNat) (j : Int) = [] := rfl
  rw [e2] at e
  rw [e, wrap64_small (by omega) (by omega), show ((j : Int) + 1) = ((j + 1 : Nat) : Int) by omega]
  have := ih m' (j + 1) (by omega) (by omega)
  rw [List.range_succ, List.map_append] at this
  simpa using this
def transG (a : List (List Int)) : List (List Int) := if validB a = true then transM a else []
theorem mtrans_eq (a : List (List Int)) (m : Nat) (hm : 10000 ≤ m) : matrix_Transpose.f m a = some (transG a) := by
 unfold matrix_Transpose.f transG
 rw [mvalid_eq a m (by omega)]
 simp only [Option.bind_some]
 by_cases hv : validB a = true
 ·
  rw [if_pos hv, if_pos hv]
  obtain ⟨n, h1, h2, h3, h4, h5, h6⟩ := validB_iff.mp hv
  rw [if_pos (by omega), if_pos (by omega), if_pos (by omega), h6]
  have hb : n * (a.length + 3) ≤ 64 * 67 := Nat.mul_le_mul h4 (by omega)
  have := mtrans_l0 (a := a) (by omega) h1 (by omega) h5 n m 0 (by omega) (by omega)
  simpa using this
 ·
  rw [if_neg hv, if_neg hv]
theorem rtrans_eq (a : List (List Int)) (m : Nat) (hm : 10000 ≤ m) : petrinetref08_Transpose.f m a = some (transG a) := by
 unfold petrinetref08_Transpose.f transG
 rw [rvalid_eq a m (by omega)]
 simp only [Option.bind_some]
 by_cases hv : validB a = true
 ·
  rw [if_pos hv, if_pos hv]
  obtain ⟨n, h1, h2, h3, h4, h5, h6⟩ := validB_iff.mp hv
  exact rtrans_l0 (n := n) (by omega) h1 (by omega) h5 n m 0 (by omega) (by omega) (by omega)
 ·
  rw [if_neg hv, if_neg hv]
theorem transG_small (a : List (List Int)) : (transG a).length ≤ 64 ∧ ∀ r ∈ transG a, r.length ≤ 64 := by
 unfold transG
 by_cases hv : validB a = true
 ·
  rw [if_pos hv]
  obtain ⟨n, h1, h2, h3, h4, h5, h6⟩ := validB_iff.mp hv
  refine ⟨by simp [transM]; omega, fun r hr => ?_⟩
  simp only [transM, List.mem_map] at hr
  obtain ⟨k, _, rfl⟩ := hr
  simp [colM]
  omega
 ·
  rw [if_neg hv]
  simp
end Go.Proofs.Ytckefohfahphpaa.Z
end
section
namespace Go.Proofs.Ytckefohfahphpaa.Z
open Go.RowKit Go.Proofs.YtckefohfahphpaaW.PrintWords Go.Proofs.YtckefohfahphpaaW.PrintLast Go.Proofs.YtckefohfahphpaaW.PrintMore
attribute [local go_sem] max2_int min2_int max_two min_two max_three min_three max_four min_four   -- for this text's walks alone
set_option linter.unusedVariables false
set_option linter.unusedSimpArgs false

/-! ### vector_Dot: function 36 -/
def vector_Dot.l0 : Nat → List Int → Int → List Int → Int → Int → Option (Int × Int)
 | 0, _, _, _, _, _ => none
 | k + 1, x1, x6, x16, x17, x18 => if x18 < x17 then (if 0 ≤ x18 then (if x18 < (x16.length : Int) then (if x18 < (x1.length : Int) then ((safeint_Mul.f (rd x16 x18) (rd x1 x18)).bind fun bt226 => (if bt226.2 = true then ((safeint_Add.f x6 bt226.1).bind fun bt228 => (if bt228.2 = true then (vector_Dot.l0 k x1 bt228.1 x16 x17 (wrap64 (x18 + 1))) else (some (0, 3)))) else (some (0, 3)))) else (none)) else (none)) else (none)) else (some (x6, 0))
def vector_Dot.f (k : Nat) (l0 : List Int) (l1 : List Int) : Option (Int × Int) := if (l0.length : Int) = (l1.length : Int) then (vector_Dot.l0 k l1 0 l0 (l0.length : Int) 0) else (some (0, 2))
theorem vector_Dot.mono_l : ∀ k, (∀ y0 y1 y2 y3 y4, LeO (vector_Dot.l0 k y0 y1 y2 y3 y4) (vector_Dot.l0 (k + 1) y0 y1 y2 y3 y4))
 | 0 => fun _ _ _ _ _ r h => by simp [vector_Dot.l0] at h
 | k + 1 => by
  have ih0 := vector_Dot.mono_l k
  ·
   intro y0 y1 y2 y3 y4
   unfold vector_Dot.l0
   repeat' first
   | (with_reducible exact ih0 _ _ _ _ _)
   | (with_reducible exact LeO.refl _)
   | (with_reducible exact LeO.none _)
   | (with_reducible refine LeO.ite ?_ ?_)
   | (with_reducible refine LeO.bind ?_ (fun _ => ?_))
   | exact ih0 _ _ _ _ _
   | exact LeO.none _
   | refine LeO.ite ?_ ?_
   | refine LeO.bind ?_ (fun _ => ?_)
theorem vector_Dot.mono : ∀ a0 a1 k, LeO (vector_Dot.f k a0 a1) (vector_Dot.f (k + 1) a0 a1) := by
 intro a0 a1 k
 have ih0 := vector_Dot.mono_l k
 unfold vector_Dot.f
 repeat' first
   | (with_reducible exact ih0 _ _ _ _ _)
   | (with_reducible exact LeO.refl _)
   | (with_reducible exact LeO.none _)
   | (with_reducible refine LeO.ite ?_ ?_)
   | (with_reducible refine LeO.bind ?_ (fun _ => ?_))
   | exact ih0 _ _ _ _ _
   | exact LeO.none _
   | refine LeO.ite ?_ ?_
   | refine LeO.bind ?_ (fun _ => ?_)
set_option maxHeartbeats 8000000 in
set_option maxRecDepth 100000 in
theorem vector_Dot.calls (k : Nat) (A0 : Option Addr) (c0 : Nat) (l0 : List Int) (A1 : Option Addr) (c1 : Nat) (l1 : List Int) (r1 : Int) (r2 : Int) (w : World) (hr0 : Kd.C (Kd.int .i64) w A0 l0.length l0) (hc0 : l0.length ≤ c0) (hr1 : Kd.C (Kd.int .i64) w A1 l1.length l1) (hc1 : l1.length ≤ c1) (h : vector_Dot.f k l0 l1 = some (r1, r2)) :
  Calls Try.prog 36 #[.slice A0 l0.length c0, .slice A1 l1.length c1] w fun e w' => e = .returned (.tuple #[.int .i64 r1, .int .i64 r2]) ∧ Below w.heap.size w w' := by
 have HR0 := Aside0.mk hr0
 have HC0 := Aside0.mk hc0
 clear hr0 hc0
 have HR1 := Aside0.mk hr1
 have HC1 := Aside0.mk hc1
 clear hr1 hc1
 have HB := Aside0.mk (Below.refl w.heap.size w)
 have H : (if (l0.length : Int) = (l1.length : Int) then (vector_Dot.l0 k l1 0 l0 (l0.length : Int) 0) else (some (0, 2))) = some (r1, r2) := h
 clear h
 by_cases c3 : (l0.length : Int) = (l1.length : Int)
 ·
  rw [if_pos c3] at H
  have c3b0 : ((l0.length : Int) == (l1.length : Int)) = true := beq_iff_eq.mpr c3
  have c3b1 : ((l0.length : Int) != (l1.length : Int)) = false := bne_eq_false_iff_eq.mpr c3
  have c3b2 : (l0.length == l1.length) = true := by first | simpa using c3 | (simp at c3 ⊢; omega)
  clear c3
  have H' := Aside0.mk H
  clear H
  go_enter Try.func36, Try.ntmps36
  go_wp2
  go_loopg [6, 18] k (fun kq v6 v18 w' => ∃ (x6_1 : Int) (x18_1 : Int), v6 = .int .i64 x6_1 ∧ v18 = .int .i64 x18_1 ∧ Aside0 (vector_Dot.l0 kq l1 x6_1 l0 (l0.length : Int) x18_1 = some (r1, r2)) ∧ Aside0 (kq ≤ k) ∧ Aside0 (Below w.heap.size w w'))
  case atStart => exact ⟨(0), (0), (by first | rfl | (simp; done) | (simp [*]; done)), (by first | rfl | (simp; done) | (simp [*]; done)), H', ⟨Nat.le_refl _⟩, ⟨by repeat (first | (with_reducible first | exact HB.out | apply below_alloc | apply pw_below_drewN | apply below_drew1) | exact HB.out)⟩⟩
  case round =>
   clear H'
   try clear c1
   try clear p2
   try clear c3
   try clear c3b0
   try clear c3b1
   try clear c3b2
   obtain ⟨x6_1, x18_1, rfl, rfl, HA, HK1, HB⟩ := hrel
   cases gk with
   | zero => exact absurd HA.out (by simp [vector_Dot.l0])
   | succ k1 =>
    have H := HA.out
    clear HA
    simp only [vector_Dot.l0] at H
    by_cases c4 : x18_1 < (l0.length : Int)
    ·
     rw [if_pos c4] at H
     have c4b0 : decide (x18_1 < (l0.length : Int)) = true := decide_eq_true c4
     clear c4
     by_cases c5 : 0 ≤ x18_1
     ·
      rw [if_pos c5] at H
      have c5b0 : decide (0 ≤ x18_1) = true := decide_eq_true c5
      clear c5
      by_cases c6 : x18_1 < (l0.length : Int)
      ·
       rw [if_pos c6] at H
       have c6b0 : decide (x18_1 < (l0.length : Int)) = true := decide_eq_true c6
       clear c6
       by_cases c7 : x18_1 < (l1.length : Int)
       ·
        rw [if_pos c7] at H
        have c7b0 : decide (x18_1 < (l1.length : Int)) = true := decide_eq_true c7
        clear c7
        replace H := Option.bind_eq_some_iff.mp H
        obtain ⟨⟨t226, t227⟩, A80, H⟩ := H
        replace H : (if t227 = true then ((safeint_Add.f x6_1 t226).bind fun bt228 => (if bt228.2 = true then (vector_Dot.l0 k1 l1 bt228.1 l0 (l0.length : Int) (wrap64 (x18_1 + 1))) else (some (0, 3)))) else (some (0, 3))) = some (r1, r2) := H
        have A8 := Aside0.mk A80
        clear A80
        by_cases c9 : t227 = true
        ·
         subst c9
         have H1 : ((safeint_Add.f x6_1 t226).bind fun bt228 => (if bt228.2 = true then (vector_Dot.l0 k1 l1 bt228.1 l0 (l0.length : Int) (wrap64 (x18_1 + 1))) else (some (0, 3)))) = some (r1, r2) := by rw [if_pos rfl] at H; exact H
         clear H
         have H := H1
         clear H1
         replace H := Option.bind_eq_some_iff.mp H
         obtain ⟨⟨t228, t229⟩, A100, H⟩ := H
         replace H : (if t229 = true then (vector_Dot.l0 k1 l1 t228 l0 (l0.length : Int) (wrap64 (x18_1 + 1))) else (some (0, 3))) = some (r1, r2) := H
         have A10 := Aside0.mk A100
         clear A100
         by_cases c11 : t229 = true
         ·
          subst c11
          have H1 : (vector_Dot.l0 k1 l1 t228 l0 (l0.length : Int) (wrap64 (x18_1 + 1))) = some (r1, r2) := by rw [if_pos rfl] at H; exact H
          clear H
          have H := H1
          clear H1
          have H' := Aside0.mk H
          clear H
          have p224 : 0 ≤ (x18_1 : Int) := of_decide_eq_true (by first | (with_reducible assumption) | assumption)
          have q224 : x18_1 < (l0.length : Int) := of_decide_eq_true (by first | (with_reducible assumption) | assumption)
          obtain ⟨ad224, e224, hx224_0⟩ := Kd.at_int HR0.out x18_1 p224 q224
          cases e224
          replace hx224_0 := (HB.out.cell (World.block_lt_of_cell? w _ hx224_0)).trans hx224_0
          replace p224 := eq_true p224
          replace q224 := eq_true q224
          have p225 : 0 ≤ (x18_1 : Int) := of_decide_eq_true (by first | (with_reducible assumption) | assumption)
          have q225 : x18_1 < (l1.length : Int) := of_decide_eq_true (by first | (with_reducible assumption) | assumption)
          obtain ⟨ad225, e225, hx225_0⟩ := Kd.at_int HR1.out x18_1 p225 q225
          cases e225
          replace hx225_0 := (HB.out.cell (World.block_lt_of_cell? w _ hx225_0)).trans hx225_0
          replace p225 := eq_true p225
          replace q225 := eq_true q225
          go_wp2_with (first | ((with_reducible refine gate_callee (f := 42) rfl ?_); refine goesL_ (some 29) rfl rfl Try.func42 (by kernel_rfl) rfl #[.int .i64 (rd l0 x18_1), .int .i64 (rd l1 x18_1)] rfl (by (try simp only [List.map_toArray, List.map_cons, List.map_nil]); first | done | rfl | (simp only [List.length_drop, List.length_take]; rfl)) ?_; (with_reducible refine (safeint_Mul.calls (rd l0 x18_1) (rd l1 x18_1) t226 true _ A8.out).mono ?_); rintro e w12 ⟨rfl, hb⟩; refine ⟨_, rfl, ?_⟩; have n0_ := Aside0.mk (below_step (by repeat (first | (with_reducible first | exact HB.out | apply below_alloc | apply pw_below_drewN | apply below_drew1) | exact HB.out)) hb); clear HB; have HB := n0_; clear n0_; (try clear hb); (try clear hb2); (try clear hk); (try clear hi)) | ((with_reducible refine gate_callee (f := 45) rfl ?_); refine goesL_ (some 37) rfl rfl Try.func45 (by kernel_rfl) rfl #[.int .i64 x6_1, .int .i64 t226] rfl (by (try simp only [List.map_toArray, List.map_cons, List.map_nil]); first | done | rfl | (simp only [List.length_drop, List.length_take]; rfl)) ?_; (with_reducible refine (safeint_Add.calls x6_1 t226 t228 true _ A10.out).mono ?_); rintro e w' ⟨rfl, ⟨nd, rfl⟩⟩; refine ⟨_, rfl, ?_⟩))
          go_roundg k1
          case measure => have := HK1.out; omega
          case rel => exact ⟨(t228), (wrap64 (x18_1 + 1)), (by first | rfl | (simp; done) | (simp [*]; done)), (by first | rfl | (simp; done) | (simp [*]; done)), H', ⟨by have := HK1.out; omega⟩, ⟨by repeat (first | (with_reducible first | exact HB.out | apply below_alloc | apply pw_below_drewN | apply below_drew1) | exact HB.out)⟩⟩
         ·
          replace c11 := Bool.eq_false_iff.mpr c11
          subst c11
          have H1 : (some (0, 3)) = some (r1, r2) := by rw [if_neg (show ¬ (false = true) by decide)] at H; exact H
          clear H
          have H := H1
          clear H1
          simp only [Option.some.injEq, Prod.mk.injEq] at H
          obtain ⟨rfl, rfl⟩ := H
          have p224 : 0 ≤ (x18_1 : Int) := of_decide_eq_true (by first | (with_reducible assumption) | assumption)
          have q224 : x18_1 < (l0.length : Int) := of_decide_eq_true (by first | (with_reducible assumption) | assumption)
          obtain ⟨ad224, e224, hx224_0⟩ := Kd.at_int HR0.out x18_1 p224 q224
          cases e224
          replace hx224_0 := (HB.out.cell (World.block_lt_of_cell? w _ hx224_0)).trans hx224_0
          replace p224 := eq_true p224
          replace q224 := eq_true q224
          have p225 : 0 ≤ (x18_1 : Int) := of_decide_eq_true (by first | (with_reducible assumption) | assumption)
          have q225 : x18_1 < (l1.length : Int) := of_decide_eq_true (by first | (with_reducible assumption) | assumption)
          obtain ⟨ad225, e225, hx225_0⟩ := Kd.at_int HR1.out x18_1 p225 q225
          cases e225
          replace hx225_0 := (HB.out.cell (World.block_lt_of_cell? w _ hx225_0)).trans hx225_0
          replace p225 := eq_true p225
          replace q225 := eq_true q225
          go_wp2_with (first | ((with_reducible refine gate_callee (f := 42) rfl ?_); refine goesL_ (some 29) rfl rfl Try.func42 (by kernel_rfl) rfl #[.int .i64 (rd l0 x18_1), .int .i64 (rd l1 x18_1)] rfl (by (try simp only [List.map_toArray, List.map_cons, List.map_nil]); first | done | rfl | (simp only [List.length_drop, List.length_take]; rfl)) ?_; (with_reducible refine (safeint_Mul.calls (rd l0 x18_1) (rd l1 x18_1) t226 true _ A8.out).mono ?_); rintro e w13 ⟨rfl, hb⟩; refine ⟨_, rfl, ?_⟩; have n0_ := Aside0.mk (below_step (by repeat (first | (with_reducible first | exact HB.out | apply below_alloc | apply pw_below_drewN | apply below_drew1) | exact HB.out)) hb); clear HB; have HB := n0_; clear n0_; (try clear hb); (try clear hb2); (try clear hk); (try clear hi)) | ((with_reducible refine gate_callee (f := 45) rfl ?_); refine goesL_ (some 37) rfl rfl Try.func45 (by kernel_rfl) rfl #[.int .i64 x6_1, .int .i64 t226] rfl (by (try simp only [List.map_toArray, List.map_cons, List.map_nil]); first | done | rfl | (simp only [List.length_drop, List.length_take]; rfl)) ?_; (with_reducible refine (safeint_Add.calls x6_1 t226 t228 false _ A10.out).mono ?_); rintro e w' ⟨rfl, ⟨nd, rfl⟩⟩; refine ⟨_, rfl, ?_⟩))
          go_ret2
          exact ⟨by first | rfl | (simp [errW_none, errW_some] <;> rfl) | (simp [*, errW_none, errW_some] <;> rfl), by repeat (first | (with_reducible first | exact HB.out | apply below_alloc | apply pw_below_drewN | apply below_drew1) | exact HB.out)⟩
        ·
         replace c9 := Bool.eq_false_iff.mpr c9
         subst c9
         have H1 : (some (0, 3)) = some (r1, r2) := by rw [if_neg (show ¬ (false = true) by decide)] at H; exact H
         clear H
         have H := H1
         clear H1
         simp only [Option.some.injEq, Prod.mk.injEq] at H
         obtain ⟨rfl, rfl⟩ := H
         have p224 : 0 ≤ (x18_1 : Int) := of_decide_eq_true (by first | (with_reducible assumption) | assumption)
         have q224 : x18_1 < (l0.length : Int) := of_decide_eq_true (by first | (with_reducible assumption) | assumption)
         obtain ⟨ad224, e224, hx224_0⟩ := Kd.at_int HR0.out x18_1 p224 q224
         cases e224
         replace hx224_0 := (HB.out.cell (World.block_lt_of_cell? w _ hx224_0)).trans hx224_0
         replace p224 := eq_true p224
         replace q224 := eq_true q224
         have p225 : 0 ≤ (x18_1 : Int) := of_decide_eq_true (by first | (with_reducible assumption) | assumption)
         have q225 : x18_1 < (l1.length : Int) := of_decide_eq_true (by first | (with_reducible assumption) | assumption)
         obtain ⟨ad225, e225, hx225_0⟩ := Kd.at_int HR1.out x18_1 p225 q225
         cases e225
         replace hx225_0 := (HB.out.cell (World.block_lt_of_cell? w _ hx225_0)).trans hx225_0
         replace p225 := eq_true p225
         replace q225 := eq_true q225
         go_wp2_with (first | ((with_reducible refine gate_callee (f := 42) rfl ?_); refine goesL_ (some 29) rfl rfl Try.func42 (by kernel_rfl) rfl #[.int .i64 (rd l0 x18_1), .int .i64 (rd l1 x18_1)] rfl (by (try simp only [List.map_toArray, List.map_cons, List.map_nil]); first | done | rfl | (simp only [List.length_drop, List.length_take]; rfl)) ?_; (with_reducible refine (safeint_Mul.calls (rd l0 x18_1) (rd l1 x18_1) t226 false _ A8.out).mono ?_); rintro e w14 ⟨rfl, hb⟩; refine ⟨_, rfl, ?_⟩; have n0_ := Aside0.mk (below_step (by repeat (first | (with_reducible first | exact HB.out | apply below_alloc | apply pw_below_drewN | apply below_drew1) | exact HB.out)) hb); clear HB; have HB := n0_; clear n0_; (try clear hb); (try clear hb2); (try clear hk); (try clear hi)))
         go_ret2
         exact ⟨by first | rfl | (simp [errW_none, errW_some] <;> rfl) | (simp [*, errW_none, errW_some] <;> rfl), by repeat (first | (with_reducible first | exact HB.out | apply below_alloc | apply pw_below_drewN | apply below_drew1) | exact HB.out)⟩
       ·
        rw [if_neg c7] at H
        exact absurd H (by simp)
      ·
       rw [if_neg c6] at H
       exact absurd H (by simp)
     ·
      rw [if_neg c5] at H
      exact absurd H (by simp)
    ·
     rw [if_neg c4] at H
     have c4b0 : decide (x18_1 < (l0.length : Int)) = false := decide_eq_false c4
     clear c4
     simp only [Option.some.injEq, Prod.mk.injEq] at H
     obtain ⟨rfl, rfl⟩ := H
     go_wp2
     go_ret2
     exact ⟨by first | rfl | (simp [errW_none, errW_some] <;> rfl) | (simp [*, errW_none, errW_some] <;> rfl), by repeat (first | (with_reducible first | exact HB.out | apply below_alloc | apply pw_below_drewN | apply below_drew1) | exact HB.out)⟩
 ·
  rw [if_neg c3] at H
  have c3b0 : ((l0.length : Int) == (l1.length : Int)) = false := beq_eq_false_iff_ne.mpr c3
  have c3b1 : ((l0.length : Int) != (l1.length : Int)) = true := bne_iff_ne.mpr c3
  have c3b2 : (l0.length == l1.length) = false := by first | simpa using c3 | (simp at c3 ⊢; omega)
  simp only [Option.some.injEq, Prod.mk.injEq] at H
  obtain ⟨rfl, rfl⟩ := H
  go_enter Try.func36, Try.ntmps36
  go_wp2
  go_ret2
  exact ⟨by first | rfl | (simp [errW_none, errW_some] <;> rfl) | (simp [*, errW_none, errW_some] <;> rfl), by repeat (first | (with_reducible first | exact HB.out | apply below_alloc | apply pw_below_drewN | apply below_drew1) | exact HB.out)⟩

end Go.Proofs.Ytckefohfahphpaa.Z
end
section
namespace Go.Proofs.Ytckefohfahphpaa.Z
open Go.RowKit Go.Proofs.YtckefohfahphpaaW.PrintWords Go.Proofs.YtckefohfahphpaaW.PrintLast Go.Proofs.YtckefohfahphpaaW.PrintMore
set_option linter.unusedVariables false
set_option linter.unusedSimpArgs false
def chk (z : Int) : Int × Bool := if in64 z then (z, true) else (0, false)
theorem add_eq {a b : Int} (ha : in64 a) (hb : in64 b) : safeint_Add.f a b = some (chk (a + b)) := by
 unfold safeint_Add.f chk
 obtain ⟨a1, a2⟩ := ha
 obtain ⟨b1, b2⟩ := hb
 by_cases h : in64 (a + b)
 ·
  rw [if_pos h, wrap64_id h]
  obtain ⟨h1, h2⟩ := h
  unfold wrap64
  repeat' split
  all_goals first | rfl | (exfalso; omega)
 ·
  rw [if_neg h]
  have h' : a + b < -9223372036854775808 ∨ 9223372036854775807 < a + b := by unfold in64 at h; omega
  unfold wrap64
  repeat' split
  all_goals first | rfl | (exfalso; omega)
theorem mul_eq {a b : Int} (ha : in64 a) (hb : in64 b) : safeint_Mul.f a b = some (chk (a * b)) := by
 unfold safeint_Mul.f chk
 rw [if_pos ⟨ha, hb⟩]
theorem chk_in (z : Int) : in64 (chk z).1 := by
 unfold chk
 split
 ·
  assumption
 ·
  exact ⟨by decide, by decide⟩
theorem chk_ok {z : Int} (h : in64 z) : chk z = (z, true) := by unfold chk; rw [if_pos h]
theorem chk_no {z : Int} (h : ¬ in64 z) : chk z = (0, false) := by unfold chk; rw [if_neg h]
def ok64 (l : List Int) : Prop := ∀ x ∈ l, in64 x
theorem ok64_wf {l : List Int} (h : ∀ x ∈ l, (Lit.int .i64 x).wf = true) : ok64 l := fun x hx => wf64.mp (h x hx)
theorem rd_mem {l : List Int} {i : Int} (h0 : 0 ≤ i) (h1 : i < (l.length : Int)) : rd l i ∈ l := by
 have : i.toNat < l.length := by omega
 unfold rd
 rw [List.getD_eq_getElem?_getD, List.getElem?_eq_getElem this]
 exact List.getElem_mem this
theorem ok64_rd {l : List Int} (h : ok64 l) {i : Int} (h0 : 0 ≤ i) (h1 : i < (l.length : Int)) : in64 (rd l i) := h _ (rd_mem h0 h1)
theorem drop_rd {l : List Int} {i : Int} (h0 : 0 ≤ i) (h1 : i < (l.length : Int)) : l.drop i.toNat = rd l i :: l.drop (i + 1).toNat := by
 have h2 : i.toNat < l.length := by omega
 have h3 : (i + 1).toNat = i.toNat + 1 := by omega
 have h4 := drop_cons_rd h2
 rw [h3, h4]
 congr 2
 omega
theorem drop_end {l : List Int} {i : Int} (h1 : (l.length : Int) ≤ i) : l.drop i.toNat = [] := List.drop_of_length_le (by omega)
def zipP (P : Int → Int → Bool) (op : Int → Int → Int) : List Int → List Int → List Int → List Int × Int
 | x :: a, y :: b, acc => if P x y = true then zipP P op a b (acc ++ [op x y]) else ([], 3)
 | _, _, acc => (acc, 0)
theorem each_zip {g : Int → Int → Option (Int × Bool)} {P : Int → Int → Bool} {op : Int → Int → Int} : ∀ (a b acc : List Int), (∀ x ∈ a, ∀ y ∈ b, g x y = some (if P x y = true then (op x y, true) else (0, false))) → each_go g a b acc = some (zipP P op a b acc)
 | x :: a, y :: b, acc, h => by
  rw [each_go, zipP, h x (by simp) y (by simp)]
  simp only [Option.bind_some]
  by_cases hp : P x y = true
  ·
   simp only [hp, if_true]
   exact each_zip a b _ (fun u hu v hv => h u (by simp [hu]) v (by simp [hv]))
  ·
   simp only [hp]
   simp
 | [], [], acc, _ => by simp [each_go, zipP]
 | [], _ :: _, acc, _ => by simp [each_go, zipP]
 | _ :: _, [], acc, _ => by simp [each_go, zipP]
def combP (i k x y : Int) : Bool := decide (in64 (x * i)) && decide (in64 (y * k)) && decide (in64 (x * i + y * k))
theorem chk_if (z : Int) : some (chk z) = some (if decide (in64 z) = true then (z, true) else (0, false)) := by
 unfold chk
 by_cases h : in64 z
 ·
  rw [if_pos h, if_pos (decide_eq_true h)]
 ·
  rw [if_neg h, if_neg (by simp [h])]
theorem comb_eq {i k x y : Int} (hi : in64 i) (hk : in64 k) (hx : in64 x) (hy : in64 y) : comb i k x y = some (if combP i k x y = true then (x * i + y * k, true) else (0, false)) := by
 unfold comb combP
 rw [mul_eq hx hi, mul_eq hy hk]
 by_cases h1 : in64 (x * i)
 ·
  rw [chk_ok h1]
  simp only [Option.bind_some, if_true]
  by_cases h2 : in64 (y * k)
  ·
   rw [chk_ok h2]
   simp only [if_true]
   rw [add_eq h1 h2, chk_if]
   simp [h1, h2]
  ·
   rw [chk_no h2]
   simp [h2]
 ·
  rw [chk_no h1]
  simp [h1]
theorem vcomb_eq {a b : List Int} {i k : Int} (ha : ok64 a) (hb : ok64 b) (hi : in64 i) (hk : in64 k) (hl : a.length ≤ 100) : vector_Combine.f a i b k = some (if a.length = b.length then zipP (combP i k) (fun x y => x * i + y * k) a b [] else ([], 2)) := by
 unfold vector_Combine.f each_f
 rw [if_pos (by omega)]
 split
 ·
  exact each_zip a b [] (fun x hx y hy => comb_eq hi hk (ha x hx) (hb y hy))
 ·
  rfl
def scaleP (k x _ : Int) : Bool := decide (in64 (x * k))
theorem vscale_eq {a : List Int} {k : Int} (ha : ok64 a) (hk : in64 k) (hl : a.length ≤ 100) : vector_Scale.f a k = some (zipP (scaleP k) (fun x _ => x * k) a a []) := by
 unfold vector_Scale.f each_f
 rw [if_pos (by omega), if_pos rfl]
 exact each_zip a a [] (fun x hx y hy => by rw [mul_eq (ha x hx) hk, chk_if]; rfl)
def dotG : List Int → List Int → Int → Int × Int
 | x :: a, y :: b, s => if in64 (x * y) then (if in64 (s + x * y) then dotG a b (s + x * y) else (0, 3)) else (0, 3)
 | _, _, s => (s, 0)
theorem vdot_l0 {a b : List Int} (ha : ok64 a) (hb : ok64 b) (hl : a.length ≤ 100) (he : a.length = b.length) :
  ∀ (d n : Nat) (j s : Int), 0 ≤ j → (a.length : Int) - j = d → d + 2 ≤ n → in64 s → vector_Dot.l0 n b s a (a.length : Int) j = some (dotG (a.drop j.toNat) (b.drop j.toNat) s) := by
 intro d
 induction d with
 | zero =>
  intro n j s h0 hd hn hs
  obtain ⟨n, rfl⟩ : ∃ m, n = m + 1 := ⟨n - 1, by omega⟩
  simp only [vector_Dot.l0]
  rw [if_neg (by omega), drop_end (by omega)]
  simp [dotG]
 | succ d ih =>
  intro n j s h0 hd hn hs
  obtain ⟨n, rfl⟩ : ∃ m, n = m + 1 + 1 := ⟨n - 2, by omega⟩
  have h1 : j < (a.length : Int) := by omega
  have h2 : j < (b.length : Int) := by omega
  have xa := ok64_rd ha h0 h1
  have xb := ok64_rd hb h0 h2
  rw [vector_Dot.l0, if_pos h1, if_pos h0, if_pos h1, if_pos h2, mul_eq xa xb]
  simp only [Option.bind_some]
  rw [drop_rd h0 h1, drop_rd h0 h2, dotG]
  by_cases e1 : in64 (rd a j * rd b j)
  ·
   rw [chk_ok e1, if_pos e1]
   simp only [if_true]
   rw [add_eq hs e1]
   simp only [Option.bind_some]
   by_cases e2 : in64 (s + rd a j * rd b j)
   ·
    rw [chk_ok e2, if_pos e2]
    simp only [if_true]
    rw [wrap64_id ⟨by omega, by omega⟩, ih (n + 1) (j + 1) _ (by omega) (by omega) (by omega) e2]
   ·
    rw [chk_no e2, if_neg e2]
    simp
  ·
   rw [chk_no e1, if_neg e1]
   simp
theorem vdot_eq {a b : List Int} (ha : ok64 a) (hb : ok64 b) (hl : a.length ≤ 100) (n : Nat) (hn : 102 ≤ n) : vector_Dot.f n a b = some (if a.length = b.length then dotG a b 0 else (0, 2)) := by
 unfold vector_Dot.f
 by_cases h : a.length = b.length
 ·
  rw [if_pos (by omega), if_pos h, vdot_l0 ha hb hl h a.length n 0 0 (by omega) (by omega) (by omega) ⟨by decide, by decide⟩]
  simp
 ·
  rw [if_neg (by omega), if_neg h]
def gcdL : List Int → Int → Int
 | [], g => g
 | x :: a, g => gcdL a (Int.gcd g x : Int)
theorem gcdL_nonneg : ∀ (a : List Int) (g : Int), 0 ≤ g → 0 ≤ gcdL a g
 | [], _, h => h
 | _ :: a, _, _ => gcdL_nonneg a _ (by omega)
def least : Int := -9223372036854775808
theorem gcd_le_right {g x : Int} (hx : x ≠ 0) : (Int.gcd g x : Int) ≤ (x.natAbs : Int) := by
 have := Nat.gcd_le_right (n := x.natAbs) g.natAbs (by omega)
 show ((Nat.gcd g.natAbs x.natAbs : Nat) : Int) ≤ _
 omega
theorem gcd_bound {g x : Int} (hg : 0 ≤ g) (hg' : g ≤ 9223372036854775807) (hx : in64 x) (hl : x ≠ least) : (Int.gcd g x : Int) ≤ 9223372036854775807 := by
 unfold in64 at hx
 unfold least at hl
 by_cases h : x = 0
 ·
  subst h
  simp
  omega
 ·
  have := gcd_le_right (g := g) h
  omega
def primG (a : List Int) : List Int × Int := if least ∈ a then ([], 3) else (a.map fun x => if gcdL a 0 > 0 then Int.tdiv x (gcdL a 0) else 0, 0)
theorem rd_take_all {l : List Int} {f : Int → Int} {j : Nat} (h : j < l.length) : (l.map f).take (j + 1) = (l.map f).take j ++ [f (rd l j)] := by
 rw [List.take_succ_eq_append_getElem (by simpa using h)]
 simp [rd, List.getD_eq_getElem?_getD, h]
theorem tdiv_in {x g : Int} (hx : in64 x) (hg : 0 < g) : in64 (Int.tdiv x g) := by
 unfold in64 at *
 have h : (Int.tdiv x g).natAbs = x.natAbs / g.natAbs := Int.natAbs_tdiv x g
 have h1 : x.natAbs / g.natAbs ≤ x.natAbs := Nat.div_le_self _ _
 by_cases h2 : 0 ≤ x
 ·
  have := Int.tdiv_nonneg h2 (Int.le_of_lt hg)
  omega
 ·
  have h3 : Int.tdiv x g ≤ 0 := by
   have := Int.neg_tdiv x g
   have h4 := Int.tdiv_nonneg (a := -x) (b := g) (by omega) (Int.le_of_lt hg)
   omega
  omega
theorem vprim_l1 {a : List Int} {g : Int} (ha : ok64 a) (hl : a.length ≤ 1000000) :
  ∀ (d n : Nat) (j : Nat), (a.length : Int) - j = d → d + 2 ≤ n → vector_Prim.l1 n g ((a.map fun x => if g > 0 then Int.tdiv x g else 0).take j ++ List.replicate (a.length - j) 0) a (a.length : Int) j = some (a.map fun x => if g > 0 then Int.tdiv x g else 0, 0) := by
 intro d
 induction d with
 | zero =>
  intro n j hd hn
  obtain ⟨n, rfl⟩ : ∃ m, n = m + 1 := ⟨n - 1, by omega⟩
  simp only [vector_Prim.l1]
  rw [if_neg (by omega), List.take_of_length_le (by simp; omega), show a.length - j = 0 by omega]
  simp
 | succ d ih =>
  intro n j hd hn
  obtain ⟨n, rfl⟩ : ∃ m, n = m + 1 + 1 := ⟨n - 2, by omega⟩
  have h1 : (j : Int) < (a.length : Int) := by omega
  have ht := rd_take_all (l := a) (f := fun x => if g > 0 then Int.tdiv x g else 0) (j := j) (by omega)
  have hw : wrap64 ((j : Int) + 1) = ((j + 1 : Nat) : Int) := by rw [wrap64_id ⟨by omega, by omega⟩]; omega
  have hr : a.length - j = (a.length - (j + 1)) + 1 := by omega
  have hlen : ((a.map fun x => if g > 0 then Int.tdiv x g else 0).take j).length = j := by simp; omega
  rw [vector_Prim.l1, if_pos h1, if_pos (by omega), if_pos h1]
  by_cases hp : g > 0
  ·
   rw [if_pos hp, if_neg (by omega), if_pos (by simp; omega), hw]
   have hs := set_zeros (acc := (a.map fun x => if g > 0 then Int.tdiv x g else 0).take j) (m := a.length - (j + 1)) (Int.tdiv (rd a j) g)
   rw [hlen] at hs
   rw [wrap64_id (tdiv_in (ok64_rd ha (by omega) h1) hp), show ((j : Int)).toNat = j by omega, hr, hs]
   have := ih (n + 1) (j + 1) (by omega) (by omega)
   rw [ht] at this
   simp only [if_pos hp] at this ⊢
   exact this
  ·
   rw [if_neg hp, hw]
   have := ih (n + 1) (j + 1) (by omega) (by omega)
   rw [ht] at this
   rw [hr, List.replicate_succ]
   simp only [if_neg hp] at this ⊢
   simpa using this
theorem vprim_l0 {a : List Int} (ha : ok64 a) (hl : a.length ≤ 1000000) :
  ∀ (d n : Nat) (j g : Int), 0 ≤ j → (a.length : Int) - j = d → d + a.length + 4 ≤ n → 0 ≤ g → g ≤ 9223372036854775807 →
   vector_Prim.l0 n a g a (a.length : Int) j = some (if least ∈ a.drop j.toNat then ([], 3) else (a.map fun x => if gcdL (a.drop j.toNat) g > 0 then Int.tdiv x (gcdL (a.drop j.toNat) g) else 0, 0)) := by
 intro d
 induction d with
 | zero =>
  intro n j g h0 hd hn hg hg'
  obtain ⟨n, rfl⟩ : ∃ m, n = m + 1 := ⟨n - 1, by omega⟩
  simp only [vector_Prim.l0]
  rw [if_neg (by omega), drop_end (by omega), if_pos (by omega), if_pos (by omega)]
  have := vprim_l1 (g := g) ha hl a.length n 0 (by omega) (by omega)
  simp only [List.take_zero, List.nil_append, Nat.sub_zero] at this
  simp only [gcdL, List.not_mem_nil, if_false]
  rw [show ((a.length : Int) : Int).toNat = a.length by omega]
  exact this
 | succ d ih =>
  intro n j g h0 hd hn hg hg'
  obtain ⟨n, rfl⟩ : ∃ m, n = m + 1 + 1 := ⟨n - 2, by omega⟩
  have h1 : j < (a.length : Int) := by omega
  have hx := ok64_rd ha h0 h1
  rw [vector_Prim.l0, if_pos h1, if_pos h0, if_pos h1, drop_rd h0 h1]
  by_cases e : rd a j = -9223372036854775808
  ·
   rw [if_pos e, if_pos (by rw [e]; simp [least])]
  ·
   rw [if_neg e]
   have hb := gcd_bound hg hg' hx e
   have hgc : safeint_Gcd.f g (rd a j) = some ((Int.gcd g (rd a j) : Int), true) := by
    unfold safeint_Gcd.f
    rw [if_pos ⟨⟨by omega, hg'⟩, hx⟩, if_pos hb]
   rw [hgc]
   simp only [Option.bind_some]
   rw [wrap64_id ⟨by omega, by omega⟩, ih (n + 1) (j + 1) _ (by omega) (by omega) (by omega) (by omega) hb]
   have e' : ¬ least = rd a j := fun h => e h.symm
   simp only [List.mem_cons, e', false_or, gcdL]
   rfl
theorem vprim_eq {a : List Int} (ha : ok64 a) (hl : a.length ≤ 1000000) (n : Nat) (hn : 2 * a.length + 4 ≤ n) : vector_Prim.f n a = some (primG a) := by
 unfold vector_Prim.f primG
 rw [vprim_l0 ha hl a.length n 0 0 (by omega) (by omega) (by omega) (by omega) (by omega)]
 simp
theorem abs_mul_le {x y m n : Int} (hx : -m ≤ x ∧ x ≤ m) (hy : -n ≤ y ∧ y ≤ n) (hm : 0 ≤ m) (hn : 0 ≤ n) : -(m * n) ≤ x * y ∧ x * y ≤ m * n := by
 have h : (x * y).natAbs ≤ (m * n).natAbs := by
  rw [Int.natAbs_mul, Int.natAbs_mul]
  exact Nat.mul_le_mul (by omega) (by omega)
 have := Int.mul_nonneg hm hn
 omega
theorem zip_all {P : Int → Int → Bool} {op : Int → Int → Int} : ∀ (a b acc : List Int), (∀ x ∈ a, ∀ y ∈ b, P x y = true) → zipP P op a b acc = (acc ++ List.zipWith op a b, 0)
 | x :: a, y :: b, acc, h => by
  rw [zipP, if_pos (h x (by simp) y (by simp)), zip_all a b _ (fun u hu v hv => h u (by simp [hu]) v (by simp [hv]))]
  simp
 | [], [], acc, _ => by simp [zipP]
 | [], _ :: _, acc, _ => by simp [zipP]
 | _ :: _, [], acc, _ => by simp [zipP]
theorem zipWith_mem {op : Int → Int → Int} {z : Int} : ∀ {a b : List Int}, z ∈ List.zipWith op a b → ∃ x ∈ a, ∃ y ∈ b, z = op x y
 | x :: a, y :: b, h => by
  rw [List.zipWith_cons_cons, List.mem_cons] at h
  rcases h with h | h
  ·
   exact ⟨x, by simp, y, by simp, h⟩
  ·
   obtain ⟨u, hu, v, hv, e⟩ := zipWith_mem h
   exact ⟨u, by simp [hu], v, by simp [hv], e⟩
 | [], [], h => by simp at h
 | [], _ :: _, h => by simp at h
 | _ :: _, [], h => by simp at h
theorem rd_zip {op : Int → Int → Int} : ∀ {a b : List Int} {j : Int}, 0 ≤ j → j < (a.length : Int) → j < (b.length : Int) → rd (List.zipWith op a b) j = op (rd a j) (rd b j) := by
 intro a b j h0 h1 h2
 have g1 : j.toNat < a.length := by omega
 have g2 : j.toNat < b.length := by omega
 simp [rd, List.getD_eq_getElem?_getD, List.getElem?_zipWith, g1, g2]
theorem gcdL_dvd : ∀ (a : List Int) (s : Int), gcdL a s ∣ s ∧ ∀ x ∈ a, gcdL a s ∣ x
 | [], s => ⟨Int.dvd_refl s, fun x hx => by simp at hx⟩
 | y :: a, s => by
  obtain ⟨h1, h2⟩ := gcdL_dvd a (Int.gcd s y : Int)
  have hl : (Int.gcd s y : Int) ∣ s := Int.gcd_dvd_left ..
  have hr : (Int.gcd s y : Int) ∣ y := Int.gcd_dvd_right ..
  refine ⟨Int.dvd_trans h1 hl, fun x hx => ?_⟩
  rcases List.mem_cons.1 hx with rfl | hx
  ·
   exact Int.dvd_trans h1 hr
  ·
   exact h2 x hx
theorem gcdL_zero : ∀ p : List Int, (∀ x ∈ p, x = 0) → gcdL p 0 = 0
 | [], _ => rfl
 | x :: p, h => by
  have hx := h x (by simp)
  subst hx
  exact gcdL_zero p (fun y hy => h y (by simp [hy]))
/-! chk add_eq mul_eq chk_in chk_ok chk_no ok64 ok64_wf ok64_rd rd_mem zipP each_zip combP comb_eq vcomb_eq scaleP vscale_eq dotG vdot_eq gcdL gcdL_nonneg gcdL_dvd gcdL_zero least primG tdiv_in vprim_eq zip_all zipWith_mem rd_zip abs_mul_le -/
end Go.Proofs.Ytckefohfahphpaa.Z
end
section
namespace Go.Proofs.Ytckefohfahphpaa.Z
open Go.RowKit Go.Proofs.YtckefohfahphpaaW.PrintWords Go.Proofs.YtckefohfahphpaaW.PrintLast Go.Proofs.YtckefohfahphpaaW.PrintMore
set_option linter.unusedVariables false
set_option linter.unusedSimpArgs false
def vs (T : Nat → Vc) (m : Nat) : List Vc := (List.range m).map T
theorem mem_vs {T : Nat → Vc} {m : Nat} {v : Vc} : v ∈ vs T m ↔ ∃ i, i < m ∧ T i = v := by simp [vs]
theorem vs_of {T : Nat → Vc} {m i : Nat} (h : i < m) : T i ∈ vs T m := mem_vs.mpr ⟨i, h, rfl⟩
/-- A stage of elimination: the first k rows have pivots p, the columns before c are done. -/
structure Stg (A : List Vc) (m : Nat) (T : Nat → Vc) (k : Nat) (p : Nat → Nat) (c : Nat) : Prop where
 km : k ≤ m
 up : ∀ i, i < m → Sp A (T i)
 dn : ∀ v ∈ A, Sp (vs T m) v
 inc : ∀ i j, i < j → j < k → p i < p j
 lt : ∀ i, i < k → p i < c
 nz : ∀ i, i < k → T i (p i) ≠ 0
 zr : ∀ i, i < m → ∀ j, j < k → i ≠ j → T i (p j) = 0
 ld : ∀ i, i < k → ∀ x, x < p i → T i x = 0
 lo : ∀ i, k ≤ i → i < m → ∀ x, x < c → T i x = 0
 pr : ∀ i, i < k → Prm (T i)
/-- What one column's turn does to the rows. -/
structure Stp (m k q c : Nat) (T U : Nat → Vc) : Prop where
 qk : k ≤ q
 qm : q < m
 nq : T q c ≠ 0
 piv : ∃ a g : Int, a ≠ 0 ∧ g ≠ 0 ∧ ∀ x, g * U k x = a * T q x
 prm : Prm (U k)
 oth : ∀ i, i < m → i ≠ k → ∃ a b g : Int, a ≠ 0 ∧ g ≠ 0 ∧ ∀ x, g * U i x = a * T (if i = q then k else i) x + b * U k x
 clr : ∀ i, i < m → i ≠ k → U i c = 0
 hold : ∀ i, i < m → i ≠ k → (∀ x, U i x = T (if i = q then k else i) x) ∨ Prm (U i) ∨ ∀ x, U i x = 0
theorem zero_of_mul {g y : Int} (hg : g ≠ 0) (h : g * y = 0) : y = 0 := (Int.mul_eq_zero.mp h).resolve_left hg
theorem Sp.from {A : List Vc} {u v w : Vc} {a b g : Int} (hg : g ≠ 0) (e : ∀ x, g * u x = a * v x + b * w x) (hv : Sp A v) (hw : Sp A w) : Sp A u :=
 Sp.div g hg ((Sp.comb a b hv hw).eq fun x => (e x).symm)
theorem Stp.swap {m k q c : Nat} {T U : Nat → Vc} (h : Stp m k q c T U) {j : Nat} (hj : j < m) (hq : j ≠ q) : ∃ i, i < m ∧ i ≠ k ∧ (if i = q then k else i) = j ∧ (j < k → i = j) := by
 have := h.qk
 have := h.qm
 by_cases hjk : j = k
 ·
  exact ⟨q, h.qm, by omega, by rw [if_pos rfl]; omega, by omega⟩
 ·
  exact ⟨j, hj, hjk, by rw [if_neg hq], fun _ => rfl⟩
theorem Stp.back {m k q c : Nat} {T U : Nat → Vc} (h : Stp m k q c T U) (B : List Vc) (hk : Sp B (U k)) {i : Nat} (hi : i < m) (hik : i ≠ k) (hB : Sp B (U i)) : Sp B (T (if i = q then k else i)) := by
 obtain ⟨a, b, g, ha, hg, e⟩ := h.oth i hi hik
 exact Sp.from (a := g) (b := -b) ha (fun x => by rw [e x]; grind) hB hk
theorem Stp.backq {m k q c : Nat} {T U : Nat → Vc} (h : Stp m k q c T U) (B : List Vc) (hk : Sp B (U k)) : Sp B (T q) := by
 obtain ⟨a, g, ha, hg, e⟩ := h.piv
 exact Sp.from (a := g) (b := 0) (w := U k) ha (fun x => by rw [← e x]; simp) hk hk
theorem Stg.ukz {A : List Vc} {m k c q : Nat} {T U : Nat → Vc} {p : Nat → Nat} (h : Stg A m T k p c) (s : Stp m k q c T U) : (∀ x, x < c → U k x = 0) ∧ (∀ j, j < k → U k (p j) = 0) ∧ U k c ≠ 0 := by
 obtain ⟨a, g, ha, hg, e⟩ := s.piv
 have := s.qk
 refine ⟨fun x hx => zero_of_mul hg ?_, fun j hj => zero_of_mul hg ?_, fun h0 => ?_⟩
 ·
  rw [e x, h.lo q s.qk s.qm x hx]; simp
 ·
  rw [e _, h.zr q s.qm j hj (by omega)]; simp
 ·
  have := e c
  rw [h0, Int.mul_zero] at this
  exact s.nq (zero_of_mul ha this.symm)
theorem Stg.step {A : List Vc} {m k c q : Nat} {T U : Nat → Vc} {p : Nat → Nat} (h : Stg A m T k p c) (s : Stp m k q c T U) : Stg A m U (k + 1) (fun i => if i = k then c else p i) (c + 1) := by
 have hqk := s.qk
 have hqm := s.qm
 obtain ⟨uz, up, uc⟩ := h.ukz s
 have hnz : ∀ i, i < k → U i (p i) ≠ 0 := fun i hi => by
  obtain ⟨a, b, g, ha, hg, e⟩ := s.oth i (by omega) (by omega)
  intro h0
  have := e (p i)
  rw [h0, if_neg (by omega), up i (by omega), Int.mul_zero, Int.mul_zero, Int.add_zero] at this
  exact h.nz i (by omega) (zero_of_mul ha this.symm)
 refine ⟨by omega, fun i hi => ?_, fun v hv => ?_, fun i j hij hj => ?_, fun i hi => ?_, fun i hi => ?_, fun i hi j hj hij => ?_, fun i hi x hx => ?_, fun i hki hi x hx => ?_, fun i hi => ?_⟩
 ·
  have hk : Sp A (U k) := by
   obtain ⟨a, g, ha, hg, e⟩ := s.piv
   exact Sp.from (a := a) (b := 0) (w := T q) hg (fun x => by rw [e x]; simp) (h.up q hqm) (h.up q hqm)
  by_cases hik : i = k
  ·
   rw [hik]; exact hk
  ·
   obtain ⟨a, b, g, ha, hg, e⟩ := s.oth i hi hik
   exact Sp.from hg e (h.up _ (by split <;> omega)) hk
 ·
  refine (h.dn v hv).sub fun a ha => ?_
  obtain ⟨j, hj, rfl⟩ := mem_vs.mp ha
  have hk : Sp (vs U m) (U k) := .mem (vs_of (by omega))
  by_cases hjq : j = q
  ·
   rw [hjq]; exact s.backq _ hk
  ·
   obtain ⟨i, hi, hik, he, _⟩ := s.swap hj hjq
   have := s.back _ hk hi hik (.mem (vs_of hi))
   rwa [he] at this
 ·
  by_cases hjk : j = k
  ·
   simp only [hjk, if_true]; rw [if_neg (by omega)]; exact h.lt i (by omega)
  ·
   simp only [hjk, if_false]; rw [if_neg (by omega)]; exact h.inc i j hij (by omega)
 ·
  by_cases hik : i = k
  ·
   simp only [hik, if_true]; omega
  ·
   simp only [hik, if_false]; have := h.lt i (by omega); omega
 ·
  by_cases hik : i = k
  ·
   simp only [hik, if_true]; exact uc
  ·
   simp only [hik, if_false]
   exact hnz i (by omega)
 ·
  by_cases hjk : j = k
  ·
   simp only [hjk, if_true]; exact s.clr i hi (by omega)
  ·
   simp only [hjk, if_false]
   by_cases hik : i = k
   ·
    rw [hik]; exact up j (by omega)
   ·
    obtain ⟨a, b, g, ha, hg, e⟩ := s.oth i hi hik
    refine zero_of_mul hg ?_
    rw [e, up j (by omega), h.zr _ (by split <;> omega) j (by omega) (by split <;> omega)]
    simp
 ·
  by_cases hik : i = k
  ·
   simp only [hik, if_true] at hx ⊢; exact uz x hx
  ·
   simp only [hik, if_false] at hx ⊢
   obtain ⟨a, b, g, ha, hg, e⟩ := s.oth i (by omega) hik
   refine zero_of_mul hg ?_
   have := h.lt i (by omega)
   rw [e, uz x (by omega), if_neg (by omega), h.ld i (by omega) x hx]
   simp
 ·
  by_cases hxc : x = c
  ·
   rw [hxc]; exact s.clr i hi (by omega)
  ·
   obtain ⟨a, b, g, ha, hg, e⟩ := s.oth i hi (by omega)
   refine zero_of_mul hg ?_
   rw [e, uz x (by omega), h.lo _ (by split <;> omega) (by split <;> omega) x (by omega)]
   simp
 ·
  by_cases hik : i = k
  ·
   rw [hik]; exact s.prm
  ·
   rcases s.hold i (by omega) hik with h1 | h1 | h1
   ·
    rw [if_neg (by omega)] at h1
    rw [funext h1]
    exact h.pr i (by omega)
   ·
    exact h1
   ·
    exact absurd (h1 _) (hnz i (by omega))
theorem Stg.skip {A : List Vc} {m k c : Nat} {T : Nat → Vc} {p : Nat → Nat} (h : Stg A m T k p c) (h0 : ∀ i, k ≤ i → i < m → T i c = 0) : Stg A m T k p (c + 1) :=
 ⟨h.km, h.up, h.dn, h.inc, fun i hi => by have := h.lt i hi; omega, h.nz, h.zr, h.ld, fun i h1 h2 x hx => by
  by_cases e : x = c
  ·
   rw [e]; exact h0 i h1 h2
  ·
   exact h.lo i h1 h2 x (by omega), h.pr⟩
theorem Stg.start (T : Nat → Vc) (m : Nat) (p : Nat → Nat) : Stg (vs T m) m T 0 p 0 :=
 ⟨Nat.zero_le _, fun i hi => .mem (vs_of hi), fun v hv => .mem hv, fun i j _ h => by omega, fun i h => by omega, fun i h => by omega, fun i _ j h => by omega, fun i h => by omega, fun i _ _ x h => by omega, fun i h => by omega⟩
def pairs (T : Nat → Vc) (p : Nat → Nat) (k : Nat) : List (Nat × Vc) := (List.range k).map fun i => (p i, T i)
theorem mem_pairs {T : Nat → Vc} {p : Nat → Nat} {k : Nat} {e : Nat × Vc} : e ∈ pairs T p k ↔ ∃ i, i < k ∧ (p i, T i) = e := by simp [pairs]
theorem rowsOf_pairs (T : Nat → Vc) (p : Nat → Nat) (k : Nat) : rowsOf (pairs T p k) = vs T k := by simp [rowsOf, pairs, vs]
theorem pw_range {P : Nat → Nat → Prop} (k : Nat) (h : ∀ i j, i < j → j < k → P i j) : (List.range k).Pairwise P := by
 have := List.pairwise_lt_range (n := k)
 refine List.Pairwise.imp_of_mem ?_ this
 intro a b _ hb hab
 exact h a b hab (List.mem_range.mp hb)
theorem Stg.piv {A : List Vc} {m k c : Nat} {T : Nat → Vc} {p : Nat → Nat} (h : Stg A m T k p c) : Piv (pairs T p k) := by
 have := h.km
 refine ⟨fun e he => ?_, ?_⟩
 ·
  obtain ⟨i, hi, rfl⟩ := mem_pairs.mp he
  exact h.nz i hi
 ·
  exact List.pairwise_map.mpr (pw_range k fun i j hij hj => ⟨h.zr i (by omega) j hj (by omega), h.zr j (by omega) i (by omega) (by omega)⟩)
theorem Stg.red {A : List Vc} {m k c : Nat} {T : Nat → Vc} {p : Nat → Nat} (h : Stg A m T k p c) : Red (pairs T p k) := by
 refine ⟨h.piv, fun e he => ?_, ?_⟩
 ·
  obtain ⟨i, hi, rfl⟩ := mem_pairs.mp he
  exact h.ld i hi
 ·
  exact List.pairwise_map.mpr (pw_range k fun i j hij hj => h.inc i j hij hj)
/-- Behind the last column (or the last row) the rows with pivots span what the given rows span. -/
theorem Stg.full {A : List Vc} {m k c : Nat} {T : Nat → Vc} {p : Nat → Nat} (h : Stg A m T k p c) (hd : k = m ∨ ∀ i, k ≤ i → i < m → ∀ x, T i x = 0) : ∀ v ∈ A, Sp (vs T k) v := by
 intro v hv
 refine (h.dn v hv).sub fun a ha => ?_
 obtain ⟨i, hi, rfl⟩ := mem_vs.mp ha
 by_cases hik : i < k
 ·
  exact .mem (vs_of hik)
 ·
  rcases hd with hd | hd
  ·
   omega
  ·
   exact Sp.zero.eq fun x => (hd i (by omega) hi x).symm
theorem Stg.only {A : List Vc} {m k c : Nat} {T : Nat → Vc} {p : Nat → Nat} (h : Stg A m T k p c) {v : Vc} (hv : Sp (vs T k) v) (h0 : ∀ i, i < k → v (p i) = 0) (x : Nat) : v x = 0 := by
 refine h.piv.only (v := v) (by rw [rowsOf_pairs]; exact hv) (fun e he => ?_) x
 obtain ⟨i, hi, rfl⟩ := mem_pairs.mp he
 exact h0 i hi
/-- What bounds the rows: minors of the given rows. -/
structure Bnd (A : List Vc) (m : Nat) (T : Nat → Vc) (k : Nat) (p : Nat → Nat) (R : List Vc) (C : List Nat) : Prop where
 rl : R.length = k
 cl : C.length = k
 cp : ∀ x, x ∈ C ↔ ∃ i, i < k ∧ p i = x
 ra : ∀ r ∈ R, r ∈ A
 rt : ∀ r ∈ R, Sp (vs T k) r
 dt : det R C ≠ 0
 lo : ∀ i, k ≤ i → i < m → (T i ∈ A ∨ Prm (T i) ∨ ∀ x, T i x = 0) ∧ ∃ b ∈ A, ∃ a g : Int, a ≠ 0 ∧ g ≠ 0 ∧ Sp R fun x => g * T i x - a * b x
theorem Bnd.start (T : Nat → Vc) (m : Nat) (p : Nat → Nat) : Bnd (vs T m) m T 0 p [] [] :=
 ⟨rfl, rfl, fun x => ⟨fun h => by simp at h, fun ⟨i, hi, _⟩ => by omega⟩, fun r h => by simp at h, fun r h => by simp at h, by decide, fun i _ hi => ⟨.inl (vs_of hi), T i, vs_of hi, 1, 1, by decide, by decide, Sp.zero.eq fun x => by simp⟩⟩
theorem Bnd.minor {A : List Vc} {m k c : Nat} {T : Nat → Vc} {p : Nat → Nat} {R : List Vc} {C : List Nat} (h : Stg A m T k p c) (b : Bnd A m T k p R C) {i : Nat} (h1 : k ≤ i) (h2 : i < m) {v : Vc} {a g : Int} (hv : Sp R fun x => g * T i x - a * v x) (x : Nat) :
  a * det (v :: R) (x :: C) = (det R C * g) * T i x := by
 have hs : Sp (vs T k) fun x => a * (det (v :: R) (x :: C) - det R C * v x) + (-det R C) * (g * T i x - a * v x) := .comb _ _ ((det_head v R C).sub b.rt) (hv.sub b.rt)
 have := h.only hs (fun j hj => by
  rw [det_same _ ((b.cp _).mpr ⟨j, hj, rfl⟩), h.zr i h2 j hj (by omega)]
  grind) x
 grind
theorem Bnd.cramer {A : List Vc} {m k c : Nat} {T : Nat → Vc} {p : Nat → Nat} {R : List Vc} {C : List Nat} (h : Stg A m T k p c) (b : Bnd A m T k p R C) {i : Nat} (hi : i < k) : ∃ (v : Vc) (D : Int), (∃ C' : List Nat, C'.length + 1 = k ∧ ∀ x, v x = det R (x :: C')) ∧ D.natAbs = (det R C).natAbs ∧ D ≠ 0 ∧ ∀ x, T i (p i) * v x = D * T i x := by
 obtain ⟨P, Q, hC⟩ := List.append_of_mem ((b.cp (p i)).mpr ⟨i, hi, rfl⟩)
 have hmv := det_move R (p i) P Q []
 simp only [List.nil_append] at hmv
 have hD : (det R (p i :: (P ++ Q))).natAbs = (det R C).natAbs := by rw [hC, hmv]
 have hdt := b.dt
 have hcl := b.cl
 have hkm := h.km
 refine ⟨fun x => det R (x :: (P ++ Q)), det R (p i :: (P ++ Q)), ⟨P ++ Q, by rw [hC] at hcl; simp at hcl ⊢; omega, fun x => rfl⟩, hD, by omega, fun x => ?_⟩
 have hs : Sp (vs T k) fun x => T i (p i) * det R (x :: (P ++ Q)) + (-det R (p i :: (P ++ Q))) * T i x := .comb _ _ ((det_span R (P ++ Q)).sub b.rt) (.mem (vs_of hi))
 have := h.only hs (fun j hj => by
  by_cases hji : j = i
  ·
   rw [hji]; grind
  ·
   have hpn : p j ≠ p i := by
    rcases Nat.lt_or_gt_of_ne hji with e | e
    ·
     have := h.inc j i e hi; omega
    ·
     have := h.inc i j e hj; omega
   have hm : p j ∈ P ++ Q := by
    have := (b.cp (p j)).mpr ⟨j, hj, rfl⟩
    rw [hC] at this
    simp at this ⊢
    rcases this with e | e | e
    ·
     exact .inl e
    ·
     exact absurd e hpn
    ·
     exact .inr e
   rw [det_same _ hm, h.zr i (by omega) j hj (fun z => hji z.symm)]
   simp) x
 grind
theorem Bnd.step {A : List Vc} {m k c q : Nat} {T U : Nat → Vc} {p : Nat → Nat} {R : List Vc} {C : List Nat} (h : Stg A m T k p c) (b : Bnd A m T k p R C) (s : Stp m k q c T U) : ∃ R' C', Bnd A m U (k + 1) (fun i => if i = k then c else p i) R' C' := by
 have hqk := s.qk
 have hqm := s.qm
 obtain ⟨hq, v, hvA, a, g, ha, hg, hv⟩ := b.lo q hqk hqm
 have hsub : ∀ r ∈ R, r ∈ v :: R := fun r hr => List.mem_cons_of_mem _ hr
 have hUk : Sp (v :: R) (U k) := by
  obtain ⟨a', g', ha', hg', e'⟩ := s.piv
  have hTq : Sp (v :: R) (T q) := Sp.from (a := 1) (b := a) (w := v) hg (fun x => by grind) (hv.mono hsub) (.mem List.mem_cons_self)
  exact Sp.from (a := a') (b := 0) (w := T q) hg' (fun x => by rw [e' x]; simp) hTq hTq
 have hk1 : Sp (vs U (k + 1)) (U k) := .mem (vs_of (by omega))
 have hTi : ∀ i, i < k → Sp (vs U (k + 1)) (T i) := fun i hi => by
  have := s.back _ hk1 (i := i) (by omega) (by omega) (.mem (vs_of (by omega)))
  rwa [if_neg (by omega)] at this
 have hRU : ∀ r ∈ R, Sp (vs U (k + 1)) r := fun r hr => (b.rt r hr).sub fun z hz => by
  obtain ⟨i, hi, rfl⟩ := mem_vs.mp hz
  exact hTi i hi
 refine ⟨v :: R, c :: C, by simp [b.rl], by simp [b.cl], fun x => ?_, fun r hr => ?_, fun r hr => ?_, ?_, fun i hki hi => ?_⟩
 ·
  rw [List.mem_cons, b.cp]
  constructor
  ·
   rintro (rfl | ⟨i, hi, rfl⟩)
   ·
    exact ⟨k, by omega, by simp⟩
   ·
    exact ⟨i, by omega, if_neg (by omega)⟩
  ·
   rintro ⟨i, hi, rfl⟩
   by_cases hik : i = k
   ·
    left; simp [hik]
   ·
    right; exact ⟨i, by omega, by simp [hik]⟩
 ·
  rcases List.mem_cons.mp hr with rfl | hr
  ·
   exact hvA
  ·
   exact b.ra r hr
 ·
  rcases List.mem_cons.mp hr with rfl | hr
  ·
   exact Sp.from (a := g) (b := -1) (v := T q) ha (fun x => by grind) (s.backq _ hk1) (hv.sub hRU)
  ·
   exact hRU r hr
 ·
  intro h0
  have := b.minor h hqk hqm hv c
  rw [h0, Int.mul_zero] at this
  exact s.nq (zero_of_mul (Int.mul_ne_zero b.dt hg) this.symm)
 ·
  obtain ⟨a', b', g', ha', hg', e'⟩ := s.oth i hi (by omega)
  obtain ⟨h1, v1, hv1, a1, g1, ha1, hg1, hs1⟩ := b.lo (if i = q then k else i) (by split <;> omega) (by split <;> omega)
  refine ⟨?_, v1, hv1, a' * a1, g1 * g', Int.mul_ne_zero ha' ha1, Int.mul_ne_zero hg1 hg', ?_⟩
  ·
   rcases s.hold i hi (by omega) with h2 | h2
   ·
    rw [funext h2]; exact h1
   ·
    exact .inr h2
  ·
   refine (Sp.comb a' (g1 * b') (hs1.mono hsub) hUk).eq fun x => ?_
   have := e' x
   grind
theorem Bnd.skip {A : List Vc} {m k c : Nat} {T : Nat → Vc} {p : Nat → Nat} {R : List Vc} {C : List Nat} (h : Stg A m T k p c) (b : Bnd A m T k p R C) (hm : m ≤ 8) (hA : ∀ r ∈ A, ∀ x, (r x).natAbs ≤ 3) : ∀ i, i < m → ∀ x, (T i x).natAbs ≤ hb 8 := by
 intro i hi x
 have h8 : 3 ≤ hb 8 := by rw [hb8]; decide
 by_cases hik : i < k
 ·
  obtain ⟨v, D, ⟨C', hl, hv⟩, _, hD, e⟩ := b.cramer h hik
  have h1 := (h.pr i hik).bound (h.nz i hik) hD e x
  have h2 := det_bound R (x :: C') (fun r hr => hA r (b.ra r hr)) (by simp [b.rl, hl])
  rw [← hv] at h2
  have h3 := hb_mono (n := R.length) (m := 8) (by rw [b.rl]; have := h.km; omega)
  omega
 ·
  obtain ⟨h1, v, hvA, a, g, ha, hg, hs⟩ := b.lo i (by omega) hi
  rcases h1 with h1 | h1 | h1
  ·
   have := hA _ h1 x; omega
  ·
   have h2 := h1.bound (v := fun x => det (v :: R) (x :: C)) ha (Int.mul_ne_zero b.dt hg) (fun x => b.minor h (by omega) hi hs x) x
   have h3 := det_bound (v :: R) (x :: C) (fun r hr => by
    rcases List.mem_cons.mp hr with rfl | hr
    ·
     exact hA _ hvA
    ·
     exact hA r (b.ra r hr)) (by simp [b.rl, b.cl])
   have h4 := hb_mono (n := (v :: R).length) (m := 8) (by simp [b.rl]; omega)
   omega
  ·
   rw [h1 x]; simp
/-- The outcome: a reduced form of what is spanned, each row without a common divisor and with a positive pivot. -/
structure Fnl (A : List Vc) (T : Nat → Vc) (k : Nat) (p : Nat → Nat) : Prop where
 red : Red (pairs T p k)
 up : ∀ i, i < k → Sp A (T i)
 dn : ∀ v ∈ A, Sp (vs T k) v
 pr : ∀ i, i < k → Prm (T i) ∧ 0 < T i (p i)
theorem Stg.fnl {A : List Vc} {m k c : Nat} {T : Nat → Vc} {p : Nat → Nat} (h : Stg A m T k p c) (hd : k = m ∨ ∀ i, k ≤ i → i < m → ∀ x, T i x = 0) (hp : ∀ i, i < k → 0 < T i (p i)) : Fnl A T k p :=
 ⟨h.red, fun i hi => h.up i (by have := h.km; omega), h.full hd, fun i hi => ⟨h.pr i hi, hp i hi⟩⟩
theorem Fnl.cols {A A' : List Vc} {T T' : Nat → Vc} {k k' : Nat} {p p' : Nat → Nat} (h : Fnl A T k p) (h' : Fnl A' T' k' p') (hs : ∀ v ∈ A, Sp A' v) : ∀ i, i < k → ∃ j, j < k' ∧ p' j = p i := by
 intro i hi
 have := h.red.cols_sub h'.red (fun v hv => by
  rw [rowsOf_pairs] at hv ⊢
  obtain ⟨i, hi, rfl⟩ := mem_vs.mp hv
  exact ((h.up i hi).sub hs).sub h'.dn) (p i) (List.mem_map.mpr ⟨_, mem_pairs.mpr ⟨i, hi, rfl⟩, rfl⟩)
 obtain ⟨e, he, h1⟩ := List.mem_map.mp this
 obtain ⟨j, hj, rfl⟩ := mem_pairs.mp he
 exact ⟨j, hj, h1⟩
theorem Fnl.uniq {A A' : List Vc} {T T' : Nat → Vc} {k k' : Nat} {p p' : Nat → Nat} (h : Fnl A T k p) (h' : Fnl A' T' k' p') (hs : ∀ v ∈ A, Sp A' v) (hs' : ∀ v ∈ A', Sp A v) : k = k' ∧ ∀ i, i < k → p i = p' i ∧ T i = T' i := by
 have h1 : ∀ v ∈ rowsOf (pairs T p k), Sp (rowsOf (pairs T' p' k')) v := fun v hv => by
  rw [rowsOf_pairs] at hv ⊢
  obtain ⟨i, hi, rfl⟩ := mem_vs.mp hv
  exact ((h.up i hi).sub hs).sub h'.dn
 have h2 : ∀ v ∈ rowsOf (pairs T' p' k'), Sp (rowsOf (pairs T p k)) v := fun v hv => by
  rw [rowsOf_pairs] at hv ⊢
  obtain ⟨i, hi, rfl⟩ := mem_vs.mp hv
  exact ((h'.up i hi).sub hs').sub h.dn
 have hc := h.red.cols h'.red h1 h2
 have hk : k = k' := by
  have := congrArg List.length hc
  simpa [pairs] using this
 refine ⟨hk, fun i hi => ?_⟩
 have hp : p i = p' i := by
  have := congrArg (fun l => l[i]?) hc
  simpa [pairs, hi, show i < k' by omega] using this
 refine ⟨hp, h.red.rows h'.red h1 h2 (fun e he => ?_) (fun e he => ?_) (p i, T i) (mem_pairs.mpr ⟨i, hi, rfl⟩) (p' i, T' i) (mem_pairs.mpr ⟨i, by omega, rfl⟩) hp⟩
 ·
  obtain ⟨j, hj, rfl⟩ := mem_pairs.mp he
  exact h.pr j hj
 ·
  obtain ⟨j, hj, rfl⟩ := mem_pairs.mp he
  exact h'.pr j hj
end Go.Proofs.Ytckefohfahphpaa.Z
end
section
namespace Go.Proofs.Ytckefohfahphpaa.Z
open Go.RowKit Go.Proofs.YtckefohfahphpaaW.PrintWords Go.Proofs.YtckefohfahphpaaW.PrintLast Go.Proofs.YtckefohfahphpaaW.PrintMore
set_option linter.unusedVariables false
set_option linter.unusedSimpArgs false
def vec (l : List Int) : Vc := fun x => rd l (x : Int)
def rowsV (L : List (List Int)) : Nat → Vc := fun i => vec (rd_L1 L (i : Int))
def spanL (L : List (List Int)) : List Vc := vs (rowsV L) L.length
theorem vec_get {l : List Int} {x : Nat} (h : x < l.length) : vec l x = l[x] := by simp [vec, rd, List.getD_eq_getElem?_getD, h]
theorem vec_out {l : List Int} {x : Nat} (h : l.length ≤ x) : vec l x = 0 := by simp [vec, rd, List.getD_eq_getElem?_getD, h]
theorem vec_rd {l : List Int} {c : Int} (h : 0 ≤ c) : rd l c = vec l c.toNat := by unfold vec; rw [show ((c.toNat : Nat) : Int) = c by omega]
theorem vec_mem {l : List Int} {x : Nat} (h : x < l.length) : vec l x ∈ l := by rw [vec_get h]; exact List.getElem_mem h
theorem mem_vec {l : List Int} {y : Int} (h : y ∈ l) : ∃ x, x < l.length ∧ vec l x = y := by
 obtain ⟨i, hi, e⟩ := List.mem_iff_getElem.mp h
 exact ⟨i, hi, by rw [vec_get hi]; exact e⟩
theorem vec_map {f : Int → Int} (h0 : f 0 = 0) (l : List Int) (x : Nat) : vec (l.map f) x = f (vec l x) := by
 by_cases h : x < l.length
 ·
  rw [vec_get h, vec_get (by simpa using h)]; simp
 ·
  rw [vec_out (by simp; omega), vec_out (by omega), h0]
theorem vec_zip {op : Int → Int → Int} (h0 : op 0 0 = 0) {a b : List Int} (he : a.length = b.length) (x : Nat) : vec (List.zipWith op a b) x = op (vec a x) (vec b x) := by
 by_cases h : x < a.length
 ·
  rw [vec_get h, vec_get (show x < b.length by omega), vec_get (by simp; omega)]; simp
 ·
  rw [vec_out (by simp; omega), vec_out (show a.length ≤ x by omega), vec_out (show b.length ≤ x by omega), h0]
theorem vec_ext {a b : List Int} (he : a.length = b.length) (h : vec a = vec b) : a = b := by
 apply List.ext_getElem he
 intro i h1 h2
 rw [← vec_get h1, ← vec_get h2, h]
def okr (n : Nat) (l : List Int) : Prop := l.length = n ∧ ok64 l
theorem okr_in {n : Nat} {l : List Int} (h : okr n l) (x : Nat) : in64 (vec l x) := by
 by_cases hx : x < l.length
 ·
  exact h.2 _ (vec_mem hx)
 ·
  rw [vec_out (by omega)]; constructor <;> omega
def nl (x : Int) : Prop := -9223372036854775807 ≤ x ∧ x ≤ 9223372036854775807
theorem nl.in64 {x : Int} (h : nl x) : in64 x := ⟨by have := h.1; omega, h.2⟩
theorem nl_of {x : Int} (h : in64 x) (hl : x ≠ least) : nl x := by
 obtain ⟨h1, h2⟩ := h
 unfold least at hl
 exact ⟨by omega, h2⟩
def nlr (n : Nat) (l : List Int) : Prop := l.length = n ∧ ∀ z ∈ l, nl z
theorem nlr_in {n : Nat} {l : List Int} (h : nlr n l) (x : Nat) : nl (vec l x) := by
 by_cases hx : x < l.length
 ·
  exact h.2 _ (vec_mem hx)
 ·
  rw [vec_out (by omega)]; constructor <;> omega
theorem nlr.okr {n : Nat} {l : List Int} (h : nlr n l) : okr n l := ⟨h.1, fun z hz => (h.2 z hz).in64⟩
theorem nlr_of {n : Nat} {l : List Int} (h : okr n l) (hl : ∀ x, nl (vec l x)) : nlr n l := ⟨h.1, fun z hz => by
 obtain ⟨x, _, e⟩ := mem_vec hz
 rw [← e]
 exact hl x⟩
theorem gcdL_greatest {d : Int} : ∀ (a : List Int) (s : Int), d ∣ s → (∀ x ∈ a, d ∣ x) → d ∣ gcdL a s
 | [], _, h, _ => h
 | y :: a, s, h, ha => gcdL_greatest a _ (Int.dvd_coe_gcd h (ha y (by simp))) fun x hx => ha x (by simp [hx])
def big (v : Vc) : Prop := ∃ x, hb 8 < (v x).natAbs
theorem prim_spec {a : List Int} {n : Nat} (ha : okr n a) :
  (primG a = ([], 3) ∧ big (vec a)) ∨ ∃ s, primG a = (s, 0) ∧ okr n s ∧ (∀ x, vec s x ≠ least) ∧ ∃ g : Int, 0 < g ∧ (∀ x, vec a x = g * vec s x) ∧ ((∀ x, vec a x = 0) ∨ Prm (vec s)) := by
 by_cases hl : least ∈ a
 ·
  left
  refine ⟨by unfold primG; rw [if_pos hl], ?_⟩
  obtain ⟨x, _, e⟩ := mem_vec hl
  exact ⟨x, by rw [e, hb8]; decide⟩
 ·
  right
  have hg0 := gcdL_nonneg a 0 (Int.le_refl 0)
  obtain ⟨_, hdv⟩ := gcdL_dvd a 0
  refine ⟨a.map fun x => if gcdL a 0 > 0 then Int.tdiv x (gcdL a 0) else 0, by unfold primG; rw [if_neg hl], ⟨by simp [ha.1], ?_⟩, ?_, ?_⟩
  ·
   intro y hy
   obtain ⟨x, hx, rfl⟩ := List.mem_map.mp hy
   split
   ·
    exact tdiv_in (ha.2 x hx) (by omega)
   ·
    constructor <;> omega
  ·
   intro x
   rw [vec_map (by simp)]
   by_cases hx : x < a.length
   ·
    have hm := vec_mem hx
    have h1 := ha.2 _ hm
    have h2 : vec a x ≠ least := fun e => hl (e ▸ hm)
    split
    ·
     have h3 : (Int.tdiv (vec a x) (gcdL a 0)).natAbs ≤ (vec a x).natAbs := by rw [Int.natAbs_tdiv]; exact Nat.div_le_self _ _
     obtain ⟨h4, h5⟩ := h1
     unfold least at *
     omega
    ·
     unfold least; decide
   ·
    rw [vec_out (by omega)]
    unfold least
    simp
  ·
   by_cases hz : gcdL a 0 > 0
   ·
    refine ⟨gcdL a 0, hz, fun x => ?_, .inr fun d hd => ?_⟩
    ·
     rw [vec_map (by simp), if_pos hz]
     by_cases hx : x < a.length
     ·
      exact (Int.mul_tdiv_cancel' (hdv _ (vec_mem hx))).symm
     ·
      rw [vec_out (by omega)]; simp
    ·
     have h1 : gcdL a 0 * d ∣ gcdL a 0 := by
      refine gcdL_greatest a 0 ⟨0, by simp⟩ fun y hy => ?_
      obtain ⟨x, hx, rfl⟩ := mem_vec hy
      have := hd x
      rw [vec_map (by simp), if_pos hz] at this
      obtain ⟨q, hq⟩ := this
      refine ⟨q, ?_⟩
      rw [Int.mul_assoc, ← hq]
      exact (Int.mul_tdiv_cancel' (hdv _ (vec_mem hx))).symm
     obtain ⟨q, hq⟩ := h1
     refine ⟨q, ?_⟩
     have : gcdL a 0 * (d * q) = gcdL a 0 * 1 := by rw [← Int.mul_assoc, ← hq, Int.mul_one]
     exact (Int.eq_of_mul_eq_mul_left (by omega) this).symm
   ·
    have h0 : gcdL a 0 = 0 := by omega
    have hall : ∀ x, vec a x = 0 := fun x => by
     by_cases hx : x < a.length
     ·
      have := hdv _ (vec_mem hx)
      rw [h0] at this
      exact Int.zero_dvd.mp this
     ·
      exact vec_out (by omega)
    refine ⟨1, by omega, fun x => ?_, .inl hall⟩
    rw [hall x, vec_map (by simp), if_neg hz]
    rfl
theorem zip_cases {P : Int → Int → Bool} {op : Int → Int → Int} {Q : Int → Prop} (hQ : ∀ x y, P x y = true → Q (op x y)) : ∀ (a b acc : List Int), (∀ z ∈ acc, Q z) →
  (zipP P op a b acc = ([], 3) ∧ ∃ x ∈ a, ∃ y ∈ b, P x y = false) ∨ (zipP P op a b acc = (acc ++ List.zipWith op a b, 0) ∧ ∀ z ∈ acc ++ List.zipWith op a b, Q z)
 | x :: a, y :: b, acc, h => by
  rw [zipP]
  by_cases hp : P x y = true
  ·
   rw [if_pos hp]
   rcases zip_cases hQ a b (acc ++ [op x y]) (fun z hz => by
    rcases List.mem_append.mp hz with h1 | h1
    ·
     exact h z h1
    ·
     simp at h1; subst h1; exact hQ x y hp) with ⟨h1, x', hx', y', hy', h2⟩ | ⟨h1, h2⟩
   ·
    exact .inl ⟨h1, x', by simp [hx'], y', by simp [hy'], h2⟩
   ·
    refine .inr ⟨by rw [h1]; simp, fun z hz => h2 z (by simpa using hz)⟩
  ·
   rw [if_neg hp]
   exact .inl ⟨rfl, x, by simp, y, by simp, by simpa using hp⟩
 | [], b, acc, h => .inr ⟨by simp [zipP], by simpa using h⟩
 | x :: a, [], acc, h => .inr ⟨by simp [zipP], by simpa using h⟩
/-- A row cleared in column c by a row v. -/
structure Clr (n c : Nat) (u v w : List Int) : Prop where
 ok : okr n w
 lin : ∃ a b g : Int, 0 < a ∧ 0 < g ∧ ∀ x, g * vec w x = a * vec u x + b * vec v x
 zr : vec w c = 0
 nl : (∀ x, nl (vec u x)) → ∀ x, nl (vec w x)
 pr : (∀ x, vec w x = vec u x) ∨ Prm (vec w) ∨ ∀ x, vec w x = 0
theorem Clr.keep {n c : Nat} {u v : List Int} (h : okr n u) (h0 : vec u c = 0) : Clr n c u v u :=
 ⟨h, ⟨1, 0, 1, by decide, by decide, fun x => by simp⟩, h0, fun h => h, .inl fun _ => rfl⟩
theorem tdiv_gcd {x y : Int} (hy : 0 < y) : 0 < (Int.gcd x y : Int) ∧ (Int.gcd x y : Int) ≤ y ∧ (Int.gcd x y : Int) * Int.tdiv x (Int.gcd x y : Int) = x ∧ (Int.gcd x y : Int) * Int.tdiv y (Int.gcd x y : Int) = y ∧ 0 < Int.tdiv y (Int.gcd x y : Int) ∧ (Int.tdiv y (Int.gcd x y : Int)) ≤ y ∧ (Int.tdiv x (Int.gcd x y : Int)).natAbs ≤ x.natAbs := by
 have h1 : 0 < Int.gcd x y := Int.gcd_pos_of_ne_zero_right x (by omega)
 have h2 : (Int.gcd x y : Int) ≤ y := Int.le_of_dvd hy (Int.gcd_dvd_right ..)
 have h3 : (Int.gcd x y : Int) * Int.tdiv x (Int.gcd x y : Int) = x := Int.mul_tdiv_cancel' (Int.gcd_dvd_left ..)
 have h4 : (Int.gcd x y : Int) * Int.tdiv y (Int.gcd x y : Int) = y := Int.mul_tdiv_cancel' (Int.gcd_dvd_right ..)
 have h5 : (Int.tdiv y (Int.gcd x y : Int)).natAbs ≤ y.natAbs := by rw [Int.natAbs_tdiv]; exact Nat.div_le_self _ _
 have h6 : (Int.tdiv x (Int.gcd x y : Int)).natAbs ≤ x.natAbs := by rw [Int.natAbs_tdiv]; exact Nat.div_le_self _ _
 have h7 : 0 < Int.tdiv y (Int.gcd x y : Int) := by
  apply Classical.byContradiction
  intro hn
  have := Int.mul_nonneg (a := (Int.gcd x y : Int)) (b := -Int.tdiv y (Int.gcd x y : Int)) (by omega) (by omega)
  rw [Int.mul_neg, h4] at this
  omega
 exact ⟨by omega, h2, h3, h4, h7, by omega, h6⟩
theorem clear_spec {K n : Nat} {rows : List (List Int)} {i p c : Nat} (hK : 200 ≤ K) (hn : n ≤ 64) (hi : i < rows.length) (hp : p < rows.length) (hu : okr n (rd_L1 rows i)) (hv : okr n (rd_L1 rows p)) (hc : c < n)
  (hx : vec (rd_L1 rows i) c ≠ 0) (hy : 0 < vec (rd_L1 rows p) c) :
  (∃ s, table_clear.f K rows i p c = some (rows.set i s, 0) ∧ Clr n c (rd_L1 rows i) (rd_L1 rows p) s) ∨ (∃ rows', table_clear.f K rows i p c = some (rows', 3) ∧ (big (vec (rd_L1 rows i)) ∨ big (vec (rd_L1 rows p)))) := by
 unfold table_clear.f
 obtain ⟨u, hue⟩ : ∃ u, u = rd_L1 rows i := ⟨_, rfl⟩
 obtain ⟨v, hve⟩ : ∃ v, v = rd_L1 rows p := ⟨_, rfl⟩
 rw [← hue] at hu hx ⊢
 rw [← hve] at hv hy ⊢
 have hul := hu.1
 have hvl := hv.1
 rw [if_pos ⟨by omega, by omega, by omega, by omega, by omega, by omega, by omega⟩]
 have e1 : rd u (c : Int) = vec u c := rfl
 have e2 : rd v (c : Int) = vec v c := rfl
 rw [e1, e2]
 obtain ⟨x, hxe⟩ : ∃ x, x = vec u c := ⟨_, rfl⟩
 obtain ⟨y, hye⟩ : ∃ y, y = vec v c := ⟨_, rfl⟩
 have hxi : in64 x := hxe ▸ okr_in hu c
 have hyi : in64 y := hye ▸ okr_in hv c
 rw [← hxe] at hx ⊢
 rw [← hye] at hy ⊢
 obtain ⟨g1, g2, g3, g4, g5, g6, g7⟩ := tdiv_gcd (x := x) (y := y) hy
 obtain ⟨g, hge⟩ : ∃ g, g = (Int.gcd x y : Int) := ⟨_, rfl⟩
 unfold safeint_Gcd.f
 rw [if_pos ⟨hxi, hyi⟩]
 have hyu := hyi.2
 rw [if_pos (by omega)]
 simp only [Option.bind_some]
 rw [if_neg (by simp), ← hge]
 rw [← hge] at g1 g2 g3 g4 g5 g6 g7
 obtain ⟨al, hal⟩ : ∃ z, z = Int.tdiv y g := ⟨_, rfl⟩
 obtain ⟨be, hbe⟩ : ∃ z, z = Int.tdiv x g := ⟨_, rfl⟩
 rw [← hbe] at g3 g7 ⊢
 rw [← hal] at g4 g5 g6 ⊢
 obtain ⟨hx1, hx2⟩ := hxi
 obtain ⟨hy1, hy2⟩ := hyi
 have hbx : big (vec u) ∨ x.natAbs ≤ hb 8 := by
  by_cases h : hb 8 < x.natAbs
  ·
   exact .inl ⟨c, by rw [← hxe]; exact h⟩
  ·
   exact .inr (by omega)
 have hby : big (vec v) ∨ y.natAbs ≤ hb 8 := by
  by_cases h : hb 8 < y.natAbs
  ·
   exact .inl ⟨c, by rw [← hye]; exact h⟩
  ·
   exact .inr (by omega)
 by_cases hl : x = -9223372036854775808
 ·
  right
  rw [if_pos hl]
  refine ⟨_, rfl, .inl ⟨c, ?_⟩⟩
  rw [← hxe, hl, hb8]
  decide
 rw [if_neg hl, if_neg (by omega)]
 have w1 : wrap64 al = al := wrap64_id ⟨by omega, by omega⟩
 have w2 : wrap64 be = be := wrap64_id ⟨by omega, by omega⟩
 have w3 : wrap64 (-be) = -be := wrap64_id ⟨by omega, by omega⟩
 rw [w1, w2, w3, vcomb_eq hu.2 hv.2 ⟨by omega, by omega⟩ ⟨by omega, by omega⟩ (by omega), if_pos (by omega)]
 simp only [Option.bind_some]
 have hsmall : ∀ {a b : Int}, a.natAbs ≤ hb 8 → b.natAbs ≤ hb 8 → (a * b).natAbs ≤ 100000000000000000 := by
  intro a b h1 h2
  rw [Int.natAbs_mul]
  refine Nat.le_trans (Nat.mul_le_mul h1 h2) ?_
  rw [hb8]
  decide
 have hnb : ¬ big (vec u) → ¬ big (vec v) → al.natAbs ≤ hb 8 ∧ be.natAbs ≤ hb 8 ∧ ∀ z, (vec u z).natAbs ≤ hb 8 ∧ (vec v z).natAbs ≤ hb 8 := by
  intro h1 h2
  have hbx := hbx.resolve_left h1
  have hby := hby.resolve_left h2
  exact ⟨by omega, by omega, fun z => ⟨Nat.le_of_not_lt fun h => h1 ⟨z, h⟩, Nat.le_of_not_lt fun h => h2 ⟨z, h⟩⟩⟩
 rcases zip_cases (P := combP al (-be)) (op := fun x y => x * al + y * (-be)) (Q := in64) (fun x y h => by
  unfold combP at h
  simp only [Bool.and_eq_true, decide_eq_true_eq] at h
  exact h.2) u v [] (by simp) with ⟨h1, x', hx', y', hy', h2⟩ | ⟨h1, h2⟩
 ·
  right
  rw [h1, if_pos (by decide)]
  refine ⟨_, rfl, ?_⟩
  apply Classical.byContradiction
  intro hno
  have hno1 : ¬ big (vec u) := fun h => hno (.inl h)
  have hno2 : ¬ big (vec v) := fun h => hno (.inr h)
  obtain ⟨b1, b2, b3⟩ := hnb hno1 hno2
  obtain ⟨z1, _, rfl⟩ := mem_vec hx'
  obtain ⟨z2, _, rfl⟩ := mem_vec hy'
  have p1 := hsmall (b3 z1).1 b1
  have p2 := hsmall (a := vec v z2) (b := -be) (b3 z2).2 (by rw [Int.natAbs_neg]; exact b2)
  unfold combP at h2
  rw [decide_eq_true (show in64 (vec u z1 * al) from ⟨by omega, by omega⟩), decide_eq_true (show in64 (vec v z2 * -be) from ⟨by omega, by omega⟩), decide_eq_true (show in64 (vec u z1 * al + vec v z2 * -be) from ⟨by omega, by omega⟩)] at h2
  simp at h2
 ·
  rw [h1, if_neg (by simp)]
  simp only [List.nil_append] at h2 ⊢
  have hrl : okr n (List.zipWith (fun x y => x * al + y * (-be)) u v) := ⟨by simp; omega, h2⟩
  have hrv : ∀ z, vec (List.zipWith (fun x y => x * al + y * (-be)) u v) z = vec u z * al + vec v z * (-be) := fun z => vec_zip (by simp) (by omega) z
  generalize List.zipWith (fun x y => x * al + y * (-be)) u v = r at *
  rw [vprim_eq hrl.2 (by have := hrl.1; omega) K (by have := hrl.1; omega)]
  simp only [Option.bind_some]
  rcases prim_spec hrl with ⟨q1, z, q2⟩ | ⟨s, q1, q2, q3, g', q4, q5, q6⟩
  ·
   right
   rw [q1]
   refine ⟨_, rfl, ?_⟩
   apply Classical.byContradiction
   intro hno
   have hlm : least ∈ r := by
    apply Classical.byContradiction
    intro h
    unfold primG at q1
    rw [if_neg h] at q1
    simp at q1
   obtain ⟨z, _, hz⟩ := mem_vec hlm
   obtain ⟨b1, b2, b3⟩ := hnb (fun h => hno (.inl h)) (fun h => hno (.inr h))
   have p1 := hsmall (b3 z).1 b1
   have p2 := hsmall (a := vec v z) (b := -be) (b3 z).2 (by rw [Int.natAbs_neg]; exact b2)
   rw [hrv] at hz
   unfold least at hz
   omega
  ·
   left
   rw [q1]
   refine ⟨s, by simp, q2, ⟨al, -be, g', g5, q4, fun z => ?_⟩, ?_, fun _ z => nl_of (okr_in q2 z) (q3 z), ?_⟩
   ·
    rw [← q5, hrv, Int.mul_comm al, Int.mul_comm (-be)]
   ·
    have h5 := q5 c
    have h6 : vec u c * al + vec v c * -be = 0 := by
     rw [← hxe, ← hye]
     have : x * al + y * -be = x * al - y * be := by rw [Int.mul_neg]; omega
     rw [this]
     have h7 : g * (x * al - y * be) = 0 := by
      rw [Int.mul_sub, Int.mul_left_comm, g4, Int.mul_left_comm, g3, Int.mul_comm]
      omega
     exact (Int.mul_eq_zero.mp h7).resolve_left (by omega)
    rw [hrv, h6] at h5
    exact (Int.mul_eq_zero.mp h5.symm).resolve_left (by omega)
   ·
    rcases q6 with q6 | q6
    ·
     exact .inr (.inr fun z => by
      have := q5 z
      rw [q6 z] at this
      exact (Int.mul_eq_zero.mp this.symm).resolve_left (by omega))
    ·
     exact .inr (.inl q6)
end Go.Proofs.Ytckefohfahphpaa.Z
end
section
namespace Go.Proofs.Ytckefohfahphpaa.Z
open Go.RowKit Go.Proofs.YtckefohfahphpaaW.PrintWords Go.Proofs.YtckefohfahphpaaW.PrintLast Go.Proofs.YtckefohfahphpaaW.PrintMore
set_option linter.unusedVariables false
set_option linter.unusedSimpArgs false
theorem rdL_set {L : List (List Int)} {i : Nat} {s : List Int} (h : i < L.length) (j : Nat) : rd_L1 (L.set i s) (j : Int) = if j = i then s else rd_L1 L (j : Int) := by
 by_cases e : j = i
 ·
  subst e
  simp [rd_L1, List.getD_eq_getElem?_getD, h]
 ·
  rw [if_neg e]
  simp [rd_L1, List.getD_eq_getElem?_getD, List.getElem?_set_ne (Ne.symm e)]
theorem rdL_out {L : List (List Int)} {j : Nat} (h : L.length ≤ j) : rd_L1 L (j : Int) = [] := by simp [rd_L1, List.getD_eq_getElem?_getD, h]
def good (m n : Nat) (L : List (List Int)) : Prop := L.length = m ∧ ∀ i, i < m → okr n (rd_L1 L (i : Int))
theorem leadAt_spec {m n c : Nat} {L : List (List Int)} (hg : good m n L) (hc : c < n) : ∀ (d k : Nat), k + d = m → ∃ at_, table_leadAt (c : Int) (L.drop k) k = some at_ ∧ k ≤ at_ ∧ at_ ≤ m ∧ (∀ i, k ≤ i → i < at_ → vec (rd_L1 L (i : Int)) c = 0) ∧ (at_ < m → vec (rd_L1 L (at_ : Int)) c ≠ 0) := by
 intro d
 induction d with
 | zero =>
  intro k hk
  refine ⟨k, ?_, by omega, by omega, fun i h1 h2 => by omega, fun h => by omega⟩
  rw [List.drop_of_length_le (by rw [hg.1]; omega)]
  rfl
 | succ d ih =>
  intro k hk
  have hkl : k < L.length := by rw [hg.1]; omega
  have hr := hg.2 k (by omega)
  have hrl := hr.1
  rw [drop_L1 hkl, table_leadAt, if_pos ⟨by omega, by omega⟩]
  have e1 : rd (rd_L1 L (k : Int)) (c : Int) = vec (rd_L1 L (k : Int)) c := rfl
  rw [e1]
  by_cases h0 : vec (rd_L1 L (k : Int)) c = 0
  ·
   rw [if_pos h0]
   obtain ⟨at_, h1, h2, h3, h4, h5⟩ := ih (k + 1) (by omega)
   refine ⟨at_, h1, by omega, h3, fun i h6 h7 => ?_, h5⟩
   by_cases e : i = k
   ·
    rw [e]; exact h0
   ·
    exact h4 i (by omega) h7
  ·
   rw [if_neg h0]
   exact ⟨k, rfl, by omega, by omega, fun i h1 h2 => by omega, fun _ => h0⟩
/-- What bringing row q to place k does. -/
structure Led (m n k q c : Nat) (L M : List (List Int)) : Prop where
 qk : k ≤ q
 qm : q < m
 nq : vec (rd_L1 L (q : Int)) c ≠ 0
 gd : good m n M
 oth : ∀ i, i < m → i ≠ k → rd_L1 M (i : Int) = rd_L1 L ((if i = q then k else i : Nat) : Int)
 lin : ∃ a g : Int, a ≠ 0 ∧ g ≠ 0 ∧ ∀ x, g * vec (rd_L1 M (k : Int)) x = a * vec (rd_L1 L (q : Int)) x
 prm : Prm (vec (rd_L1 M (k : Int)))
 pos : 0 < vec (rd_L1 M (k : Int)) c
 nl : ∀ x, nl (vec (rd_L1 M (k : Int)) x)
theorem lead_spec {K m n c : Nat} {L : List (List Int)} {cols : List Int} (hK : 200 ≤ K) (hm : m ≤ 64) (hn : n ≤ 64) (hg : good m n L) (hc : c < n) (hk : cols.length < m) :
  (∃ M, table_lead.f K L cols c = some ((M, cols ++ [(c : Int)]), true, 0) ∧ ∃ q, Led m n cols.length q c L M) ∨
  (table_lead.f K L cols c = some ((L, cols), false, 0) ∧ ∀ i, cols.length ≤ i → i < m → vec (rd_L1 L (i : Int)) c = 0) ∨
  (∃ M, table_lead.f K L cols c = some ((M, cols), false, 3) ∧ ∃ i, i < m ∧ big (vec (rd_L1 L (i : Int)))) := by
 obtain ⟨k, hke⟩ : ∃ k, k = cols.length := ⟨_, rfl⟩
 have hL := hg.1
 unfold table_lead.f
 rw [if_pos ⟨by omega, by omega, by omega⟩, ← hke]
 obtain ⟨q, h1, h2, h3, h4, h5⟩ := leadAt_spec hg hc (m - k) k (by omega)
 rw [h1]
 simp only [Option.bind_some]
 unfold table_leadTo
 by_cases hq : q = L.length
 ·
  right; left
  rw [if_pos hq]
  exact ⟨rfl, fun i h6 h7 => h4 i h6 (by omega)⟩
 rw [if_neg hq, ← hke]
 have hr := hg.2 q (by omega)
 have hrl := hr.1
 rw [vprim_eq hr.2 (by omega) K (by omega)]
 simp only [Option.bind_some]
 rcases prim_spec hr with ⟨q1, q2⟩ | ⟨s, q1, q2, q3, g, q4, q5, q6⟩
 ·
  right; right
  rw [q1, if_neg (by decide)]
  exact ⟨_, rfl, q, by omega, q2⟩
 rw [q1, if_pos rfl]
 have hsl := q2.1
 rw [if_pos ⟨by omega, by dsimp only; omega⟩]
 have hnq := h5 (by omega)
 have hp : Prm (vec s) := q6.resolve_left fun h => hnq (h c)
 have hs0 : vec s c ≠ 0 := by
  intro h0
  have := q5 c
  rw [h0] at this
  exact hnq (by omega)
 have e1 : rd (s, (0 : Int)).1 (c : Int) = vec s c := rfl
 rw [e1]
 have place : ∀ r : List Int, okr n r → (∀ x, nl (vec r x)) → (∃ a g : Int, a ≠ 0 ∧ g ≠ 0 ∧ ∀ x, g * vec r x = a * vec (rd_L1 L (q : Int)) x) → Prm (vec r) → 0 < vec r c →
   Led m n k q c L (((L.set k (rd_L1 L (q : Int))).set q (rd_L1 L (k : Int))).set k r) := by
  intro r hr1 hr0 hr2 hr3 hr4
  have hMk : rd_L1 (((L.set k (rd_L1 L (q : Int))).set q (rd_L1 L (k : Int))).set k r) (k : Int) = r := by rw [rdL_set (by simp; omega), if_pos rfl]
  have hM : ∀ i, i < m → i ≠ k → rd_L1 (((L.set k (rd_L1 L (q : Int))).set q (rd_L1 L (k : Int))).set k r) (i : Int) = rd_L1 L ((if i = q then k else i : Nat) : Int) := by
   intro i hi hik
   rw [rdL_set (by simp; omega), if_neg hik, rdL_set (by simp; omega)]
   by_cases e : i = q
   ·
    rw [if_pos e, if_pos e]
   ·
    rw [if_neg e, if_neg e, rdL_set (by omega), if_neg hik]
  refine ⟨h2, by omega, hnq, ⟨by simp; omega, fun i hi => ?_⟩, hM, by rw [hMk]; exact hr2, by rw [hMk]; exact hr3, by rw [hMk]; exact hr4, by rw [hMk]; exact hr0⟩
  by_cases e : i = k
  ·
   rw [e, hMk]; exact hr1
  ·
   rw [hM i hi e]
   exact hg.2 _ (by split <;> omega)
 by_cases hneg : vec s c < 0
 ·
  rw [if_pos hneg, vscale_eq q2.2 (by constructor <;> omega) (by omega)]
  simp only [Option.bind_some]
  rcases zip_cases (P := scaleP (-1)) (op := fun x _ => x * (-1)) (Q := in64) (fun x y h => by
   unfold scaleP at h
   simpa using h) s s [] (by simp) with ⟨z1, x', hx', y', hy', z2⟩ | ⟨z1, z2⟩
  ·
   exfalso
   unfold scaleP at z2
   obtain ⟨i, _, rfl⟩ := mem_vec hx'
   have := okr_in q2 i
   have := q3 i
   unfold least at this
   rw [decide_eq_true (show in64 (vec s i * -1) from by unfold in64 at *; omega)] at z2
   simp at z2
  ·
   left
   rw [z1, if_pos rfl]
   simp only [List.nil_append] at z2 ⊢
   have hv : ∀ x, vec (List.zipWith (fun x _ => x * (-1)) s s) x = -vec s x := fun x => by
    rw [vec_zip (op := fun x _ => x * (-1)) (by simp) rfl]
    omega
   refine ⟨_, rfl, q, place _ ⟨by simp; omega, z2⟩ (fun x => by
    rw [hv]
    obtain ⟨n1, n2⟩ := nl_of (okr_in q2 x) (q3 x)
    constructor <;> omega) ⟨-1, g, by decide, by omega, fun x => ?_⟩ ?_ ?_⟩
   ·
    rw [hv, q5, Int.mul_neg]
    omega
   ·
    intro d hd
    refine hp d fun x => ?_
    have := hd x
    rw [hv] at this
    exact Int.dvd_neg.mp this
   ·
    rw [hv]; omega
 ·
  left
  rw [if_neg hneg]
  exact ⟨_, rfl, q, place s q2 (fun x => nl_of (okr_in q2 x) (q3 x)) ⟨1, g, by decide, by omega, fun x => by rw [q5]; omega⟩ hp (by omega)⟩
end Go.Proofs.Ytckefohfahphpaa.Z
end
section
namespace Go.Proofs.Ytckefohfahphpaa.Z
open Go.RowKit Go.Proofs.YtckefohfahphpaaW.PrintWords Go.Proofs.YtckefohfahphpaaW.PrintLast Go.Proofs.YtckefohfahphpaaW.PrintMore
set_option linter.unusedVariables false
set_option linter.unusedSimpArgs false
theorem redclear_spec {K m n p c : Nat} (hK : 200 ≤ K) (hn : n ≤ 64) (hp : p < m) (hc : c < n) : ∀ (d i : Nat) (L : List (List Int)), i + d = m → good m n L → 0 < vec (rd_L1 L (p : Int)) c →
  (∃ M, red_clear K p c d L i = some (M, 0) ∧ good m n M ∧ rd_L1 M (p : Int) = rd_L1 L (p : Int) ∧ (∀ j : Nat, j < i → rd_L1 M (j : Int) = rd_L1 L (j : Int)) ∧ ∀ j : Nat, i ≤ j → j < m → j ≠ p → Clr n c (rd_L1 L (j : Int)) (rd_L1 L (p : Int)) (rd_L1 M (j : Int))) ∨
  (∃ M, red_clear K p c d L i = some (M, 3) ∧ ∃ j : Nat, (i ≤ j ∨ j = p) ∧ j < m ∧ big (vec (rd_L1 L (j : Int)))) := by
 intro d
 induction d with
 | zero =>
  intro i L hi hg hv
  exact .inl ⟨L, rfl, hg, rfl, fun _ _ => rfl, fun j h1 h2 => by omega⟩
 | succ d ih =>
  intro i L hi hg hv
  have hL := hg.1
  have hr := hg.2 i (by omega)
  have hrl := hr.1
  rw [red_clear]
  by_cases hip : i = p
  ·
   rw [if_pos (by omega)]
   rcases ih (i + 1) L (by omega) hg hv with ⟨M, h1, h2, h3, h4, h5⟩ | h
   ·
    exact .inl ⟨M, h1, h2, h3, fun j hj => h4 j (by omega), fun j h6 h7 h8 => h5 j (by omega) h7 h8⟩
   ·
    obtain ⟨M, q1, j, q0, q2, q3⟩ := h
    exact .inr ⟨M, q1, j, by omega, q2, q3⟩
  rw [if_neg (by omega), if_pos ⟨by omega, by omega⟩]
  have e1 : rd (rd_L1 L (i : Int)) (c : Int) = vec (rd_L1 L (i : Int)) c := rfl
  rw [e1]
  by_cases h0 : vec (rd_L1 L (i : Int)) c = 0
  ·
   rw [if_pos h0]
   rcases ih (i + 1) L (by omega) hg hv with ⟨M, h1, h2, h3, h4, h5⟩ | h
   ·
    refine .inl ⟨M, h1, h2, h3, fun j hj => h4 j (by omega), fun j h6 h7 h8 => ?_⟩
    by_cases e : j = i
    ·
     subst e
     rw [h4 j (by omega)]
     exact .keep hr h0
    ·
     exact h5 j (by omega) h7 h8
   ·
    obtain ⟨M, q1, j, q0, q2, q3⟩ := h
    exact .inr ⟨M, q1, j, by omega, q2, q3⟩
  rw [if_neg h0]
  rcases clear_spec (i := i) (p := p) hK hn (by omega) (by omega) hr (hg.2 p hp) hc h0 hv with ⟨s, h1, h2⟩ | ⟨rows', h1, h2⟩
  ·
   rw [h1]
   simp only [Option.bind_some, if_true]
   have hs : ∀ j : Nat, rd_L1 (L.set i s) (j : Int) = if j = i then s else rd_L1 L (j : Int) := rdL_set (by omega)
   have hg' : good m n (L.set i s) := ⟨by simp; omega, fun j hj => by
    rw [hs]
    split
    ·
     exact h2.ok
    ·
     exact hg.2 j hj⟩
   have hsp : rd_L1 (L.set i s) (p : Int) = rd_L1 L (p : Int) := by rw [hs, if_neg (by omega)]
   rcases ih (i + 1) (L.set i s) (by omega) hg' (by rw [hsp]; exact hv) with ⟨M, q1, q2, q3, q4, q5⟩ | ⟨M, q1, j, q0, q2, q3⟩
   ·
    refine .inl ⟨M, q1, q2, by rw [q3, hsp], fun j hj => ?_, fun j h6 h7 h8 => ?_⟩
    ·
     rw [q4 j (by omega), hs, if_neg (by omega)]
    ·
     by_cases e : j = i
     ·
      subst e
      rw [q4 j (by omega), hs, if_pos rfl]
      exact h2
     ·
      have := q5 j (by omega) h7 h8
      rw [hsp, hs, if_neg e] at this
      exact this
   ·
    right
    rw [hs, if_neg (by omega)] at q3
    exact ⟨M, q1, j, by omega, q2, q3⟩
  ·
   rw [h1]
   simp only [Option.bind_some]
   rw [if_neg (by decide)]
   refine .inr ⟨rows', rfl, ?_⟩
   rcases h2 with h2 | h2
   ·
    exact ⟨i, by omega, by omega, h2⟩
   ·
    exact ⟨p, by omega, hp, h2⟩
/-- A state of the program's elimination ahead of column c. -/
structure Sta (a : List (List Int)) (m n : Nat) (L : List (List Int)) (cols : List Int) (p : Nat → Nat) (c : Nat) : Prop where
 gd : good m n L
 cs : ∀ i : Nat, i < cols.length → rd cols (i : Int) = (p i : Int)
 st : Stg (spanL a) m (rowsV L) cols.length p c
 ps : ∀ i, i < cols.length → 0 < rowsV L i (p i)
 nl : ∀ i, i < cols.length → ∀ x, nl (rowsV L i x)
 bd : ∃ R C, Bnd (spanL a) m (rowsV L) cols.length p R C
def tiny (a : List (List Int)) (m : Nat) : Prop := m ≤ 8 ∧ ∀ r ∈ spanL a, ∀ x, (r x).natAbs ≤ 3
theorem Sta.small {a : List (List Int)} {m n : Nat} {L : List (List Int)} {cols : List Int} {p : Nat → Nat} {c : Nat} (h : Sta a m n L cols p c) (ht : tiny a m) {i : Nat} (hi : i < m) : ¬ big (vec (rd_L1 L (i : Int))) := by
 obtain ⟨R, C, hb⟩ := h.bd
 rintro ⟨x, hx⟩
 have := hb.skip h.st ht.1 ht.2 i hi x
 unfold rowsV at this
 omega
theorem rd_snoc (l : List Int) (c : Int) (i : Nat) : rd (l ++ [c]) (i : Int) = if i = l.length then c else rd l (i : Int) := by
 simp only [rd, List.getD_eq_getElem?_getD, Int.toNat_natCast]
 by_cases h : i < l.length
 ·
  rw [if_neg (by omega), List.getElem?_append_left h]
 ·
  rw [List.getElem?_append_right (by omega)]
  by_cases e : i = l.length
  ·
   subst e; simp
  ·
   rw [if_neg e, List.getElem?_eq_none (by simp; omega), List.getElem?_eq_none (by omega)]
theorem pos_of_mul {a b : Int} (ha : 0 < a) (h : 0 < a * b) : 0 < b := by
 apply Classical.byContradiction
 intro hn
 have := Int.mul_nonneg (a := a) (b := -b) (by omega) (by omega)
 rw [Int.mul_neg] at this
 omega
theorem Sta.step {a : List (List Int)} {m n : Nat} {L M N : List (List Int)} {cols : List Int} {p : Nat → Nat} {c q : Nat} (h : Sta a m n L cols p c) (hl : Led m n cols.length q c L M) (hN : good m n N)
  (hk : rd_L1 N (cols.length : Int) = rd_L1 M (cols.length : Int)) (hc : ∀ j : Nat, j < m → j ≠ cols.length → Clr n c (rd_L1 M (j : Int)) (rd_L1 M (cols.length : Int)) (rd_L1 N (j : Int))) :
  Sta a m n N (cols ++ [(c : Int)]) (fun i => if i = cols.length then c else p i) (c + 1) := by
 have hkU : rowsV N cols.length = vec (rd_L1 M (cols.length : Int)) := by unfold rowsV; rw [hk]
 have hs : Stp m cols.length q c (rowsV L) (rowsV N) := by
  refine ⟨hl.qk, hl.qm, hl.nq, ?_, ?_, fun i hi hik => ?_, fun i hi hik => (hc i hi hik).zr, fun i hi hik => ?_⟩
  ·
   rw [hkU]; exact hl.lin
  ·
   rw [hkU]; exact hl.prm
  ·
   obtain ⟨a', b', g', ha, hg, e⟩ := (hc i hi hik).lin
   refine ⟨a', b', g', by omega, by omega, fun x => ?_⟩
   have := e x
   rw [hl.oth i hi hik] at this
   rw [hkU]
   exact this
  ·
   have := (hc i hi hik).pr
   rw [hl.oth i hi hik] at this
   exact this
 obtain ⟨R, C, hb⟩ := h.bd
 have hlen : (cols ++ [(c : Int)]).length = cols.length + 1 := by simp
 refine ⟨hN, fun i hi => ?_, by rw [hlen]; exact h.st.step hs, fun i hi => ?_, fun i hi x => ?_, by rw [hlen]; exact hb.step h.st hs⟩
 ·
  rw [rd_snoc]
  by_cases e : i = cols.length
  ·
   rw [if_pos e, if_pos e]
  ·
   rw [if_neg e, if_neg e]; exact h.cs i (by omega)
 ·
  by_cases e : i = cols.length
  ·
   rw [if_pos e, e, hkU]; exact hl.pos
  ·
   rw [if_neg e]
   have hi' : i < cols.length := by omega
   have hkm := hl.qm
   have hkq := hl.qk
   obtain ⟨a', b', g', ha, hg, e'⟩ := (hc i (by omega) e).lin
   have h1 := e' (p i)
   have h2 := (h.st.ukz hs).2.1 i hi'
   rw [hkU] at h2
   rw [h2, hl.oth i (by omega) e, if_neg (by omega), Int.mul_zero, Int.add_zero] at h1
   have h3 := Int.mul_pos ha (h.ps i hi')
   unfold rowsV at h3
   rw [← h1] at h3
   exact pos_of_mul hg h3
 ·
  by_cases e : i = cols.length
  ·
   rw [e, hkU]; exact hl.nl x
  ·
   have hkm := hl.qm
   have hkq := hl.qk
   refine (hc i (by omega) e).nl (fun x => ?_) x
   rw [hl.oth i (by omega) e, if_neg (by omega)]
   exact h.nl i (by omega) x
theorem redcols_spec {K m n : Nat} {a : List (List Int)} (hK : 200 ≤ K) (hm : m ≤ 64) (hn : n ≤ 64) : ∀ (d c : Nat) (L : List (List Int)) (cols : List Int) (p : Nat → Nat), c + d = n → Sta a m n L cols p c →
  (∃ N cols' p' c', red_cols K d L cols (c : Int) = some ((N, cols'), 0) ∧ Sta a m n N cols' p' c' ∧ c' ≤ n ∧ (cols'.length = m ∨ c' = n)) ∨ (∃ N cols', red_cols K d L cols (c : Int) = some ((N, cols'), 3) ∧ ¬ tiny a m) := by
 intro d
 induction d with
 | zero =>
  intro c L cols p hc hs
  exact .inl ⟨L, cols, p, c, rfl, hs, by omega, .inr (by omega)⟩
 | succ d ih =>
  intro c L cols p hc hs
  have hL := hs.gd.1
  have hkm := hs.st.km
  rw [red_cols]
  by_cases he : cols.length = L.length
  ·
   rw [if_pos he]
   exact .inl ⟨L, cols, p, c, rfl, hs, by omega, .inl (by omega)⟩
  rw [if_neg he]
  rcases lead_spec hK hm hn hs.gd (show c < n by omega) (cols := cols) (by omega) with ⟨M, h1, q, h2⟩ | ⟨h1, h2⟩ | ⟨M, h1, i, h2, h3⟩
  ·
   rw [h1]
   simp only [Option.bind_some, if_true]
   rw [show (((cols ++ [(c : Int)]).length : Int) - 1) = (cols.length : Int) by simp]
   have hM := h2.gd.1
   rcases redclear_spec hK hn (p := cols.length) (by omega) (show c < n by omega) M.length 0 M (by omega) h2.gd h2.pos with ⟨N, r1, r2, r3, r4, r5⟩ | ⟨N, r1, j, r0, r2, r3⟩
   ·
    have r1' : red_clear K (cols.length : Int) (c : Int) M.length M 0 = some (N, 0) := r1
    rw [r1']
    simp only [Option.bind_some, if_true]
    have := ih (c + 1) N (cols ++ [(c : Int)]) _ (by omega) (hs.step h2 r2 r3 fun j h3 h4 => r5 j (by omega) h3 h4)
    exact this
   ·
    have r1' : red_clear K (cols.length : Int) (c : Int) M.length M 0 = some (N, 3) := r1
    rw [r1']
    simp only [Option.bind_some]
    rw [if_neg (by decide)]
    refine .inr ⟨N, _, rfl, fun ht => ?_⟩
    by_cases e : j = cols.length
    ·
     obtain ⟨a', g', ha, hg, e'⟩ := h2.lin
     obtain ⟨x, hx⟩ := r3
     rw [e] at hx
     have := h2.prm.bound ha hg (fun x => (e' x).symm) x
     exact hs.small ht h2.qm ⟨x, by omega⟩
    ·
     rw [h2.oth j r2 e] at r3
     have := h2.qm
     have := h2.qk
     exact hs.small ht (by split <;> omega) r3
  ·
   rw [h1]
   simp only [Option.bind_some, if_true]
   rw [if_neg (by decide)]
   obtain ⟨R, C, hb⟩ := hs.bd
   exact ih (c + 1) L cols p (by omega) ⟨hs.gd, hs.cs, hs.st.skip h2, hs.ps, hs.nl, R, C, hb⟩
  ·
   rw [h1]
   simp only [Option.bind_some]
   rw [if_neg (by decide)]
   exact .inr ⟨M, cols, rfl, fun ht => hs.small ht h2 h3⟩
/-- What the program's elimination comes to. -/
structure Outc (a : List (List Int)) (n : Nat) (E : List (List Int)) (p : Nat → Nat) : Prop where
 ok : ∀ r ∈ E, nlr n r
 pn : ∀ i, i < E.length → p i < n
 fn : Fnl (spanL a) (rowsV E) E.length p
theorem Fnl.congr {A : List Vc} {T T' : Nat → Vc} {k : Nat} {p : Nat → Nat} (h : Fnl A T k p) (e : ∀ i, i < k → T i = T' i) : Fnl A T' k p := by
 have e1 : pairs T p k = pairs T' p k := List.map_congr_left fun i hi => by rw [e i (List.mem_range.mp hi)]
 have e2 : vs T k = vs T' k := List.map_congr_left fun i hi => e i (List.mem_range.mp hi)
 exact ⟨e1 ▸ h.red, fun i hi => e i hi ▸ h.up i hi, e2 ▸ h.dn, fun i hi => e i hi ▸ h.pr i hi⟩
theorem rdL_take {L : List (List Int)} {k i : Nat} (h : i < k) : rd_L1 (L.take k) (i : Int) = rd_L1 L (i : Int) := by
 simp [rd_L1, List.getD_eq_getElem?_getD, List.getElem?_take, h]
theorem good_mem {m n : Nat} {L : List (List Int)} (h : good m n L) {r : List Int} (hr : r ∈ L) : okr n r := by
 obtain ⟨i, hi, e⟩ := List.mem_iff_getElem.mp hr
 have := h.2 i (by rw [← h.1]; exact hi)
 rw [show rd_L1 L (i : Int) = r by simp [rd_L1, List.getD_eq_getElem?_getD, hi, e]] at this
 exact this
/-- What the bound of the rows gives the kernel's vectors. -/
def cram (E : List (List Int)) (p : Nat → Nat) : Prop := (∀ i, i < E.length → ∀ x, (rowsV E i x).natAbs ≤ hb 8) ∧ ∃ D : Int, D ≠ 0 ∧ D.natAbs ≤ hb 8 ∧ ∀ i, i < E.length → ∀ x, rowsV E i (p i) ∣ D * rowsV E i x
theorem reduce_spec {K : Nat} {a : List (List Int)} (hK : 200 ≤ K) (hv : validB a = true) (ha : ∀ r ∈ a, ok64 r) :
  (∃ E cols p, matrix_reduce.f K a = some ((E, cols), 0) ∧ Outc a (rd_L1 a 0).length E p ∧ cols.length = E.length ∧ (∀ i : Nat, i < E.length → rd cols (i : Int) = (p i : Int)) ∧ (tiny a a.length → cram E p)) ∨ (matrix_reduce.f K a = some (([], []), 3) ∧ ¬ tiny a a.length) := by
 obtain ⟨n, h1, h2, h3, h4, h5, h6⟩ := validB_iff.mp hv
 rw [h6]
 have hg : good a.length n a := ⟨rfl, fun i hi => by
  have := rdL_mem (a := a) (j := (i : Int)) (by omega) (by omega)
  exact ⟨h5 _ this, ha _ this⟩⟩
 unfold matrix_reduce.f
 rw [if_pos ⟨by omega, by omega, fun r hr => by rw [h5 r hr]; omega⟩, h6]
 have h0 : Sta a a.length n a [] (fun _ => 0) 0 := ⟨hg, fun i hi => by simp at hi, Stg.start _ _ _, fun i hi => by simp at hi, fun i hi => by simp at hi, [], [], Bnd.start _ _ _⟩
 rcases redcols_spec (K := K) (a := a) hK h2 h4 n 0 a [] _ (by omega) h0 with ⟨N, cols, p, c, r1, r2, r3, r4⟩ | ⟨N, cols, r1, r2⟩
 ·
  left
  have r1' : red_cols K n a [] 0 = some ((N, cols), 0) := r1
  rw [r1']
  simp only [Option.bind_some, if_true]
  have hN := r2.gd.1
  have hkm := r2.st.km
  rw [if_pos (by omega)]
  have hl : (N.take cols.length).length = cols.length := by simp; omega
  refine ⟨_, _, p, rfl, ⟨fun r hr => ?_, fun i hi => ?_, ?_⟩, hl.symm, fun i hi => r2.cs i (by omega), fun ht => ?_⟩
  ·
   obtain ⟨i, hi, e⟩ := List.mem_iff_getElem.mp hr
   have e1 : rd_L1 (N.take cols.length) (i : Int) = r := by rw [← e]; simp only [rd_L1, List.getD_eq_getElem?_getD, Int.toNat_natCast, List.getElem?_eq_getElem hi]; rfl
   have e2 : rowsV N i = vec r := by unfold rowsV; rw [← e1, rdL_take (by omega)]
   exact nlr_of (good_mem r2.gd (List.mem_of_mem_take hr)) fun x => by rw [← e2]; exact r2.nl i (by omega) x
  ·
   have := r2.st.lt i (by omega)
   omega
  ·
   rw [hl]
   refine (r2.st.fnl ?_ r2.ps).congr fun i hi => by unfold rowsV; rw [rdL_take hi]
   rcases r4 with r4 | r4
   ·
    exact .inl r4
   ·
    refine .inr fun i h7 h8 x => ?_
    by_cases hx : x < n
    ·
     exact r2.st.lo i h7 h8 x (by omega)
    ·
     exact vec_out (by have := (r2.gd.2 i h8).1; omega)
  ·
   obtain ⟨R, C, hb⟩ := r2.bd
   have hT : ∀ i, i < cols.length → rowsV (N.take cols.length) i = rowsV N i := fun i hi => by unfold rowsV; rw [rdL_take hi]
   refine ⟨fun i hi x => ?_, det R C, hb.dt, ?_, fun i hi x => ?_⟩
   ·
    rw [hT i (by omega)]
    exact hb.skip r2.st ht.1 ht.2 i (by omega) x
   ·
    have h7 := det_bound R C (fun r hr => ht.2 r (hb.ra r hr)) (by rw [hb.rl, hb.cl])
    have h8 := hb_mono (n := R.length) (m := 8) (by rw [hb.rl]; have := ht.1; omega)
    omega
   ·
    rw [hT i (by omega)]
    obtain ⟨v, D, _, h7, h8, h9⟩ := hb.cramer r2.st (show i < cols.length by omega)
    have h10 : rowsV N i (p i) ∣ D * rowsV N i x := ⟨v x, (h9 x).symm⟩
    rcases Int.natAbs_eq_natAbs_iff.mp h7 with e | e
    ·
     rw [← e]; exact h10
    ·
     rw [show det R C = -D by omega, Int.neg_mul]
     exact Int.dvd_neg.mpr h10
 ·
  right
  have r1' : red_cols K n a [] 0 = some ((N, cols), 3) := r1
  rw [r1']
  simp only [Option.bind_some]
  rw [if_neg (by decide)]
  exact ⟨rfl, r2⟩
end Go.Proofs.Ytckefohfahphpaa.Z
end
section
namespace Go.Proofs.Ytckefohfahphpaa.Z
open Go.RowKit Go.Proofs.YtckefohfahphpaaW.PrintWords Go.Proofs.YtckefohfahphpaaW.PrintLast Go.Proofs.YtckefohfahphpaaW.PrintMore
attribute [local go_sem] max2_int min2_int max_two min_two max_three min_three max_four min_four   -- for this text's walks alone
set_option linter.unusedVariables false
set_option linter.unusedSimpArgs false

/-! ### matrix_Rank: function 16, by hand -/
def matrix_Rank.f (k : Nat) (a : List (List Int)) : Option (Int × Int) := (matrix_Valid.f k a).bind fun v => if v = true then (matrix_reduce.f k a).bind fun r => some ((r.1.2.length : Int), r.2) else some (0, 2)
theorem matrix_Rank.mono (a : List (List Int)) (k : Nat) : LeO (matrix_Rank.f k a) (matrix_Rank.f (k + 1) a) := by
 unfold matrix_Rank.f
 exact LeO.bind (matrix_Valid.mono _ _) (fun _ => LeO.ite (LeO.bind (matrix_reduce.mono _ _) (fun _ => LeO.refl _)) (LeO.refl _))
set_option maxHeartbeats 8000000 in
set_option maxRecDepth 100000 in
theorem matrix_Rank.calls (k : Nat) (A0 : Option Addr) (c0 : Nat) (l0 : List (List Int)) (r1 : Int) (r2 : Int) (w : World) (hr0 : Kd.C (Kd.slice 2 (Kd.int .i64)) w A0 l0.length l0) (hc0 : l0.length ≤ c0) (h : matrix_Rank.f k l0 = some (r1, r2)) :
  Calls Try.prog 16 #[.slice A0 l0.length c0] w fun e w' => e = .returned (.tuple #[.int .i64 r1, .int .i64 r2]) ∧ Below w.heap.size w w' := by
 unfold matrix_Rank.f at h
 obtain ⟨v, hv, h⟩ := Option.bind_eq_some_iff.mp h
 have HV := Aside0.mk hv
 have HR := Aside0.mk hr0
 have HC := Aside0.mk hc0
 cases v
 ·
  have hE : (0 : Int) = r1 ∧ (2 : Int) = r2 := by simpa using h
  obtain ⟨rfl, rfl⟩ := hE
  clear hr0 hc0 h hv
  go_enter Try.func16, Try.ntmps16
  go_wp2_with (fail)
  refine (matrix_Valid.calls k _ _ l0 false _ HR.out HC.out HV.out).mono ?_
  rintro e w1 ⟨rfl, hd⟩
  have HD := Aside0.mk hd
  clear hd
  go_wp2
  go_ret2
  exact ⟨rfl, HD.out.below⟩
 ·
  simp only [if_true] at h
  obtain ⟨⟨⟨rows, cols⟩, e2⟩, hred, h⟩ := Option.bind_eq_some_iff.mp h
  have HRED := Aside0.mk hred
  obtain ⟨rfl, rfl⟩ : (cols.length : Int) = r1 ∧ e2 = r2 := by simpa using h
  clear hr0 hc0 hv hred h
  by_cases he : e2 = 0
  ·
   subst he
   go_enter Try.func16, Try.ntmps16
   go_wp2_with (fail)
   refine (matrix_Valid.calls k _ _ l0 true _ HR.out HC.out HV.out).mono ?_
   rintro e w1 ⟨rfl, hd⟩
   have HD := Aside0.mk hd.below
   clear hd
   go_wp2_with (fail)
   refine (matrix_reduce.calls k _ _ l0 rows cols 0 _ (Kd.C_below HR.out HD.out) HC.out HRED.out).mono ?_
   rintro e3 w3 ⟨p, rfl, hB, hz⟩
   obtain ⟨cv, rv, rfl, hT⟩ := hz rfl
   have HB := Aside0.mk (below_step HD.out hB)
   obtain ⟨Ac, cc, rfl⟩ := Kd.R_slice hT.col
   have hc1 := hT.c0
   clear hB hz hT
   go_wp2_with (fail)
   refine (pivots_rank.calls _ Ac cols.length cc _ hc1).mono ?_
   rintro e5 w5 ⟨rfl, hw⟩
   have hw := hw.symm
   subst hw
   go_wp2
   go_ret2
   exact ⟨rfl, HB.out⟩
  ·
   obtain ⟨rfl, rfl⟩ := reduce_bad HRED.out he
   have he3 : (e2 == 0) = false := beq_eq_false_iff_ne.mpr he
   have he4 : (e2 != 0) = true := bne_iff_ne.mpr he
   go_enter Try.func16, Try.ntmps16
   go_wp2_with (fail)
   refine (matrix_Valid.calls k _ _ l0 true _ HR.out HC.out HV.out).mono ?_
   rintro e w1 ⟨rfl, hd⟩
   have HD := Aside0.mk hd.below
   clear hd
   go_wp2_with (fail)
   refine (matrix_reduce.calls k _ _ l0 _ _ e2 _ (Kd.C_below HR.out HD.out) HC.out HRED.out).mono ?_
   rintro e3 w3 ⟨p, rfl, hB, hz⟩
   have HB := Aside0.mk (below_step HD.out hB)
   clear hB hz
   go_wp2
   go_ret2
   exact ⟨rfl, HB.out⟩

end Go.Proofs.Ytckefohfahphpaa.Z
end
section
namespace Go.Proofs.Ytckefohfahphpaa.Z
open Go.RowKit Go.Proofs.YtckefohfahphpaaW.PrintWords Go.Proofs.YtckefohfahphpaaW.PrintLast Go.Proofs.YtckefohfahphpaaW.PrintMore
set_option linter.unusedVariables false
set_option linter.unusedSimpArgs false
theorem tdiv_abs (x y : Int) : (Int.tdiv x y).natAbs ≤ x.natAbs := by rw [Int.natAbs_tdiv]; exact Nat.div_le_self _ _
theorem rd_vec (l : List Int) (x : Nat) : rd l (x : Int) = vec l x := rfl
theorem wsucc {i : Nat} (h : i ≤ 100000) : wrap64 ((i : Int) + 1) = ((i + 1 : Nat) : Int) := by rw [wrap64_small (by omega) (by omega)]; omega
theorem vec_cons0 (x : Int) (a : List Int) : vec (x :: a) 0 = x := by simp [vec, rd]
theorem vec_consS (x : Int) (a : List Int) (i : Nat) : vec (x :: a) (i + 1) = vec a i := by simp [vec, rd]
theorem mech_eq {K : Nat} {a : List (List Int)} (hK : 300 ≤ K) : matrix_Echelon.f K a = if validB a = true then (matrix_reduce.f K a).bind fun r => some (r.1.1, r.2) else some ([], 2) := by
 unfold matrix_Echelon.f
 rw [mvalid_eq a K (by omega)]
 rfl
theorem mrank_eq {K : Nat} {a : List (List Int)} (hK : 300 ≤ K) : matrix_Rank.f K a = if validB a = true then (matrix_reduce.f K a).bind fun r => some ((r.1.2.length : Int), r.2) else some (0, 2) := by
 unfold matrix_Rank.f
 rw [mvalid_eq a K (by omega)]
 rfl
theorem Fnl.inc {A : List Vc} {T : Nat → Vc} {k : Nat} {p : Nat → Nat} (h : Fnl A T k p) {i j : Nat} (hij : i < j) (hj : j < k) : p i < p j := by
 have := List.pairwise_iff_getElem.mp h.red.inc i j (by simp [pairs]; omega) (by simp [pairs]; omega) hij
 simpa [pairs] using this
theorem Outc.len {a : List (List Int)} {n : Nat} {E : List (List Int)} {p : Nat → Nat} (h : Outc a n E p) : E.length ≤ n := by
 have hp : ∀ i, i < E.length → i ≤ p i := by
  intro i
  induction i with
  | zero => intro _; omega
  | succ i ih =>
   intro hi
   have h1 := ih (by omega)
   have h2 := h.fn.inc (show i < i + 1 by omega) hi
   omega
 by_cases h0 : E.length = 0
 ·
  omega
 ·
  have h1 := hp (E.length - 1) (by omega)
  have h2 := h.pn (E.length - 1) (by omega)
  omega
theorem Outc.same {a : List (List Int)} {n : Nat} {E F : List (List Int)} {p q : Nat → Nat} (hE : Outc a n E p) (hF : Outc a n F q) : E = F := by
 obtain ⟨h1, h2⟩ := hE.fn.uniq hF.fn (fun v hv => .mem hv) (fun v hv => .mem hv)
 apply List.ext_getElem h1
 intro i hi hi'
 have h3 := (h2 i hi).2
 have e1 : rd_L1 E (i : Int) = E[i] := by simp [rd_L1, List.getD_eq_getElem?_getD, hi]
 have e2 : rd_L1 F (i : Int) = F[i] := by simp [rd_L1, List.getD_eq_getElem?_getD, hi']
 unfold rowsV at h3
 rw [e1, e2] at h3
 exact vec_ext (by rw [(hE.ok _ (List.getElem_mem hi)).1, (hF.ok _ (List.getElem_mem hi')).1]) h3
end Go.Proofs.Ytckefohfahphpaa.Z
end
section
namespace Go.Proofs.Ytckefohfahphpaa.Z
open Go.RowKit Go.Proofs.YtckefohfahphpaaW.PrintWords Go.Proofs.YtckefohfahphpaaW.PrintLast Go.Proofs.YtckefohfahphpaaW.PrintMore
set_option linter.unusedVariables false
set_option linter.unusedSimpArgs false
theorem quo_gcd {P F : Int} (hP : 0 < P) : ∃ g q m : Int, g = (Int.gcd P F : Int) ∧ 0 < g ∧ q = Int.tdiv P g ∧ m = Int.tdiv F g ∧ P = g * q ∧ F = g * m ∧ 0 < q ∧ q ≤ P ∧ m.natAbs ≤ F.natAbs ∧ ∀ t : Int, q ∣ t ↔ P ∣ F * t := by
 have h1 : 0 < Int.gcd P F := Int.gcd_pos_of_ne_zero_left F (by omega)
 obtain ⟨g, hg⟩ : ∃ g : Int, g = (Int.gcd P F : Int) := ⟨_, rfl⟩
 have hg0 : 0 < g := by omega
 have e1 : P = g * Int.tdiv P g := (Int.mul_tdiv_cancel' (hg ▸ Int.gcd_dvd_left ..)).symm
 have e2 : F = g * Int.tdiv F g := (Int.mul_tdiv_cancel' (hg ▸ Int.gcd_dvd_right ..)).symm
 have t1 := tdiv_abs P g
 have t2 := tdiv_abs F g
 have hq : 0 < Int.tdiv P g := pos_of_mul hg0 (by rw [← e1]; exact hP)
 refine ⟨g, _, _, hg, hg0, rfl, rfl, e1, e2, hq, by omega, t2, fun t => ⟨fun ⟨z, hz⟩ => ⟨Int.tdiv F g * z, ?_⟩, fun ⟨z, hz⟩ => ?_⟩⟩
 ·
  rw [hz]
  generalize Int.tdiv P g = q at *
  generalize Int.tdiv F g = m at *
  rw [e1, e2]
  grind
 ·
  generalize hq' : Int.tdiv P g = q at *
  generalize hm' : Int.tdiv F g = m at *
  have hc : Int.gcd q m = 1 := by
   have e := Int.gcd_mul_left g q m
   rw [← e1, ← e2] at e
   have h2 : g.natAbs * Int.gcd q m = g.natAbs * 1 := by rw [← e]; omega
   exact Nat.eq_of_mul_eq_mul_left (by omega) h2
  have h3 : q ∣ m * t := by
   refine ⟨z, ?_⟩
   have : g * (m * t) = g * (q * z) := by
    rw [← Int.mul_assoc, ← e2, hz, ← Int.mul_assoc, ← e1]
   exact Int.eq_of_mul_eq_mul_left (by omega) this
  exact Int.natAbs_dvd_natAbs.mp ((show Nat.Coprime q.natAbs m.natAbs from hc).dvd_of_dvd_mul_left (by rw [← Int.natAbs_mul]; exact Int.natAbs_dvd_natAbs.mpr h3))
/-- The least common multiple of s and q, as s/g*q. -/
theorem lcm_props {s q : Int} (hs : 0 < s) (hq : 0 < q) : ∃ L : Int, L = Int.tdiv s (Int.gcd s q : Int) * q ∧ L = s * Int.tdiv q (Int.gcd s q : Int) ∧ 0 < L ∧ s ∣ L ∧ q ∣ L ∧ ∀ t, s ∣ t → q ∣ t → L ∣ t := by
 obtain ⟨g, a, b, h1, h2, h3, h4, h5, h6, h7, h8, h9, h10⟩ := quo_gcd (P := s) (F := q) hs
 have hb : 0 < b := pos_of_mul h2 (by rw [← h6]; exact hq)
 rw [← h1, ← h3, ← h4]
 refine ⟨_, rfl, ?_, Int.mul_pos h7 hq, ⟨b, ?_⟩, ⟨a, Int.mul_comm _ _⟩, fun t ⟨z, hz⟩ hqt => ?_⟩
 ·
  rw [h5, h6]; grind
 ·
  rw [h5, h6]; grind
 ·
  obtain ⟨y, hy⟩ := hqt
  have e : g * (a * z) = g * (b * y) := by
   have e1 : g * (a * z) = t := by rw [hz, h5]; grind
   have e2 : g * (b * y) = t := by rw [hy, h6]; grind
   rw [e1, e2]
  have e3 := Int.eq_of_mul_eq_mul_left (show g ≠ 0 by omega) e
  have h11 : a ∣ y := (h10 y).mpr ⟨z * 1, by
   rw [h6, h5, Int.mul_one]
   have : b * y = a * z := e3.symm
   calc g * b * y = g * (b * y) := Int.mul_assoc _ _ _
    _ = g * (a * z) := by rw [this]
    _ = g * a * z := (Int.mul_assoc _ _ _).symm⟩
  obtain ⟨x, hx⟩ := h11
  exact ⟨x, by rw [hy, hx]; grind⟩
theorem mlcm_eq {k : Nat} {s q : Int} (hs : 0 < s) (hs' : s ≤ 9223372036854775807) (hq : 0 < q) (hq' : q ≤ 9223372036854775807) (hk : 5 ≤ k) :
  safeint_Lcm.f k s q = some (if Int.tdiv s (Int.gcd s q : Int) * q ≤ 9223372036854775807 then (Int.tdiv s (Int.gcd s q : Int) * q, true) else (0, false)) := by
 obtain ⟨k, rfl⟩ : ∃ m, k = m + 2 := ⟨k - 2, by omega⟩
 have hsz : ∀ {x : Int}, 0 < x → x ≤ 9223372036854775807 → safeint_size.f x = some x := by
  intro x h1 h2
  unfold safeint_size.f
  rw [if_neg (by omega), wrap_u64_id _ (by omega) (by omega)]
 unfold safeint_Lcm.f
 rw [if_neg (by omega), safeint_Lcm.j0, if_neg (by simp; omega), hsz hs hs', hsz hq hq']
 simp only [Option.bind_some]
 unfold safeint_common.f
 rw [if_pos ⟨by omega, by omega⟩]
 simp only [Option.bind_some]
 have h1 : 0 < Int.gcd s q := Int.gcd_pos_of_ne_zero_left q (by omega)
 obtain ⟨g, hg⟩ : ∃ g : Int, g = (Int.gcd s q : Int) := ⟨_, rfl⟩
 have hg0 : 0 < g := by omega
 have e1 : s = g * Int.tdiv s g := (Int.mul_tdiv_cancel' (hg ▸ Int.gcd_dvd_left ..)).symm
 have t1 := tdiv_abs s g
 have ha : 0 < Int.tdiv s g := pos_of_mul hg0 (by rw [← e1]; exact hs)
 rw [← hg, if_neg (by omega)]
 obtain ⟨a, hae⟩ : ∃ a, a = Int.tdiv s g := ⟨_, rfl⟩
 rw [← hae] at ha t1 ⊢
 rw [wrap_u64_id _ (by omega) (by omega)]
 unfold safeint_times.f
 rw [if_pos ⟨by omega, by omega, by omega, by omega⟩]
 simp only [Option.bind_some]
 have hp := Int.mul_pos ha hq
 generalize a * q = L at *
 by_cases c : L ≤ 9223372036854775807
 ·
  rw [if_pos (by omega), if_pos c]
  have h2 := safeint_Mul.signed (L % 18446744073709551616) false (by omega) (by omega)
  rw [if_neg (by decide), if_pos (by omega)] at h2
  have h3 := LeO.up (f := fun k => safeint_signed.f k (L % 18446744073709551616) false) (fun k => safeint_signed.mono _ _ k) h2 (k + 1) (by omega)
  have h3 : safeint_signed.f (k + 1) (L % 18446744073709551616) false = some (L % 18446744073709551616, true) := h3
  rw [h3]
  simp only [Option.bind_some]
  rw [show L % 18446744073709551616 = L by omega]
 ·
  rw [if_neg c]
  by_cases c2 : L / 18446744073709551616 = 0
  ·
   rw [if_pos c2]
   have h2 := safeint_Mul.signed (L % 18446744073709551616) false (by omega) (by omega)
   rw [if_neg (by decide), if_neg (by omega)] at h2
   have h3 := LeO.up (f := fun k => safeint_signed.f k (L % 18446744073709551616) false) (fun k => safeint_signed.mono _ _ k) h2 (k + 1) (by omega)
   have h3 : safeint_signed.f (k + 1) (L % 18446744073709551616) false = some (0, false) := h3
   rw [h3]
   rfl
  ·
   rw [if_neg c2]
end Go.Proofs.Ytckefohfahphpaa.Z
end
section
namespace Go.Proofs.Ytckefohfahphpaa.Z
open Go.RowKit Go.Proofs.YtckefohfahphpaaW.PrintWords Go.Proofs.YtckefohfahphpaaW.PrintLast Go.Proofs.YtckefohfahphpaaW.PrintMore
set_option linter.unusedVariables false
set_option linter.unusedSimpArgs false
/-- Every fraction of column f over a pivot becomes whole with t. -/
def DD (E : List (List Int)) (p : Nat → Nat) (f : Nat) (t : Int) : Prop := ∀ j, j < E.length → rowsV E j (p j) ∣ rowsV E j f * t
/-- The kernel's vector for the free column f. -/
structure KerV (E : List (List Int)) (p : Nat → Nat) (n f : Nat) (K : List Int) : Prop where
 ok : okr n K
 ps : 0 < vec K f
 dd : DD E p f (vec K f)
 le : ∀ t, DD E p f t → vec K f ∣ t
 pv : ∀ j, j < E.length → rowsV E j (p j) * vec K (p j) = -(rowsV E j f * vec K f)
 zr : ∀ x, x ≠ f → (∀ j, j < E.length → p j ≠ x) → vec K x = 0
theorem KerV.uniq {E : List (List Int)} {p : Nat → Nat} {n f : Nat} {K K' : List Int} (h : KerV E p n f K) (h' : KerV E p n f K') (hE : ∀ j, j < E.length → rowsV E j (p j) ≠ 0) : K = K' := by
 have hs : vec K f = vec K' f := Int.dvd_antisymm (by have := h.ps; omega) (by have := h'.ps; omega) (h.le _ h'.dd) (h'.le _ h.dd)
 apply vec_ext (by rw [h.ok.1, h'.ok.1])
 funext x
 by_cases hx : x = f
 ·
  rw [hx]; exact hs
 ·
  by_cases hp : ∃ j, j < E.length ∧ p j = x
  ·
   obtain ⟨j, hj, rfl⟩ := hp
   have h1 := h.pv j hj
   have h2 := h'.pv j hj
   rw [hs] at h1
   exact Int.eq_of_mul_eq_mul_left (hE j hj) (by rw [h1, h2])
  ·
   rw [h.zr x hx fun j hj e => hp ⟨j, hj, e⟩, h'.zr x hx fun j hj e => hp ⟨j, hj, e⟩]
/-- A vector that solves the rows and has no smaller one is a primitive row's. -/
theorem KerV.prim {E : List (List Int)} {p : Nat → Nat} {n f : Nat} {K s : List Int} {g : Int} (h : KerV E p n f K) (hs : okr n s) (hg : 0 < g) (e : ∀ x, vec K x = g * vec s x) : s = K := by
 have h1 : vec K f ∣ vec s f := h.le _ fun j hj => by
  have h2 := h.pv j hj
  rw [e, e (f)] at h2
  refine ⟨-vec s (p j), ?_⟩
  have : g * (rowsV E j f * vec s f) = g * (rowsV E j (p j) * -vec s (p j)) := by grind
  exact Int.eq_of_mul_eq_mul_left (by omega) this
 have h2 := e f
 have hp := h.ps
 have hsp : 0 < vec s f := pos_of_mul hg (by rw [← h2]; exact hp)
 have h3 := Int.le_of_dvd hsp h1
 have h4 : g = 1 := by
  apply Classical.byContradiction
  intro hne
  have h5 : 0 < (g - 1) * vec s f := Int.mul_pos (by omega) hsp
  rw [Int.sub_mul] at h5
  omega
 apply vec_ext (by rw [hs.1, h.ok.1])
 funext x
 rw [e x, h4, Int.one_mul]
theorem solscale_spec {K n f : Nat} {E : List (List Int)} {cols : List Int} {p : Nat → Nat} (hK : 200 ≤ K) (hE : ∀ j : Nat, j < E.length → okr n (rd_L1 E (j : Int))) (hcl : cols.length = E.length) (hc : ∀ j : Nat, j < E.length → rd cols (j : Int) = (p j : Int)) (hpn : ∀ j, j < E.length → p j < n) (hf : f < n) (hpos : ∀ j, j < E.length → 0 < rowsV E j (p j)) :
  ∀ (d i : Nat) (s : Int), i + d = E.length → 0 < s → s ≤ 9223372036854775807 →
  (∃ s', sol_scale K E f (cols.drop i) i s = some (some s') ∧ 0 < s' ∧ s' ≤ 9223372036854775807 ∧ s ∣ s' ∧ (∀ j, i ≤ j → j < E.length → rowsV E j (p j) ∣ rowsV E j f * s') ∧ ∀ t, s ∣ t → (∀ j, i ≤ j → j < E.length → rowsV E j (p j) ∣ rowsV E j f * t) → s' ∣ t) ∨
  (sol_scale K E f (cols.drop i) i s = some none ∧ ∀ D : Int, 0 < D → s ∣ D → (∀ j, i ≤ j → j < E.length → rowsV E j (p j) ∣ rowsV E j f * D) → 9223372036854775807 < D) := by
 intro d
 induction d with
 | zero =>
  intro i s hi hs hs'
  left
  rw [List.drop_of_length_le (by omega)]
  exact ⟨s, rfl, hs, hs', ⟨1, by simp⟩, fun j h1 h2 => by omega, fun t ht _ => ht⟩
 | succ d ih =>
  intro i s hi hs hs'
  have hiE : i < E.length := by omega
  have hr := hE i hiE
  have hrl := hr.1
  have hpi := hpn i hiE
  rw [drop_rd1 (by omega), hc i hiE, sol_scale, if_pos ⟨hiE, by omega, by omega, by omega, by omega⟩, rd_vec, rd_vec]
  have hP : 0 < vec (rd_L1 E (i : Int)) (p i) := hpos i hiE
  obtain ⟨b1, b2⟩ := okr_in hr (p i)
  obtain ⟨b3, b4⟩ := okr_in hr f
  obtain ⟨P, hPe⟩ : ∃ P, P = vec (rd_L1 E (i : Int)) (p i) := ⟨_, rfl⟩
  obtain ⟨F, hFe⟩ : ∃ F, F = vec (rd_L1 E (i : Int)) f := ⟨_, rfl⟩
  have eP : rowsV E i (p i) = P := hPe.symm
  have eF : rowsV E i f = F := hFe.symm
  rw [← hPe] at b1 b2 hP ⊢
  rw [← hFe] at b3 b4 ⊢
  obtain ⟨g, q, m, h1, h2, h3, h4, h5, h6, h7, h8, h9, h10⟩ := quo_gcd (P := P) (F := F) hP
  have hgP : g ≤ P := Int.le_of_dvd hP ⟨q, h5⟩
  unfold safeint_Gcd.f
  rw [if_pos ⟨⟨b1, b2⟩, b3, b4⟩, ← h1, if_pos (by omega)]
  simp only [Option.bind_some, if_true]
  rw [if_neg (by omega), ← h3, wrap64_id ⟨by omega, by omega⟩, mlcm_eq hs hs' h7 (by omega) (by omega)]
  obtain ⟨L, e1, e2, e3, e4, e5, e6⟩ := lcm_props hs h7
  rw [← e1]
  simp only [Option.bind_some]
  by_cases hL : L ≤ 9223372036854775807
  ·
   rw [if_pos hL, if_pos rfl]
   rcases ih (i + 1) L (by omega) e3 hL with ⟨s', r1, r2, r3, r4, r5, r6⟩ | ⟨r1, r2⟩
   ·
    refine .inl ⟨s', r1, r2, r3, Int.dvd_trans e4 r4, fun j h11 h12 => ?_, fun t h11 h12 => r6 t (e6 t h11 ?_) fun j h13 h14 => h12 j (by omega) h14⟩
    ·
     by_cases e : j = i
     ·
      rw [e, eP, eF]
      exact (h10 s').mp (Int.dvd_trans e5 r4)
     ·
      exact r5 j (by omega) h12
    ·
     have := h12 i (by omega) hiE
     rw [eP, eF] at this
     exact (h10 t).mpr this
   ·
    refine .inr ⟨r1, fun D h11 h12 h13 => r2 D h11 (e6 D h12 ?_) fun j h14 h15 => h13 j (by omega) h15⟩
    have := h13 i (by omega) hiE
    rw [eP, eF] at this
    exact (h10 D).mpr this
  ·
   rw [if_neg hL, if_neg (by decide)]
   refine .inr ⟨rfl, fun D h11 h12 h13 => ?_⟩
   have := h13 i (by omega) hiE
   rw [eP, eF] at this
   have := Int.le_of_dvd h11 (e6 D h12 ((h10 D).mpr this))
   omega
theorem vec_set {l : List Int} {i : Nat} {v : Int} (h : i < l.length) (x : Nat) : vec (l.set i v) x = if x = i then v else vec l x := by
 by_cases hx : x < l.length
 ·
  rw [vec_get (by simpa using hx), vec_get hx, List.getElem_set]
  by_cases e : i = x
  ·
   rw [if_pos e, if_pos e.symm]
  ·
   rw [if_neg e, if_neg fun h => e h.symm]
 ·
  rw [vec_out (by simp; omega), vec_out (by omega), if_neg (by omega)]
/-- The value at the pivot of a row, for the free column f and the scale s: both texts reckon it so. -/
theorem fill_val {P F s : Int} (hP : 0 < P) (hs : 0 < s) (hd : P ∣ F * s) : ∃ g q m w : Int, g = (Int.gcd P F : Int) ∧ 0 < g ∧ g ≤ P ∧ q = Int.tdiv P g ∧ m = Int.tdiv F g ∧ 0 < q ∧ q ≤ P ∧ m.natAbs ≤ F.natAbs ∧ w = Int.tdiv s q ∧ 0 < w ∧ w ≤ s ∧ P * (-m * w) = -(F * s) := by
 obtain ⟨g, q, m, h1, h2, h3, h4, h5, h6, h7, h8, h9, h10⟩ := quo_gcd (P := P) (F := F) hP
 have hq := (h10 s).mpr hd
 have e1 : q * Int.tdiv s q = s := Int.mul_tdiv_cancel' hq
 have hw : 0 < Int.tdiv s q := pos_of_mul h7 (by rw [e1]; exact hs)
 have t1 := tdiv_abs s q
 refine ⟨g, q, m, Int.tdiv s q, h1, h2, Int.le_of_dvd hP ⟨q, h5⟩, h3, h4, h7, h8, h9, rfl, hw, by omega, ?_⟩
 generalize Int.tdiv s q = w at *
 rw [h5, h6, ← e1]
 grind
theorem solfill_spec {n f : Nat} {E : List (List Int)} {cols : List Int} {p : Nat → Nat} {s : Int} (hE : ∀ j : Nat, j < E.length → nlr n (rd_L1 E (j : Int))) (hcl : cols.length = E.length) (hc : ∀ j : Nat, j < E.length → rd cols (j : Int) = (p j : Int)) (hpn : ∀ j, j < E.length → p j < n) (hf : f < n) (hpos : ∀ j, j < E.length → 0 < rowsV E j (p j))
  (hinj : ∀ i j, i < j → j < E.length → p i < p j) (hs : 0 < s) (hs' : s ≤ 9223372036854775807) (hdd : DD E p f s) :
  ∀ (d i : Nat) (out : List Int), i + d = E.length → okr n out →
  (∃ out', sol_fill E f s (cols.drop i) i out = some (some out') ∧ okr n out' ∧ (∀ x, (∀ j, i ≤ j → j < E.length → p j ≠ x) → vec out' x = vec out x) ∧ ∀ j, i ≤ j → j < E.length → rowsV E j (p j) * vec out' (p j) = -(rowsV E j f * s)) ∨
  (sol_fill E f s (cols.drop i) i out = some none ∧ ∃ j, j < E.length ∧ ∃ m w : Int, m.natAbs ≤ (rowsV E j f).natAbs ∧ 0 < w ∧ w ≤ s ∧ ¬ in64 (-m * w)) := by
 intro d
 induction d with
 | zero =>
  intro i out hi ho
  left
  rw [List.drop_of_length_le (by omega)]
  exact ⟨out, rfl, ho, fun _ _ => rfl, fun j h1 h2 => by omega⟩
 | succ d ih =>
  intro i out hi ho
  have hiE : i < E.length := by omega
  have hr := hE i hiE
  have hrl := hr.1
  have hol := ho.1
  have hpi := hpn i hiE
  rw [drop_rd1 (by omega), hc i hiE, sol_fill, if_pos ⟨hiE, by omega, by omega, by omega, by omega, by omega⟩, rd_vec, rd_vec]
  have hP : 0 < vec (rd_L1 E (i : Int)) (p i) := hpos i hiE
  have hd := hdd i hiE
  obtain ⟨b1, b2⟩ := nlr_in hr (p i)
  obtain ⟨b3, b4⟩ := nlr_in hr f
  obtain ⟨P, hPe⟩ : ∃ P, P = vec (rd_L1 E (i : Int)) (p i) := ⟨_, rfl⟩
  obtain ⟨F, hFe⟩ : ∃ F, F = vec (rd_L1 E (i : Int)) f := ⟨_, rfl⟩
  have eP : rowsV E i (p i) = P := hPe.symm
  have eF : rowsV E i f = F := hFe.symm
  rw [eP, eF] at hd
  rw [← hPe] at b1 b2 hP ⊢
  rw [← hFe] at b3 b4 ⊢
  obtain ⟨g, q, m, w, h1, h2, h3, h4, h5, h6, h7, h8, h9, h10, h11, h12⟩ := fill_val hP hs hd
  unfold safeint_Gcd.f
  rw [if_pos ⟨⟨by omega, b2⟩, by omega, b4⟩, ← h1, if_pos (by omega)]
  simp only [Option.bind_some]
  rw [if_neg (by omega), ← h4, wrap64_id ⟨by omega, by omega⟩, if_neg (by omega), ← h5, ← h9, wrap64_id (n := m) ⟨by omega, by omega⟩, wrap64_id (n := w) ⟨by omega, by omega⟩]
  rw [wrap64_id (n := -m) ⟨by omega, by omega⟩, mul_eq ⟨by omega, by omega⟩ ⟨by omega, by omega⟩]
  simp only [Option.bind_some]
  by_cases hin : in64 (-m * w)
  ·
   rw [chk_ok hin, if_pos rfl]
   have hset : ∀ x, vec (out.set (p i : Int).toNat (-m * w)) x = if x = p i then -m * w else vec out x := fun x => by
    rw [show ((p i : Int)).toNat = p i by omega]
    exact vec_set (by omega) x
   have hok : okr n (out.set (p i : Int).toNat (-m * w)) := ⟨by simp; omega, fun z hz => by
    rcases List.mem_or_eq_of_mem_set hz with h | h
    ·
     exact ho.2 z h
    ·
     rw [h]; exact hin⟩
   rcases ih (i + 1) _ (by omega) hok with ⟨out', r1, r2, r3, r4⟩ | h
   ·
    refine .inl ⟨out', r1, r2, fun x hx => ?_, fun j h13 h14 => ?_⟩
    ·
     rw [r3 x (fun j h13 h14 => hx j (by omega) h14), hset, if_neg fun e => hx i (by omega) hiE e.symm]
    ·
     by_cases e : j = i
     ·
      subst e
      rw [r3 _ (fun j' h15 h16 => by have := hinj j j' (by omega) h16; omega), hset, if_pos rfl, eP, eF]
      exact h12
     ·
      exact r4 j (by omega) h14
   ·
    exact .inr h
  ·
   rw [chk_no hin, if_neg (by decide)]
   exact .inr ⟨rfl, i, hiE, m, w, by rw [eF]; exact h8, h10, h11, hin⟩
end Go.Proofs.Ytckefohfahphpaa.Z
end
section
namespace Go.Proofs.Ytckefohfahphpaa.Z
open Go.RowKit Go.Proofs.YtckefohfahphpaaW.PrintWords Go.Proofs.YtckefohfahphpaaW.PrintLast Go.Proofs.YtckefohfahphpaaW.PrintMore
set_option linter.unusedVariables false
set_option linter.unusedSimpArgs false
/-! Uses Outc.len, Fnl.inc. -/
theorem cram.pos {E : List (List Int)} {p : Nat → Nat} (h : cram E p) : ∃ D : Int, 0 < D ∧ D ≤ (hb 8 : Int) ∧ ∀ j, j < E.length → ∀ x, rowsV E j (p j) ∣ rowsV E j x * D := by
 obtain ⟨_, D, h1, h2, h3⟩ := h
 refine ⟨(D.natAbs : Int), by omega, by omega, fun j hj x => ?_⟩
 have h4 := h3 j hj x
 rw [Int.mul_comm] at h4
 rcases Int.natAbs_eq D with e | e
 ·
  rw [← e]; exact h4
 ·
  have e2 : (D.natAbs : Int) = -D := by omega
  rw [e2, Int.mul_neg]
  exact Int.dvd_neg.mpr h4
theorem small_mul {a b : Int} (h1 : a.natAbs ≤ hb 8) (h2 : b.natAbs ≤ hb 8) : (a * b).natAbs ≤ 100000000000000000 := by
 rw [Int.natAbs_mul]
 refine Nat.le_trans (Nat.mul_le_mul h1 h2) ?_
 rw [hb8]
 decide
/-- What both texts' vectors have, ahead of the last step. -/
theorem KerV.mk' {E : List (List Int)} {p : Nat → Nat} {n f : Nat} {s : Int} {out : List Int} (ho : okr n out) (hs : 0 < s) (hdd : DD E p f s) (hle : ∀ t, DD E p f t → s ∣ t) (hf : ∀ j, j < E.length → p j ≠ f)
  (h1 : ∀ x, (∀ j, j < E.length → p j ≠ x) → vec out x = if x = f then s else 0) (h2 : ∀ j, j < E.length → rowsV E j (p j) * vec out (p j) = -(rowsV E j f * s)) : KerV E p n f out := by
 have hv : vec out f = s := by rw [h1 f hf, if_pos rfl]
 exact ⟨ho, by rw [hv]; exact hs, by rw [hv]; exact hdd, fun t ht => by rw [hv]; exact hle t ht, fun j hj => by rw [hv]; exact h2 j hj, fun x hx hp => by rw [h1 x hp, if_neg hx]⟩
theorem start_vec {n f : Nat} (hf : f < n) (s : Int) (x : Nat) : vec ((List.replicate n (0 : Int)).set f s) x = if x = f then s else 0 := by
 rw [vec_set (by simpa using hf)]
 split
 ·
  rfl
 ·
  by_cases hx : x < n
  ·
   rw [vec_get (by simpa using hx)]; simp
  ·
   rw [vec_out (by simp; omega)]
theorem start_ok {n f : Nat} {s : Int} (h1 : 0 < s) (h2 : s ≤ 9223372036854775807) : okr n ((List.replicate n (0 : Int)).set f s) := ⟨by simp, fun z hz => by
 rcases List.mem_or_eq_of_mem_set hz with h | h
 ·
  rw [(List.mem_replicate.mp h).2]; constructor <;> omega
 ·
  rw [h]; constructor <;> omega⟩
theorem sol_spec {K n f : Nat} {a E : List (List Int)} {cols : List Int} {p : Nat → Nat} (hK : 200 ≤ K) (hn : n ≤ 64) (hO : Outc a n E p) (hcl : cols.length = E.length) (hc : ∀ j : Nat, j < E.length → rd cols (j : Int) = (p j : Int)) (hf : f < n) (hfp : ∀ j, j < E.length → p j ≠ f) :
  (∃ v, table_solution.f K E cols f n = some (v, 0) ∧ KerV E p n f v) ∨ (∃ v, table_solution.f K E cols f n = some (v, 3) ∧ ¬ cram E p) := by
 have hlen := hO.len
 have hrow : ∀ j : Nat, j < E.length → nlr n (rd_L1 E (j : Int)) := fun j hj => hO.ok _ (rdL_mem (by omega) (by omega))
 have hpos : ∀ j, j < E.length → 0 < rowsV E j (p j) := fun j hj => (hO.fn.pr j hj).2
 unfold table_solution.f
 rw [if_pos ⟨by omega, by omega, by omega, by omega⟩]
 rcases solscale_spec (f := f) hK (fun j hj => (hrow j hj).okr) hcl hc hO.pn hf hpos E.length 0 1 (by omega) (by omega) (by omega) with ⟨s, r1, r2, r3, _, r5, r6⟩ | ⟨r1, r2⟩
 ·
  rw [List.drop_zero] at r1
  have r1' : sol_scale K E f cols 0 1 = some (some s) := r1
  rw [r1']
  simp only [Option.bind_some]
  have hdd : DD E p f s := fun j hj => r5 j (by omega) hj
  have hle : ∀ t, DD E p f t → s ∣ t := fun t ht => r6 t ⟨t, by simp⟩ fun j _ hj => ht j hj
  have hsD : cram E p → s ≤ (hb 8 : Int) := fun hcr => by
   obtain ⟨D, d1, d2, d3⟩ := hcr.pos
   have := Int.le_of_dvd d1 (hle D fun j hj => d3 j hj f)
   omega
  rw [show ((n : Int)).toNat = n by omega, show ((f : Int)).toNat = f by omega]
  rcases solfill_spec (f := f) hrow hcl hc hO.pn hf hpos (fun i j h1 h2 => hO.fn.inc h1 h2) r2 r3 hdd E.length 0 _ (by omega) (start_ok (n := n) (f := f) r2 r3) with ⟨o, q1, q2, q3, q4⟩ | ⟨q1, j, hj, m, w, q2, q3, q4, q5⟩
  ·
   rw [List.drop_zero] at q1
   have q1' : sol_fill E f s cols 0 ((List.replicate n 0).set f s) = some (some o) := q1
   rw [q1']
   simp only [Option.bind_some]
   have hol := q2.1
   have hk : KerV E p n f o := KerV.mk' q2 r2 hdd hle hfp (fun x hx => by rw [q3 x (fun j _ hj => hx j hj)]; exact start_vec hf s x) fun j hj => q4 j (by omega) hj
   rw [vprim_eq q2.2 (by omega) K (by omega)]
   rcases prim_spec q2 with ⟨h1, h2⟩ | ⟨v, h1, h2, h3, g, h4, h5, h6⟩
   ·
    right
    rw [h1]
    refine ⟨[], rfl, fun hcr => ?_⟩
    have hlm : least ∈ o := by
     apply Classical.byContradiction
     intro h
     unfold primG at h1
     rw [if_neg h] at h1
     simp at h1
    obtain ⟨x, _, hx⟩ := mem_vec hlm
    have hs8 := hsD hcr
    have h8 := hb8
    by_cases hxp : ∃ j, j < E.length ∧ p j = x
    ·
     obtain ⟨j, hj, rfl⟩ := hxp
     have h9 := q4 j (by omega) hj
     have h10 := hpos j hj
     have h11 := small_mul (a := rowsV E j f) (b := s) (hcr.1 j hj f) (by omega)
     rw [hx] at h9
     have h12 : (rowsV E j (p j) * least).natAbs = (rowsV E j (p j)).natAbs * 9223372036854775808 := by rw [Int.natAbs_mul]; rfl
     rw [h9, Int.natAbs_neg] at h12
     have h13 : 1 * 9223372036854775808 ≤ (rowsV E j (p j)).natAbs * 9223372036854775808 := Nat.mul_le_mul_right _ (by omega)
     omega
    ·
     rw [q3 x (fun j _ hj e => hxp ⟨j, hj, e⟩), start_vec hf] at hx
     unfold least at hx
     split at hx <;> omega
   ·
    left
    rw [h1]
    exact ⟨v, rfl, hk.prim h2 h4 h5 ▸ hk⟩
  ·
   rw [List.drop_zero] at q1
   have q1' : sol_fill E f s cols 0 ((List.replicate n 0).set f s) = some none := q1
   rw [q1']
   refine .inr ⟨[], rfl, fun hcr => q5 ?_⟩
   have hs8 := hsD hcr
   have h11 := small_mul (a := -m) (b := w) (by rw [Int.natAbs_neg]; exact Nat.le_trans q2 (hcr.1 j hj f)) (by omega)
   constructor <;> omega
 ·
  rw [List.drop_zero] at r1
  have r1' : sol_scale K E f cols 0 1 = some none := r1
  rw [r1']
  refine .inr ⟨[], rfl, fun hcr => ?_⟩
  obtain ⟨D, d1, d2, d3⟩ := hcr.pos
  have h1 := r2 D d1 ⟨D, by simp⟩ fun j _ hj => d3 j hj f
  have h8 := hb8
  omega
/-- The list of the kernel's vectors from column f on. -/
inductive KL (E : List (List Int)) (p : Nat → Nat) (n : Nat) : Nat → List (List Int) → Prop
 | done : KL E p n n []
 | skip {f : Nat} {l : List (List Int)} : f < n → (∃ j, j < E.length ∧ p j = f) → KL E p n (f + 1) l → KL E p n f l
 | take {f : Nat} {v : List Int} {l : List (List Int)} : f < n → (∀ j, j < E.length → p j ≠ f) → KerV E p n f v → KL E p n (f + 1) l → KL E p n f (v :: l)
theorem KL.uniq {E : List (List Int)} {p : Nat → Nat} {n : Nat} (hE : ∀ j, j < E.length → rowsV E j (p j) ≠ 0) {f : Nat} {l : List (List Int)} (h : KL E p n f l) : ∀ {l' : List (List Int)}, KL E p n f l' → l = l' := by
 induction h with
 | done => intro l' h'; cases h' with
  | done => rfl
  | skip h => omega
  | take h => omega
 | skip h1 h2 _ ih => intro l' h'; cases h' with
  | done => omega
  | skip _ _ h3 => exact ih h3
  | take _ h3 =>
   obtain ⟨j, hj, e⟩ := h2
   exact absurd e (h3 j hj)
 | take h1 h2 h3 _ ih => intro l' h'; cases h' with
  | done => omega
  | skip _ h4 =>
   obtain ⟨j, hj, e⟩ := h4
   exact absurd e (h2 j hj)
  | take _ _ h4 h5 => rw [h3.uniq h4 hE, ih h5]
theorem kern_spec {K n : Nat} {a E : List (List Int)} {cols : List Int} {p : Nat → Nat} (hK : 200 ≤ K) (hn : n ≤ 64) (hO : Outc a n E p) (hcl : cols.length = E.length) (hc : ∀ j : Nat, j < E.length → rd cols (j : Int) = (p j : Int)) : ∀ (d f nx : Nat) (out : List (List Int)), f + d = n → nx ≤ E.length → (∀ j, j < nx → p j < f) → (∀ j, nx ≤ j → j < E.length → f ≤ p j) →
  (∃ l, kern_go K E cols n d f nx out = some (out ++ l, 0) ∧ KL E p n f l) ∨ (kern_go K E cols n d f nx out = some ([], 3) ∧ ¬ cram E p) := by
 intro d
 induction d with
 | zero =>
  intro f nx out hf h1 h2 h3
  left
  have : f = n := by omega
  subst this
  exact ⟨[], by simp [kern_go], .done⟩
 | succ d ih =>
  intro f nx out hf h1 h2 h3
  rw [kern_go]
  by_cases hp : nx < cols.length ∧ rd cols (nx : Int) = (f : Int)
  ·
   rw [if_pos hp]
   have hpf : p nx = f := by have := hc nx (by omega); omega
   rcases ih (f + 1) (nx + 1) out (by omega) (by omega) (fun j hj => by
    by_cases e : j = nx
    ·
     rw [e]; omega
    ·
     have := h2 j (by omega); omega) (fun j h4 h5 => by
    have := hO.fn.inc (show nx < j by omega) h5
    omega) with ⟨l, r1, r2⟩ | h
   ·
    exact .inl ⟨l, r1, .skip (by omega) ⟨nx, by omega, hpf⟩ r2⟩
   ·
    exact .inr h
  ·
   rw [if_neg hp]
   have hfp : ∀ j, j < E.length → p j ≠ f := fun j hj e => by
    rcases Nat.lt_trichotomy j nx with h | h | h
    ·
     have := h2 j h; omega
    ·
     subst h
     exact hp ⟨by omega, by rw [hc j hj, e]⟩
    ·
     have h4 := hO.fn.inc h hj
     have h5 := h3 nx (by omega) (by omega)
     omega
   rcases sol_spec hK hn hO hcl hc (show f < n by omega) hfp with ⟨v, r1, r2⟩ | ⟨v, r1, r2⟩
   ·
    rw [r1]
    simp only [Option.bind_some, if_true]
    rcases ih (f + 1) nx (out ++ [v]) (by omega) h1 (fun j hj => by have := h2 j hj; omega) (fun j h4 h5 => by
     have := h3 j h4 h5
     have := hfp j h5
     omega) with ⟨l, q1, q2⟩ | h
    ·
     exact .inl ⟨v :: l, by rw [q1]; simp, .take (by omega) hfp r2 q2⟩
    ·
     exact .inr h
   ·
    rw [r1]
    simp only [Option.bind_some]
    rw [if_neg (by decide)]
    exact .inr ⟨rfl, r2⟩
theorem mkern_spec {K : Nat} {a : List (List Int)} (hK : 300 ≤ K) (hv : validB a = true) (ha : ∀ r ∈ a, ok64 r) :
  (∃ E cols p l, matrix_Kernel.f K a = some (l, 0) ∧ matrix_reduce.f K a = some ((E, cols), 0) ∧ Outc a (rd_L1 a 0).length E p ∧ cols.length = E.length ∧ KL E p (rd_L1 a 0).length 0 l) ∨ (matrix_Kernel.f K a = some ([], 3) ∧ ¬ tiny a a.length) := by
 obtain ⟨n, h1, h2, h3, h4, h5, h6⟩ := validB_iff.mp hv
 unfold matrix_Kernel.f
 rw [mvalid_eq a K (by omega), h6]
 simp only [Option.bind_some]
 rw [if_pos hv]
 rcases reduce_spec (K := K) (by omega) hv ha with ⟨E, cols, p, r1, r2, r3, r4, r5⟩ | ⟨r1, r2⟩
 ·
  rw [h6] at r2
  rw [r1]
  simp only [Option.bind_some, if_true]
  rcases kern_spec (K := K) (by omega) h4 r2 r3 r4 n 0 0 [] (by omega) (by omega) (fun j h => by omega) (fun j _ _ => by omega) with ⟨l, q1, q2⟩ | ⟨q1, q2⟩
  ·
   exact .inl ⟨E, cols, p, l, by rw [q1]; rfl, rfl, r2, r3, q2⟩
  ·
   exact .inr ⟨q1, fun ht => q2 (r5 ht)⟩
 ·
  rw [r1]
  simp only [Option.bind_some]
  rw [if_neg (by decide)]
  exact .inr ⟨rfl, r2⟩
end Go.Proofs.Ytckefohfahphpaa.Z
end
section
namespace Go.Proofs.Ytckefohfahphpaa.Z
open Go.RowKit Go.Proofs.YtckefohfahphpaaW.PrintWords Go.Proofs.YtckefohfahphpaaW.PrintLast Go.Proofs.YtckefohfahphpaaW.PrintMore
set_option linter.unusedVariables false
set_option linter.unusedSimpArgs false
/-! Uses Outc.same. -/
theorem KL.congr {E : List (List Int)} {p q : Nat → Nat} {n : Nat} (hpq : ∀ j, j < E.length → p j = q j) {f : Nat} {l : List (List Int)} (h : KL E q n f l) : KL E p n f l := by
 induction h with
 | done => exact .done
 | skip h1 h2 _ ih =>
  obtain ⟨j, hj, e⟩ := h2
  exact .skip h1 ⟨j, hj, by rw [hpq j hj, e]⟩ ih
 | take h1 h2 h3 _ ih =>
  refine .take h1 (fun j hj => by rw [hpq j hj]; exact h2 j hj) ?_ ih
  rename_i f' v' l' _
  have hd : ∀ t, DD E p f' t ↔ DD E q f' t := fun t => ⟨fun h j hj => by rw [← hpq j hj]; exact h j hj, fun h j hj => by rw [hpq j hj]; exact h j hj⟩
  exact ⟨h3.ok, h3.ps, (hd _).mpr h3.dd, fun t ht => h3.le t ((hd t).mp ht), fun j hj => by rw [hpq j hj]; exact h3.pv j hj, fun x hx hp => h3.zr x hx fun j hj => by rw [← hpq j hj]; exact hp j hj⟩
theorem KL.size {E : List (List Int)} {p : Nat → Nat} {n f : Nat} {l : List (List Int)} (h : KL E p n f l) : l.length + f ≤ n ∧ ∀ v ∈ l, ∃ g, g < n ∧ (∀ j, j < E.length → p j ≠ g) ∧ KerV E p n g v := by
 induction h with
 | done => exact ⟨by simp, fun v hv => by simp at hv⟩
 | skip h1 _ _ ih => exact ⟨by have := ih.1; omega, ih.2⟩
 | take h1 h2 h3 _ ih =>
  refine ⟨by have := ih.1; simp; omega, fun v hv => ?_⟩
  rcases List.mem_cons.mp hv with rfl | hv
  ·
   exact ⟨_, h1, h2, h3⟩
  ·
   exact ih.2 v hv
theorem KL.same {a E F : List (List Int)} {p q : Nat → Nat} {n : Nat} (hE : Outc a n E p) (hF : Outc a n F q) {l l' : List (List Int)} (h : KL E p n 0 l) (h' : KL F q n 0 l') : l = l' := by
 have e := hE.same hF
 subst e
 obtain ⟨_, h2⟩ := hE.fn.uniq hF.fn (fun v hv => .mem hv) (fun v hv => .mem hv)
 exact h.uniq (fun j hj => by have := (hE.fn.pr j hj).2; omega) (h'.congr fun j hj => (h2 j hj).1)
end Go.Proofs.Ytckefohfahphpaa.Z
end
section
namespace Go.Proofs.Ytckefohfahphpaa.Z
open Go.RowKit Go.Proofs.YtckefohfahphpaaW.PrintWords Go.Proofs.YtckefohfahphpaaW.PrintLast Go.Proofs.YtckefohfahphpaaW.PrintMore
set_option linter.unusedVariables false
set_option linter.unusedSimpArgs false
theorem Sp.split {b : Vc} {B : List Vc} {v : Vc} (h : Sp (b :: B) v) : ∃ d c : Int, d ≠ 0 ∧ Sp B fun x => d * v x - c * b x := by
 induction h with
 | mem ha =>
  rcases List.mem_cons.mp ha with rfl | ha
  ·
   exact ⟨1, 1, by decide, Sp.zero.eq fun x => by simp⟩
  ·
   exact ⟨1, 0, by decide, (Sp.mem ha).eq fun x => by simp⟩
 | zero => exact ⟨1, 0, by decide, Sp.zero.eq fun x => by simp⟩
 | comb c1 c2 _ _ i j =>
  obtain ⟨du, cu, hu, iu⟩ := i
  obtain ⟨dv, cv, hv, iv⟩ := j
  exact ⟨du * dv, c1 * dv * cu + c2 * du * cv, Int.mul_ne_zero hu hv, (Sp.comb (c1 * dv) (c2 * du) iu iv).eq fun x => by grind⟩
 | div c hc _ i =>
  obtain ⟨d, c0, hd, i⟩ := i
  exact ⟨d * c, c0, Int.mul_ne_zero hd hc, i.eq fun x => by grind⟩
/-- As many rows with pivots as there are spanning vectors, and no more. -/
theorem stein : ∀ (B : List Vc) (k : Nat) (T : Nat → Vc) (q : Nat → Nat), (∀ i, i < k → T i (q i) ≠ 0) → (∀ i, i < k → ∀ j, j < k → i ≠ j → T i (q j) = 0) → (∀ i, i < k → Sp B (T i)) → k ≤ B.length := by
 intro B
 induction B with
 | nil =>
  intro k T q h1 _ h3
  apply Classical.byContradiction
  intro hk
  exact h1 0 (by simp at hk; omega) ((h3 0 (by simp at hk; omega)).at fun a ha => by simp at ha)
 | cons b B ih =>
  intro k T q h1 h2 h3
  have hex : ∀ i, ∃ z : Int × Int, i < k → z.1 ≠ 0 ∧ Sp B fun x => z.1 * T i x - z.2 * b x := fun i => by
   by_cases hi : i < k
   ·
    obtain ⟨d, c, hd, hs⟩ := (h3 i hi).split
    exact ⟨(d, c), fun _ => ⟨hd, hs⟩⟩
   ·
    exact ⟨(0, 0), fun h => absurd h hi⟩
  obtain ⟨z, hz⟩ := Classical.axiomOfChoice hex
  by_cases hall : ∀ i, i < k → (z i).2 = 0
  ·
   have := ih k T q h1 h2 fun i hi => by
    have h4 := (hz i hi).2
    rw [hall i hi] at h4
    exact Sp.div _ (hz i hi).1 (h4.eq fun x => by simp)
   simp
   omega
  ·
   have hex0 : ∃ i0, i0 < k ∧ (z i0).2 ≠ 0 := by
    apply Classical.byContradiction
    intro hno
    exact hall fun i hi => Classical.byContradiction fun h => hno ⟨i, hi, h⟩
   obtain ⟨i0, hi0, hc0⟩ := hex0
   obtain ⟨s, hs⟩ : ∃ s : Nat → Nat, ∀ i, s i = if i < i0 then i else i + 1 := ⟨_, fun _ => rfl⟩
   have hsk : ∀ i, i < k - 1 → s i < k := fun i hi => by rw [hs]; split <;> omega
   have hs0 : ∀ i, s i ≠ i0 := fun i => by rw [hs]; split <;> omega
   have hsi : ∀ i j, i ≠ j → s i ≠ s j := fun i j hij => by rw [hs, hs]; split <;> split <;> omega
   have := ih (k - 1) (fun i x => (z i0).2 * (z (s i)).1 * T (s i) x + (-((z (s i)).2 * (z i0).1)) * T i0 x) (fun i => q (s i)) (fun i hi => ?_) (fun i hi j hj hij => ?_) fun i hi => ?_
   ·
    simp
    omega
   ·
    rw [h2 i0 hi0 _ (hsk i hi) (fun e => hs0 i e.symm)]
    simp only [Int.mul_zero, Int.add_zero]
    exact Int.mul_ne_zero (Int.mul_ne_zero hc0 (hz _ (hsk i hi)).1) (h1 _ (hsk i hi))
   ·
    rw [h2 i0 hi0 _ (hsk j hj) (fun e => hs0 j e.symm), h2 _ (hsk i hi) _ (hsk j hj) (hsi i j hij)]
    simp
   ·
    exact (Sp.comb (z i0).2 (-(z (s i)).2) (hz _ (hsk i hi)).2 (hz i0 hi0).2).eq fun x => by grind
/-- Every column is spanned by the pivots' columns. -/
theorem colspan : ∀ (E : List (Nat × Vc)), (∀ e ∈ E, e.2 e.1 ≠ 0) → ∀ (V : Nat → Vc) (x : Nat), ∃ d : Int, d ≠ 0 ∧ Sp (E.map fun e i => V i e.1) fun i => d * V i x - res E (V i) x := by
 intro E
 induction E with
 | nil => intro _ V x; exact ⟨1, by decide, Sp.zero.eq fun i => by simp [res]⟩
 | cons e E ih =>
  intro hE V x
  obtain ⟨d, hd, h⟩ := ih (fun f hf => hE f (List.mem_cons_of_mem _ hf)) (fun i y => e.2 e.1 * V i y - V i e.1 * e.2 y) x
  have hP := hE e List.mem_cons_self
  have h0 : Sp ((e :: E).map fun e i => V i e.1) fun i => V i e.1 := .mem (by simp)
  refine ⟨d * e.2 e.1, Int.mul_ne_zero hd hP, ?_⟩
  have h' : Sp ((e :: E).map fun e i => V i e.1) fun i => d * (e.2 e.1 * V i x - V i e.1 * e.2 x) - res E (fun y => e.2 e.1 * V i y - V i e.1 * e.2 y) x := h.sub fun a ha => by
   obtain ⟨f, hf, rfl⟩ := List.mem_map.mp ha
   have h1 : Sp ((e :: E).map fun e i => V i e.1) fun i => V i f.1 := .mem (List.mem_map.mpr ⟨f, List.mem_cons_of_mem _ hf, rfl⟩)
   exact (Sp.comb (e.2 e.1) (-e.2 f.1) h1 h0).eq fun i => by grind
  exact (Sp.comb 1 (d * e.2 x) h' h0).eq fun i => by simp only [res]; grind
theorem Fnl.transpose {A A' : List Vc} {T T' : Nat → Vc} {k k' : Nat} {p p' : Nat → Nat} {V : Nat → Vc} (h : Fnl A T k p) (h' : Fnl A' T' k' p') (hV : ∀ i, Sp A (V i)) (hA' : ∀ v ∈ A', ∃ x, v = fun i => V i x) : k' ≤ k := by
 have hcol : ∀ x, Sp ((pairs T p k).map fun e i => V i e.1) fun i => V i x := fun x => by
  obtain ⟨d, hd, hs⟩ := colspan (pairs T p k) h.red.piv.nz V x
  refine Sp.div d hd (hs.eq fun i => ?_)
  rw [res_span h.red.piv.zr (by rw [rowsOf_pairs]; exact (hV i).sub h.dn) x]
  simp
 have := stein ((pairs T p k).map fun e i => V i e.1) k' T' p' (fun i hi => by have := (h'.pr i hi).2; omega) (fun i hi j hj hij => ?_) fun i hi => (h'.up i hi).sub fun v hv => by
  obtain ⟨x, rfl⟩ := hA' v hv
  exact hcol x
 ·
  simpa [pairs] using this
 ·
  have hp : p' i ≠ p' j := by
   rcases Nat.lt_or_gt_of_ne hij with e | e
   ·
    have := List.pairwise_iff_getElem.mp h'.red.inc i j (by simp [pairs]; omega) (by simp [pairs]; omega) e
    simp [pairs] at this
    omega
   ·
    have := List.pairwise_iff_getElem.mp h'.red.inc j i (by simp [pairs]; omega) (by simp [pairs]; omega) e
    simp [pairs] at this
    omega
  exact pw_apart h'.red.piv.zr (e := (p' i, T' i)) (f := (p' j, T' j)) (mem_pairs.mpr ⟨i, hi, rfl⟩) (mem_pairs.mpr ⟨j, hj, rfl⟩) hp
/-- Sums over columns. -/
def sm : Nat → (Nat → Int) → Int
 | 0, _ => 0
 | n + 1, g => g 0 + sm n fun x => g (x + 1)
theorem sm_zero : ∀ (n : Nat) (g : Nat → Int), (∀ x, x < n → g x = 0) → sm n g = 0
 | 0, _, _ => rfl
 | n + 1, g, h => by rw [sm, h 0 (by omega), sm_zero n _ fun x hx => h (x + 1) (by omega)]; rfl
theorem sm_comb : ∀ (n : Nat) (c d : Int) (g h : Nat → Int), sm n (fun x => c * g x + d * h x) = c * sm n g + d * sm n h
 | 0, _, _, _, _ => by simp [sm]
 | n + 1, c, d, g, h => by rw [sm, sm_comb n c d (fun x => g (x + 1)) fun x => h (x + 1), sm, sm]; grind
theorem sm_one : ∀ (n : Nat) (g : Nat → Int) (f : Nat), f < n → (∀ x, x < n → x ≠ f → g x = 0) → sm n g = g f
 | 0, _, _, h, _ => by omega
 | n + 1, g, 0, _, h => by rw [sm, sm_zero n _ fun x hx => h (x + 1) (by omega) (by omega)]; simp
 | n + 1, g, f + 1, hf, h => by
  rw [sm, h 0 (by omega) (by omega), sm_one n (fun x => g (x + 1)) f (by omega) fun x hx hxf => h (x + 1) (by omega) (by omega)]
  simp
theorem sm_two {n : Nat} {g : Nat → Int} {f p : Nat} (hf : f < n) (hp : p < n) (hfp : f ≠ p) (h : ∀ x, x < n → x ≠ f → x ≠ p → g x = 0) : sm n g = g f + g p := by
 have e : g = fun x => 1 * (if x = f then g f else 0) + 1 * (if x = f then 0 else g x) := by
  funext x
  by_cases hx : x = f
  ·
   rw [if_pos hx, if_pos hx, hx]; simp
  ·
   rw [if_neg hx, if_neg hx]; simp
 have h1 := sm_one n (fun x => if x = f then g f else 0) f hf fun x _ hxf => if_neg hxf
 have h2 := sm_one n (fun x => if x = f then 0 else g x) p hp fun x hx hxp => by
  by_cases hxf : x = f
  ·
   exact if_pos hxf
  ·
   rw [if_neg hxf]; exact h x hx hxf hxp
 rw [e, sm_comb, h1, h2, if_pos rfl, if_neg (fun e => hfp e.symm)]
 grind
end Go.Proofs.Ytckefohfahphpaa.Z
end
section
namespace Go.Proofs.Ytckefohfahphpaa.Z
open Go.RowKit Go.Proofs.YtckefohfahphpaaW.PrintWords Go.Proofs.YtckefohfahphpaaW.PrintLast Go.Proofs.YtckefohfahphpaaW.PrintMore
set_option linter.unusedVariables false
set_option linter.unusedSimpArgs false
/-! Uses Outc.len, Fnl.inc, KL.size, KerV.ok, Fnl.transpose, Fnl.uniq. -/
theorem dotG_cases : ∀ (n : Nat) (a b : List Int) (s : Int), a.length = n → b.length = n → (dotG a b s = (0, 3) ∨ dotG a b s = (s + sm n (fun x => vec a x * vec b x), 0))
 | 0, a, b, s, ha, hb => by
  obtain rfl : a = [] := List.length_eq_zero_iff.mp ha
  obtain rfl : b = [] := List.length_eq_zero_iff.mp hb
  right
  simp [dotG, sm]
 | n + 1, a, b, s, ha, hb => by
  obtain ⟨x, a, rfl⟩ := List.exists_cons_of_length_eq_add_one ha
  obtain ⟨y, b, rfl⟩ := List.exists_cons_of_length_eq_add_one hb
  rw [dotG]
  by_cases h1 : in64 (x * y)
  ·
   rw [if_pos h1]
   by_cases h2 : in64 (s + x * y)
   ·
    rw [if_pos h2]
    rcases dotG_cases n a b (s + x * y) (by simpa using ha) (by simpa using hb) with h | h
    ·
     exact .inl h
    ·
     right
     rw [h, sm, vec_cons0, vec_cons0]
     simp only [vec_consS]
     rw [Int.add_assoc]
   ·
    rw [if_neg h2]; exact .inl rfl
  ·
   rw [if_neg h1]; exact .inl rfl
theorem sm_span {A : List Vc} {n : Nat} {K : Nat → Int} (h : ∀ a ∈ A, sm n (fun x => a x * K x) = 0) {v : Vc} (hv : Sp A v) : sm n (fun x => v x * K x) = 0 := by
 induction hv with
 | mem ha => exact h _ ha
 | zero => exact sm_zero n _ fun x _ => by simp
 | @comb u w c d _ _ i j =>
  have := sm_comb n c d (fun x => u x * K x) (fun x => w x * K x)
  rw [i, j] at this
  simp only [Int.mul_zero, Int.add_zero] at this
  rw [← this]
  congr 1
  funext x
  grind
 | @div u c hc _ i =>
  have := sm_comb n c 0 (fun x => u x * K x) (fun _ => 0)
  have e : (fun x => c * (u x * K x) + 0 * (fun _ => (0 : Int)) x) = fun x => c * u x * K x := by funext x; simp [Int.mul_assoc]
  rw [e, i] at this
  simp only [Int.zero_mul, Int.add_zero] at this
  exact (Int.mul_eq_zero.mp this.symm).resolve_left hc
theorem ker_dot {a E : List (List Int)} {p : Nat → Nat} {n f : Nat} {K : List Int} (hO : Outc a n E p) (hf : f < n) (hfp : ∀ j, j < E.length → p j ≠ f) (hK : KerV E p n f K) {v : Vc} (hv : v ∈ spanL a) : sm n (fun x => v x * vec K x) = 0 := by
 refine sm_span (fun r hr => ?_) (hO.fn.dn v hv)
 obtain ⟨j, hj, rfl⟩ := mem_vs.mp hr
 rw [sm_two hf (hO.pn j hj) (fun e => hfp j hj e.symm) fun x hx hxf hxp => ?_]
 ·
  have := hK.pv j hj
  omega
 ·
  by_cases h : ∃ i, i < E.length ∧ p i = x
  ·
   obtain ⟨i, hi, rfl⟩ := h
   have h1 := pw_apart hO.fn.red.piv.zr (e := (p j, rowsV E j)) (f := (p i, rowsV E i)) (mem_pairs.mpr ⟨j, hj, rfl⟩) (mem_pairs.mpr ⟨i, hi, rfl⟩) (fun e => hxp e.symm)
   dsimp only at h1
   rw [h1]
   simp
  ·
   rw [hK.zr x hxf fun i hi e => h ⟨i, hi, e⟩]
   simp
theorem KL.count {a E : List (List Int)} {p : Nat → Nat} {n : Nat} (hO : Outc a n E p) {f : Nat} {l : List (List Int)} (h : KL E p n f l) : ∀ nx, nx ≤ E.length → (∀ j, j < nx → p j < f) → (∀ j, nx ≤ j → j < E.length → f ≤ p j) → l.length + E.length + f = n + nx := by
 induction h with
 | done =>
  intro nx h1 h2 h3
  have : nx = E.length := by
   apply Classical.byContradiction
   intro hne
   have h4 := h3 nx (Nat.le_refl _) (by omega)
   have h5 := hO.pn nx (by omega)
   omega
  simp
  omega
 | @skip f l hf hp _ ih =>
  intro nx h1 h2 h3
  obtain ⟨j, hj, e⟩ := hp
  have hjn : j = nx := by
   rcases Nat.lt_trichotomy j nx with h | h | h
   ·
    have := h2 j h; omega
   ·
    exact h
   ·
    have h4 := hO.fn.inc h hj
    have h5 := h3 nx (Nat.le_refl _) (by omega)
    omega
  subst hjn
  have := ih (j + 1) (by omega) (fun i hi => by
   by_cases e' : i = j
   ·
    rw [e']; omega
   ·
    have := h2 i (by omega); omega) (fun i h4 h5 => by
   have := hO.fn.inc (show j < i by omega) h5
   omega)
  omega
 | @take f v l hf hp _ _ ih =>
  intro nx h1 h2 h3
  have := ih nx h1 (fun i hi => by have := h2 i hi; omega) (fun i h4 h5 => by
   have h6 := h3 i h4 h5
   have h7 := hp i h5
   omega)
  simp
  omega
theorem Outc.again {a b E F : List (List Int)} {n : Nat} {p q : Nat → Nat} (hE : Outc a n E p) (hF : Outc b n F q) (h1 : ∀ v ∈ spanL a, Sp (spanL b) v) (h2 : ∀ v ∈ spanL b, Sp (spanL a) v) : E = F := by
 obtain ⟨h1, h2⟩ := hE.fn.uniq hF.fn h1 h2
 apply List.ext_getElem h1
 intro i hi hi'
 have h3 := (h2 i hi).2
 have e1 : rd_L1 E (i : Int) = E[i] := by simp [rd_L1, List.getD_eq_getElem?_getD, hi]
 have e2 : rd_L1 F (i : Int) = F[i] := by simp [rd_L1, List.getD_eq_getElem?_getD, hi']
 unfold rowsV at h3
 rw [e1, e2] at h3
 exact vec_ext (by rw [(hE.ok _ (List.getElem_mem hi)).1, (hF.ok _ (List.getElem_mem hi')).1]) h3
theorem Outc.idem {a E F : List (List Int)} {n : Nat} {p q : Nat → Nat} (hE : Outc a n E p) (hF : Outc E n F q) : E = F :=
 hE.again hF hE.fn.dn fun v hv => by
  obtain ⟨i, hi, rfl⟩ := mem_vs.mp hv
  exact hE.fn.up i hi
theorem validB_mk {a : List (List Int)} {n : Nat} (h1 : 1 ≤ a.length) (h2 : a.length ≤ 64) (h3 : 1 ≤ n) (h4 : n ≤ 64) (h5 : ∀ r ∈ a, r.length = n) : validB a = true ∧ (rd_L1 a 0).length = n := by
 have h0 : (rd_L1 a 0).length = n := h5 _ (rdL_mem (by omega) (by omega))
 exact ⟨validB_iff.mpr ⟨n, h1, h2, h3, h4, h5, h0⟩, h0⟩
theorem trans_row {a : List (List Int)} {n x : Nat} (hn : (rd_L1 a 0).length = n) (hx : x < n) : rd_L1 (transM a) (x : Int) = colM a (x : Int) := by
 unfold transM
 rw [hn]
 simp [rd_L1, List.getD_eq_getElem?_getD, hx]
theorem colM_vec (a : List (List Int)) (x i : Nat) : vec (colM a (x : Int)) i = rowsV a i x := by
 unfold colM rowsV
 by_cases hi : i < a.length
 ·
  rw [vec_get (by simpa using hi)]
  simp only [List.getElem_map]
  rw [show rd_L1 a (i : Int) = a[i] by simp [rd_L1, List.getD_eq_getElem?_getD, hi]]
  rfl
 ·
  rw [vec_out (by simp; omega), rdL_out (by omega)]
  rfl
theorem trans_valid {a : List (List Int)} (hv : validB a = true) (ha : ∀ r ∈ a, ok64 r) : validB (transM a) = true ∧ (∀ r ∈ transM a, ok64 r) ∧ (rd_L1 (transM a) 0).length = a.length := by
 obtain ⟨n, h1, h2, h3, h4, h5, h6⟩ := validB_iff.mp hv
 have hl : (transM a).length = n := by unfold transM; simp; omega
 have hr : ∀ r ∈ transM a, r.length = a.length := fun r hr => by
  unfold transM at hr
  obtain ⟨k, _, rfl⟩ := List.mem_map.mp hr
  simp [colM]
 obtain ⟨v1, v2⟩ := validB_mk (a := transM a) (n := a.length) (by omega) (by omega) h1 h2 hr
 refine ⟨v1, fun r hr' y hy => ?_, v2⟩
 unfold transM at hr'
 obtain ⟨k, _, rfl⟩ := List.mem_map.mp hr'
 unfold colM at hy
 obtain ⟨z, hz, rfl⟩ := List.mem_map.mp hy
 rw [rd_vec]
 by_cases hk : k < z.length
 ·
  exact ha z hz _ (vec_mem hk)
 ·
  rw [vec_out (by omega)]; constructor <;> omega
theorem trans_rank {a E F : List (List Int)} {p q : Nat → Nat} (hv : validB a = true) (hE : Outc a (rd_L1 a 0).length E p) (hF : Outc (transM a) a.length F q) : E.length = F.length := by
 obtain ⟨n, h1, h2, h3, h4, h5, h6⟩ := validB_iff.mp hv
 have hl : (transM a).length = n := by unfold transM; simp; omega
 have hrow : ∀ x, x < n → rowsV (transM a) x = fun i => rowsV a i x := fun x hx => by
  funext i
  unfold rowsV
  rw [trans_row h6 hx]
  exact colM_vec a x i
 have hzero : ∀ i, a.length ≤ i → ∀ x, rowsV a i x = 0 := fun i hi x => by unfold rowsV; rw [rdL_out hi]; rfl
 have hout : ∀ i x, n ≤ x → rowsV a i x = 0 := fun i x hx => by
  by_cases hi : i < a.length
  ·
   unfold rowsV
   exact vec_out (by rw [h5 _ (rdL_mem (by omega) (by omega))]; exact hx)
  ·
   exact hzero i (by omega) x
 apply Nat.le_antisymm
 ·
  refine hF.fn.transpose hE.fn (V := fun x i => rowsV a i x) (fun x => ?_) fun v hv => ?_
  ·
   by_cases hx : x < n
   ·
    exact (Sp.mem (vs_of (show x < (transM a).length by omega))).eq fun i => by rw [hrow x hx]
   ·
    exact Sp.zero.eq fun i => (hout i x (by omega)).symm
  ·
   obtain ⟨i, hi, rfl⟩ := mem_vs.mp hv
   exact ⟨i, rfl⟩
 ·
  refine hE.fn.transpose hF.fn (V := rowsV a) (fun i => ?_) fun v hv => ?_
  ·
   by_cases hi : i < a.length
   ·
    exact .mem (vs_of hi)
   ·
    exact Sp.zero.eq fun x => (hzero i (by omega) x).symm
  ·
   obtain ⟨x, hx, rfl⟩ := mem_vs.mp hv
   exact ⟨x, hrow x (by omega)⟩
end Go.Proofs.Ytckefohfahphpaa.Z
end
section
namespace Go.Proofs.Ytckefohfahphpaa.Z
open Go.RowKit Go.Proofs.YtckefohfahphpaaW.PrintWords Go.Proofs.YtckefohfahphpaaW.PrintLast Go.Proofs.YtckefohfahphpaaW.PrintMore
attribute [local go_sem] max2_int min2_int max_two min_two max_three min_three max_four min_four   -- for this text's walks alone
set_option linter.unusedVariables false
set_option linter.unusedSimpArgs false

/-! ### petrinetref08_times: function 32 -/
mutual
def petrinetref08_times.j0 : Nat → Int → Int → Bool → Option (Int × Bool)
 | 0, _, _, _ => none
 | k + 1, x0, x1, x12 => if x12 = true then (some (0, true)) else (if x0 = (-1) then (petrinetref08_times.j1 k x0 x1 true) else (petrinetref08_times.j1 k x0 x1 (x1 == (-1))))
def petrinetref08_times.j1 : Nat → Int → Int → Bool → Option (Int × Bool)
 | 0, _, _, _ => none
 | k + 1, x0, x1, x18 => if x18 = true then (if x0 = (-9223372036854775808) then (some (0, false)) else (if x1 = (-9223372036854775808) then (some (0, false)) else (some (wrap64 (x0 * x1), true)))) else (if x1 = 0 then (none) else (some (wrap64 (x0 * x1), ((wrap64 (Int.tdiv (wrap64 (x0 * x1)) x1)) == x0))))
end
def petrinetref08_times.f (k : Nat) (a0 : Int) (a1 : Int) : Option (Int × Bool) := if a0 = 0 then (petrinetref08_times.j0 k a0 a1 true) else (petrinetref08_times.j0 k a0 a1 (a1 == 0))
theorem petrinetref08_times.mono_l : ∀ k, (∀ y0 y1 y2, LeO (petrinetref08_times.j0 k y0 y1 y2) (petrinetref08_times.j0 (k + 1) y0 y1 y2)) ∧ (∀ y0 y1 y2, LeO (petrinetref08_times.j1 k y0 y1 y2) (petrinetref08_times.j1 (k + 1) y0 y1 y2))
 | 0 => ⟨fun _ _ _ r h => by simp [petrinetref08_times.j0] at h, fun _ _ _ r h => by simp [petrinetref08_times.j1] at h⟩
 | k + 1 => by
  obtain ⟨ih0, ih1⟩ := petrinetref08_times.mono_l k
  refine ⟨?_, ?_⟩
  ·
   intro y0 y1 y2
   unfold petrinetref08_times.j0
   repeat' first
   | (with_reducible exact ih0 _ _ _)
   | (with_reducible exact ih1 _ _ _)
   | (with_reducible exact LeO.refl _)
   | (with_reducible exact LeO.none _)
   | (with_reducible refine LeO.ite ?_ ?_)
   | (with_reducible refine LeO.bind ?_ (fun _ => ?_))
   | exact ih0 _ _ _
   | exact ih1 _ _ _
   | exact LeO.none _
   | refine LeO.ite ?_ ?_
   | refine LeO.bind ?_ (fun _ => ?_)
  ·
   intro y0 y1 y2
   unfold petrinetref08_times.j1
   repeat' first
   | (with_reducible exact ih0 _ _ _)
   | (with_reducible exact ih1 _ _ _)
   | (with_reducible exact LeO.refl _)
   | (with_reducible exact LeO.none _)
   | (with_reducible refine LeO.ite ?_ ?_)
   | (with_reducible refine LeO.bind ?_ (fun _ => ?_))
   | exact ih0 _ _ _
   | exact ih1 _ _ _
   | exact LeO.none _
   | refine LeO.ite ?_ ?_
   | refine LeO.bind ?_ (fun _ => ?_)
theorem petrinetref08_times.mono : ∀ a0 a1 k, LeO (petrinetref08_times.f k a0 a1) (petrinetref08_times.f (k + 1) a0 a1) := by
 intro a0 a1 k
 obtain ⟨ih0, ih1⟩ := petrinetref08_times.mono_l k
 unfold petrinetref08_times.f
 repeat' first
   | (with_reducible exact ih0 _ _ _)
   | (with_reducible exact ih1 _ _ _)
   | (with_reducible exact LeO.refl _)
   | (with_reducible exact LeO.none _)
   | (with_reducible refine LeO.ite ?_ ?_)
   | (with_reducible refine LeO.bind ?_ (fun _ => ?_))
   | exact ih0 _ _ _
   | exact ih1 _ _ _
   | exact LeO.none _
   | refine LeO.ite ?_ ?_
   | refine LeO.bind ?_ (fun _ => ?_)
set_option maxHeartbeats 8000000 in
set_option maxRecDepth 100000 in
theorem petrinetref08_times.calls (k : Nat) (a0 : Int) (a1 : Int) (r1 : Int) (r2 : Bool) (w : World) (h : petrinetref08_times.f k a0 a1 = some (r1, r2)) :
  Calls Try.prog 32 #[.int .i64 a0, .int .i64 a1] w fun e w' => e = .returned (.tuple #[.int .i64 r1, .bool r2]) ∧ Drawn0 w w' := by
 have H : (if a0 = 0 then (petrinetref08_times.j0 k a0 a1 true) else (petrinetref08_times.j0 k a0 a1 (a1 == 0))) = some (r1, r2) := h
 clear h
 have HC3 := Aside0.mk H
 clear H
 go_enter Try.func32, Try.ntmps32
 go_upto_region 1 with (fail)
 repeat (go_quiet (fail); go_upto_region 1 with (fail))
 go_cut [12] (fun v12 wc => ∃ (kq : Nat) (x12_2 : Bool), v12 = .bool x12_2 ∧ Aside0 (petrinetref08_times.j0 kq a0 a1 x12_2 = some (r1, r2)) ∧ Aside0 (kq ≤ k) ∧ Drawn0 w wc)
 case first =>
  have H := HC3.out
  clear HC3
  by_cases c4 : a0 = 0
  ·
   rw [if_pos c4] at H
   have c4b0 : (a0 == 0) = true := beq_iff_eq.mpr c4
   have c4b1 : (a0 != 0) = false := bne_eq_false_iff_eq.mpr c4
   clear c4
   (first | rw [c4b0] | (simp only [i64_w, i32_w]; rw [c4b0]) | skip)
   have H' := Aside0.mk H
   clear H
   go_wp2
   repeat (go_quiet (fail); try go_wp2)
   go_meet
   case rel => exact ⟨_, (true), (by first | rfl | (simp; done) | (simp [*]; done)), H', ⟨by first | omega | exact Nat.le_refl _⟩, by repeat (first | exact Drawn0.refl _ | apply Drawn0.step)⟩
  ·
   rw [if_neg c4] at H
   have c4b0 : (a0 == 0) = false := beq_eq_false_iff_ne.mpr c4
   have c4b1 : (a0 != 0) = true := bne_iff_ne.mpr c4
   (first | rw [c4b0] | (simp only [i64_w, i32_w]; rw [c4b0]) | skip)
   have H' := Aside0.mk H
   clear H
   go_wp2
   repeat (go_quiet (fail); try go_wp2)
   go_meet
   case rel => exact ⟨_, ((a1 == 0)), (by first | rfl | (simp; done) | (simp [*]; done)), H', ⟨by first | omega | exact Nat.le_refl _⟩, by repeat (first | exact Drawn0.refl _ | apply Drawn0.step)⟩
 case rest =>
  clear HC3
  try clear p2
  try clear c3
  try clear c4
  try clear c4b0
  try clear c4b1
  obtain ⟨kq, x12_2, rfl, HA, HJ2, ⟨mc2, rfl⟩⟩ := hcut
  cases kq with
  | zero => exact absurd HA.out (by simp [petrinetref08_times.j0])
  | succ kj2 =>
   have H := HA.out
   clear HA
   simp only [petrinetref08_times.j0] at H
   by_cases c5 : x12_2 = true
   ·
    subst c5
    have H1 : (some (0, true)) = some (r1, r2) := by rw [if_pos rfl] at H; exact H
    clear H
    have H := H1
    clear H1
    simp only [Option.some.injEq, Prod.mk.injEq] at H
    obtain ⟨rfl, rfl⟩ := H
    go_wp2
    repeat (go_quiet (fail); try go_wp2)
    go_ret2
    exact ⟨by first | rfl | (simp; done) | (simp [*]; done), by repeat (first | exact Drawn0.refl _ | apply Drawn0.step)⟩
   ·
    replace c5 := Bool.eq_false_iff.mpr c5
    subst c5
    have H1 : (if a0 = (-1) then (petrinetref08_times.j1 kj2 a0 a1 true) else (petrinetref08_times.j1 kj2 a0 a1 (a1 == (-1)))) = some (r1, r2) := by rw [if_neg (show ¬ (false = true) by decide)] at H; exact H
    clear H
    have H := H1
    clear H1
    have HC6 := Aside0.mk H
    clear H
    go_upto_region 3 with (fail)
    repeat (go_quiet (fail); go_upto_region 3 with (fail))
    go_cut [18] (fun v18 wc => ∃ (kq : Nat) (x18_5 : Bool), v18 = .bool x18_5 ∧ Aside0 (petrinetref08_times.j1 kq a0 a1 x18_5 = some (r1, r2)) ∧ Aside0 (kq ≤ kj2) ∧ Drawn0 w wc)
    case first =>
     have H := HC6.out
     clear HC6
     by_cases c7 : a0 = (-1)
     ·
      rw [if_pos c7] at H
      have c7b0 : (a0 == (-1)) = true := beq_iff_eq.mpr c7
      have c7b1 : (a0 != (-1)) = false := bne_eq_false_iff_eq.mpr c7
      clear c7
      (first | rw [c7b0] | (simp only [i64_w, i32_w]; rw [c7b0]) | skip)
      have H' := Aside0.mk H
      clear H
      go_wp2
      repeat (go_quiet (fail); try go_wp2)
      go_meet
      case rel => exact ⟨_, (true), (by first | rfl | (simp; done) | (simp [*]; done)), H', ⟨by have := HJ2.out; first | omega | exact Nat.le_refl _⟩, by repeat (first | exact Drawn0.refl _ | apply Drawn0.step)⟩
     ·
      rw [if_neg c7] at H
      have c7b0 : (a0 == (-1)) = false := beq_eq_false_iff_ne.mpr c7
      have c7b1 : (a0 != (-1)) = true := bne_iff_ne.mpr c7
      (first | rw [c7b0] | (simp only [i64_w, i32_w]; rw [c7b0]) | skip)
      have H' := Aside0.mk H
      clear H
      go_wp2
      repeat (go_quiet (fail); try go_wp2)
      go_meet
      case rel => exact ⟨_, ((a1 == (-1))), (by first | rfl | (simp; done) | (simp [*]; done)), H', ⟨by have := HJ2.out; first | omega | exact Nat.le_refl _⟩, by repeat (first | exact Drawn0.refl _ | apply Drawn0.step)⟩
    case rest =>
     clear HC6
     try clear c2
     try clear p2
     try clear c3
     try clear c4
     try clear c4b0
     try clear c4b1
     try clear c5
     try clear c7
     try clear c7b0
     try clear c7b1
     try clear p2
     obtain ⟨kq, x18_5, rfl, HA, HJ5, ⟨mc5, rfl⟩⟩ := hcut
     cases kq with
     | zero => exact absurd HA.out (by simp [petrinetref08_times.j1])
     | succ kj5 =>
      have H := HA.out
      clear HA
      simp only [petrinetref08_times.j1] at H
      by_cases c8 : x18_5 = true
      ·
       subst c8
       have H1 : (if a0 = (-9223372036854775808) then (some (0, false)) else (if a1 = (-9223372036854775808) then (some (0, false)) else (some (wrap64 (a0 * a1), true)))) = some (r1, r2) := by rw [if_pos rfl] at H; exact H
       clear H
       have H := H1
       clear H1
       by_cases c9 : a0 = (-9223372036854775808)
       ·
        rw [if_pos c9] at H
        have c9b0 : (a0 == (-9223372036854775808)) = true := beq_iff_eq.mpr c9
        have c9b1 : (a0 != (-9223372036854775808)) = false := bne_eq_false_iff_eq.mpr c9
        clear c9
        simp only [Option.some.injEq, Prod.mk.injEq] at H
        obtain ⟨rfl, rfl⟩ := H
        go_wp2
        repeat (go_quiet (fail); try go_wp2)
        go_ret2
        exact ⟨by first | rfl | (simp; done) | (simp [*]; done), by repeat (first | exact Drawn0.refl _ | apply Drawn0.step)⟩
       ·
        rw [if_neg c9] at H
        have c9b0 : (a0 == (-9223372036854775808)) = false := beq_eq_false_iff_ne.mpr c9
        have c9b1 : (a0 != (-9223372036854775808)) = true := bne_iff_ne.mpr c9
        by_cases c10 : a1 = (-9223372036854775808)
        ·
         rw [if_pos c10] at H
         have c10b0 : (a1 == (-9223372036854775808)) = true := beq_iff_eq.mpr c10
         have c10b1 : (a1 != (-9223372036854775808)) = false := bne_eq_false_iff_eq.mpr c10
         clear c10
         simp only [Option.some.injEq, Prod.mk.injEq] at H
         obtain ⟨rfl, rfl⟩ := H
         go_wp2
         repeat (go_quiet (fail); try go_wp2)
         go_ret2
         exact ⟨by first | rfl | (simp; done) | (simp [*]; done), by repeat (first | exact Drawn0.refl _ | apply Drawn0.step)⟩
        ·
         rw [if_neg c10] at H
         have c10b0 : (a1 == (-9223372036854775808)) = false := beq_eq_false_iff_ne.mpr c10
         have c10b1 : (a1 != (-9223372036854775808)) = true := bne_iff_ne.mpr c10
         simp only [Option.some.injEq, Prod.mk.injEq] at H
         obtain ⟨rfl, rfl⟩ := H
         go_wp2
         repeat (go_quiet (fail); try go_wp2)
         go_ret2
         exact ⟨by first | rfl | (simp; done) | (simp [*]; done), by repeat (first | exact Drawn0.refl _ | apply Drawn0.step)⟩
      ·
       replace c8 := Bool.eq_false_iff.mpr c8
       subst c8
       have H1 : (if a1 = 0 then (none) else (some (wrap64 (a0 * a1), ((wrap64 (Int.tdiv (wrap64 (a0 * a1)) a1)) == a0)))) = some (r1, r2) := by rw [if_neg (show ¬ (false = true) by decide)] at H; exact H
       clear H
       have H := H1
       clear H1
       by_cases c11 : a1 = 0
       ·
        rw [if_pos c11] at H
        exact absurd H (by simp)
       ·
        rw [if_neg c11] at H
        have c11b0 : (a1 == 0) = false := beq_eq_false_iff_ne.mpr c11
        have c11b1 : (a1 != 0) = true := bne_iff_ne.mpr c11
        simp only [Option.some.injEq, Prod.mk.injEq] at H
        obtain ⟨rfl, rfl⟩ := H
        go_wp2
        repeat (go_quiet (fail); try go_wp2)
        go_ret2
        exact ⟨by first | rfl | (simp; done) | (simp [*]; done), by repeat (first | exact Drawn0.refl _ | apply Drawn0.step)⟩

end Go.Proofs.Ytckefohfahphpaa.Z
end
section
namespace Go.Proofs.Ytckefohfahphpaa.Z
open Go.RowKit Go.Proofs.YtckefohfahphpaaW.PrintWords Go.Proofs.YtckefohfahphpaaW.PrintLast Go.Proofs.YtckefohfahphpaaW.PrintMore
attribute [local go_sem] max2_int min2_int max_two min_two max_three min_three max_four min_four   -- for this text's walks alone
set_option linter.unusedVariables false
set_option linter.unusedSimpArgs false

/-! ### petrinetref08_plus: function 44 -/
def petrinetref08_plus.j0 : Nat → Int → Int → Int → Bool → Option (Int × Bool)
 | 0, _, _, _, _ => none
 | k + 1, x0, x1, x6, x15 => if x15 = true then (some (x6, decide (x6 ≥ 0))) else (if x0 < 0 then (if x1 < 0 then (some (x6, decide (x6 < 0))) else (some (x6, true))) else (some (x6, true)))
def petrinetref08_plus.f (k : Nat) (a0 : Int) (a1 : Int) : Option (Int × Bool) := if a0 ≥ 0 then (petrinetref08_plus.j0 k a0 a1 (wrap64 (a0 + a1)) (decide (a1 ≥ 0))) else (petrinetref08_plus.j0 k a0 a1 (wrap64 (a0 + a1)) false)
theorem petrinetref08_plus.mono_l : ∀ k, (∀ y0 y1 y2 y3, LeO (petrinetref08_plus.j0 k y0 y1 y2 y3) (petrinetref08_plus.j0 (k + 1) y0 y1 y2 y3))
 | 0 => fun _ _ _ _ r h => by simp [petrinetref08_plus.j0] at h
 | k + 1 => by
  have ih0 := petrinetref08_plus.mono_l k
  ·
   intro y0 y1 y2 y3
   unfold petrinetref08_plus.j0
   repeat' first
   | (with_reducible exact ih0 _ _ _ _)
   | (with_reducible exact LeO.refl _)
   | (with_reducible exact LeO.none _)
   | (with_reducible refine LeO.ite ?_ ?_)
   | (with_reducible refine LeO.bind ?_ (fun _ => ?_))
   | exact ih0 _ _ _ _
   | exact LeO.none _
   | refine LeO.ite ?_ ?_
   | refine LeO.bind ?_ (fun _ => ?_)
theorem petrinetref08_plus.mono : ∀ a0 a1 k, LeO (petrinetref08_plus.f k a0 a1) (petrinetref08_plus.f (k + 1) a0 a1) := by
 intro a0 a1 k
 have ih0 := petrinetref08_plus.mono_l k
 unfold petrinetref08_plus.f
 repeat' first
   | (with_reducible exact ih0 _ _ _ _)
   | (with_reducible exact LeO.refl _)
   | (with_reducible exact LeO.none _)
   | (with_reducible refine LeO.ite ?_ ?_)
   | (with_reducible refine LeO.bind ?_ (fun _ => ?_))
   | exact ih0 _ _ _ _
   | exact LeO.none _
   | refine LeO.ite ?_ ?_
   | refine LeO.bind ?_ (fun _ => ?_)
set_option maxHeartbeats 8000000 in
set_option maxRecDepth 100000 in
theorem petrinetref08_plus.calls (k : Nat) (a0 : Int) (a1 : Int) (r1 : Int) (r2 : Bool) (w : World) (h : petrinetref08_plus.f k a0 a1 = some (r1, r2)) :
  Calls Try.prog 44 #[.int .i64 a0, .int .i64 a1] w fun e w' => e = .returned (.tuple #[.int .i64 r1, .bool r2]) ∧ Drawn0 w w' := by
 have H : (if a0 ≥ 0 then (petrinetref08_plus.j0 k a0 a1 (wrap64 (a0 + a1)) (decide (a1 ≥ 0))) else (petrinetref08_plus.j0 k a0 a1 (wrap64 (a0 + a1)) false)) = some (r1, r2) := h
 clear h
 have HC3 := Aside0.mk H
 clear H
 go_enter Try.func44, Try.ntmps44
 go_upto_region 2 with (fail)
 go_cut [15] (fun v15 wc => ∃ (kq : Nat) (x15_2 : Bool), v15 = .bool x15_2 ∧ Aside0 (petrinetref08_plus.j0 kq a0 a1 (wrap64 (a0 + a1)) x15_2 = some (r1, r2)) ∧ Aside0 (kq ≤ k) ∧ Drawn0 w wc)
 case first =>
  have H := HC3.out
  clear HC3
  by_cases c4 : a0 ≥ 0
  ·
   rw [if_pos c4] at H
   have c4b0 : decide (0 ≤ a0) = true := decide_eq_true c4
   clear c4
   (first | rw [c4b0] | (simp only [i64_w, i32_w]; rw [c4b0]) | skip)
   have H' := Aside0.mk H
   clear H
   go_wp2
   go_meet
   case rel => exact ⟨_, (decide (a1 ≥ 0)), (by first | rfl | (simp; done) | (simp [*]; done)), H', ⟨by first | omega | exact Nat.le_refl _⟩, by repeat (first | exact Drawn0.refl _ | apply Drawn0.step)⟩
  ·
   rw [if_neg c4] at H
   have c4b0 : decide (0 ≤ a0) = false := decide_eq_false c4
   clear c4
   (first | rw [c4b0] | (simp only [i64_w, i32_w]; rw [c4b0]) | skip)
   have H' := Aside0.mk H
   clear H
   go_wp2
   go_meet
   case rel => exact ⟨_, (false), (by first | rfl | (simp; done) | (simp [*]; done)), H', ⟨by first | omega | exact Nat.le_refl _⟩, by repeat (first | exact Drawn0.refl _ | apply Drawn0.step)⟩
 case rest =>
  clear HC3
  try clear p2
  try clear c4
  try clear c4b0
  obtain ⟨kq, x15_2, rfl, HA, HJ2, ⟨mc2, rfl⟩⟩ := hcut
  cases kq with
  | zero => exact absurd HA.out (by simp [petrinetref08_plus.j0])
  | succ kj2 =>
   have H := HA.out
   clear HA
   simp only [petrinetref08_plus.j0] at H
   by_cases c5 : x15_2 = true
   ·
    subst c5
    have H1 : (some ((wrap64 (a0 + a1)), decide ((wrap64 (a0 + a1)) ≥ 0))) = some (r1, r2) := by rw [if_pos rfl] at H; exact H
    clear H
    have H := H1
    clear H1
    simp only [Option.some.injEq, Prod.mk.injEq] at H
    obtain ⟨rfl, rfl⟩ := H
    go_wp2
    go_ret2
    exact ⟨by first | rfl | (simp; done) | (simp [*]; done), by repeat (first | exact Drawn0.refl _ | apply Drawn0.step)⟩
   ·
    replace c5 := Bool.eq_false_iff.mpr c5
    subst c5
    have H1 : (if a0 < 0 then (if a1 < 0 then (some ((wrap64 (a0 + a1)), decide ((wrap64 (a0 + a1)) < 0))) else (some ((wrap64 (a0 + a1)), true))) else (some ((wrap64 (a0 + a1)), true))) = some (r1, r2) := by rw [if_neg (show ¬ (false = true) by decide)] at H; exact H
    clear H
    have H := H1
    clear H1
    by_cases c6 : a0 < 0
    ·
     rw [if_pos c6] at H
     have c6b0 : decide (a0 < 0) = true := decide_eq_true c6
     clear c6
     by_cases c7 : a1 < 0
     ·
      rw [if_pos c7] at H
      have c7b0 : decide (a1 < 0) = true := decide_eq_true c7
      clear c7
      simp only [Option.some.injEq, Prod.mk.injEq] at H
      obtain ⟨rfl, rfl⟩ := H
      go_wp2
      go_ret2
      exact ⟨by first | rfl | (simp; done) | (simp [*]; done), by repeat (first | exact Drawn0.refl _ | apply Drawn0.step)⟩
     ·
      rw [if_neg c7] at H
      have c7b0 : decide (a1 < 0) = false := decide_eq_false c7
      clear c7
      simp only [Option.some.injEq, Prod.mk.injEq] at H
      obtain ⟨rfl, rfl⟩ := H
      go_wp2
      go_ret2
      exact ⟨by first | rfl | (simp; done) | (simp [*]; done), by repeat (first | exact Drawn0.refl _ | apply Drawn0.step)⟩
    ·
     rw [if_neg c6] at H
     have c6b0 : decide (a0 < 0) = false := decide_eq_false c6
     clear c6
     simp only [Option.some.injEq, Prod.mk.injEq] at H
     obtain ⟨rfl, rfl⟩ := H
     go_wp2
     go_ret2
     exact ⟨by first | rfl | (simp; done) | (simp [*]; done), by repeat (first | exact Drawn0.refl _ | apply Drawn0.step)⟩

end Go.Proofs.Ytckefohfahphpaa.Z
end
section
namespace Go.Proofs.Ytckefohfahphpaa.Z
open Go.RowKit Go.Proofs.YtckefohfahphpaaW.PrintWords Go.Proofs.YtckefohfahphpaaW.PrintLast Go.Proofs.YtckefohfahphpaaW.PrintMore
attribute [local go_sem] max2_int min2_int max_two min_two max_three min_three max_four min_four   -- for this text's walks alone
set_option linter.unusedVariables false
set_option linter.unusedSimpArgs false

/-! ### petrinetref08_common: function 31 -/
def petrinetref08_common.l0 : Nat → Int → Int → Option (Int)
 | 0, _, _ => none
 | k + 1, x0, x1 => if x1 = 0 then (if x0 < 0 then (some (wrap64 (-x0))) else (some x0)) else (petrinetref08_common.l0 k x1 (Int.tmod x0 x1))
def petrinetref08_common.f (k : Nat) (a0 : Int) (a1 : Int) : Option (Int) := petrinetref08_common.l0 k a0 a1
theorem petrinetref08_common.mono_l : ∀ k, (∀ y0 y1, LeO (petrinetref08_common.l0 k y0 y1) (petrinetref08_common.l0 (k + 1) y0 y1))
 | 0 => fun _ _ r h => by simp [petrinetref08_common.l0] at h
 | k + 1 => by
  have ih0 := petrinetref08_common.mono_l k
  ·
   intro y0 y1
   unfold petrinetref08_common.l0
   repeat' first
   | (with_reducible exact ih0 _ _)
   | (with_reducible exact LeO.refl _)
   | (with_reducible exact LeO.none _)
   | (with_reducible refine LeO.ite ?_ ?_)
   | (with_reducible refine LeO.bind ?_ (fun _ => ?_))
   | exact ih0 _ _
   | exact LeO.none _
   | refine LeO.ite ?_ ?_
   | refine LeO.bind ?_ (fun _ => ?_)
theorem petrinetref08_common.mono : ∀ a0 a1 k, LeO (petrinetref08_common.f k a0 a1) (petrinetref08_common.f (k + 1) a0 a1) := by
 intro a0 a1 k
 have ih0 := petrinetref08_common.mono_l k
 unfold petrinetref08_common.f
 repeat' first
   | (with_reducible exact ih0 _ _)
   | (with_reducible exact LeO.refl _)
   | (with_reducible exact LeO.none _)
   | (with_reducible refine LeO.ite ?_ ?_)
   | (with_reducible refine LeO.bind ?_ (fun _ => ?_))
   | exact ih0 _ _
   | exact LeO.none _
   | refine LeO.ite ?_ ?_
   | refine LeO.bind ?_ (fun _ => ?_)
set_option maxHeartbeats 8000000 in
set_option maxRecDepth 100000 in
theorem petrinetref08_common.calls (k : Nat) (a0 : Int) (a1 : Int) (r : Int) (w : World) (h : petrinetref08_common.f k a0 a1 = some r) :
  Calls Try.prog 31 #[.int .i64 a0, .int .i64 a1] w fun e w' => e = .returned (.int .i64 r) ∧ Drawn0 w w' := by
 have H : (petrinetref08_common.l0 k a0 a1) = some r := h
 clear h
 have H' := Aside0.mk H
 clear H
 go_enter Try.func31, Try.ntmps31
 go_wp2
 repeat (go_quiet (fail); try go_wp2)
 go_loopg [0, 1] k (fun kq v0 v1 w' => ∃ (x0_1 : Int) (x1_1 : Int), v0 = .int .i64 x0_1 ∧ v1 = .int .i64 x1_1 ∧ Aside0 (petrinetref08_common.l0 kq x0_1 x1_1 = some r) ∧ Aside0 (kq ≤ k) ∧ Drawn0 w w')
 case atStart => exact ⟨(a0), (a1), (by first | rfl | (simp; done) | (simp [*]; done)), (by first | rfl | (simp; done) | (simp [*]; done)), H', ⟨Nat.le_refl _⟩, by repeat (first | exact Drawn0.refl _ | apply Drawn0.step)⟩
 case round =>
  clear H'
  try clear p2
  obtain ⟨x0_1, x1_1, rfl, rfl, HA, HK1, ⟨m1, rfl⟩⟩ := hrel
  cases gk with
  | zero => exact absurd HA.out (by simp [petrinetref08_common.l0])
  | succ k1 =>
   have H := HA.out
   clear HA
   simp only [petrinetref08_common.l0] at H
   by_cases c3 : x1_1 = 0
   ·
    rw [if_pos c3] at H
    have c3b0 : (x1_1 == 0) = true := beq_iff_eq.mpr c3
    have c3b1 : (x1_1 != 0) = false := bne_eq_false_iff_eq.mpr c3
    clear c3
    by_cases c4 : x0_1 < 0
    ·
     rw [if_pos c4] at H
     have c4b0 : decide (x0_1 < 0) = true := decide_eq_true c4
     clear c4
     obtain rfl := Option.some.inj H
     go_wp2
     repeat (go_quiet (fail); try go_wp2)
     go_ret
     exact ⟨by first | rfl | (simp; done) | (simp [*]; done), by repeat (first | exact Drawn0.refl _ | apply Drawn0.step)⟩
    ·
     rw [if_neg c4] at H
     have c4b0 : decide (x0_1 < 0) = false := decide_eq_false c4
     clear c4
     obtain rfl := Option.some.inj H
     go_wp2
     repeat (go_quiet (fail); try go_wp2)
     go_ret
     exact ⟨by first | rfl | (simp; done) | (simp [*]; done), by repeat (first | exact Drawn0.refl _ | apply Drawn0.step)⟩
   ·
    rw [if_neg c3] at H
    have c3b0 : (x1_1 == 0) = false := beq_eq_false_iff_ne.mpr c3
    have c3b1 : (x1_1 != 0) = true := bne_iff_ne.mpr c3
    have H' := Aside0.mk H
    clear H
    go_wp2
    repeat (go_quiet (fail); try go_wp2)
    go_roundg k1
    case measure => have := HK1.out; omega
    case rel => exact ⟨(x1_1), (Int.tmod x0_1 x1_1), (by first | rfl | (simp; done) | (simp [*]; done)), (by first | rfl | (simp; done) | (simp [*]; done)), H', ⟨by have := HK1.out; omega⟩, by repeat (first | exact Drawn0.refl _ | apply Drawn0.step)⟩

end Go.Proofs.Ytckefohfahphpaa.Z
end
section
namespace Go.Proofs.Ytckefohfahphpaa.Z
open Go.RowKit Go.Proofs.YtckefohfahphpaaW.PrintWords Go.Proofs.YtckefohfahphpaaW.PrintLast Go.Proofs.YtckefohfahphpaaW.PrintMore
set_option linter.unusedVariables false
set_option linter.unusedSimpArgs false
theorem rcommon_l0 : ∀ (k : Nat) (x y : Int), nl x → nl y → y.natAbs < k → petrinetref08_common.l0 k x y = some (Int.gcd x y : Int) := by
 intro k
 induction k with
 | zero => intro x y _ _ h; omega
 | succ k ih =>
  intro x y hx hy h
  rw [petrinetref08_common.l0]
  by_cases h0 : y = 0
  ·
   subst h0
   rw [if_pos rfl]
   by_cases hn : x < 0
   ·
    rw [if_pos hn, wrap64_id ⟨by have := hx.2; omega, by have := hx.1; omega⟩]
    simp [Int.gcd]
    omega
   ·
    rw [if_neg hn]
    simp [Int.gcd]
    omega
  ·
   rw [if_neg h0]
   have h1 : (Int.tmod x y).natAbs = x.natAbs % y.natAbs := Int.natAbs_tmod x y
   have h2 : x.natAbs % y.natAbs < y.natAbs := Nat.mod_lt _ (by omega)
   obtain ⟨hy1, hy2⟩ := hy
   rw [ih y (Int.tmod x y) ⟨hy1, hy2⟩ ⟨by omega, by omega⟩ (by omega)]
   congr 2
   unfold Int.gcd
   rw [h1, Nat.gcd_comm, ← Nat.gcd_rec, Nat.gcd_comm]
theorem rcommon_eq {k : Nat} {x y : Int} (hx : nl x) (hy : nl y) (hk : 9223372036854775808 ≤ k) : petrinetref08_common.f k x y = some (Int.gcd x y : Int) :=
 rcommon_l0 k x y hx hy (by obtain ⟨h1, h2⟩ := hy; omega)
theorem wrap64_mod (x : Int) : ∃ q : Int, wrap64 x = x - 18446744073709551616 * q ∧ in64 (wrap64 x) := by
 unfold wrap64
 refine ⟨(x + 9223372036854775808) / 18446744073709551616, ?_, ?_⟩
 ·
  have := Int.emod_add_mul_ediv (x + 9223372036854775808) 18446744073709551616
  omega
 ·
  have h1 := Int.emod_nonneg (x + 9223372036854775808) (show (18446744073709551616 : Int) ≠ 0 by decide)
  have h2 := Int.emod_lt_of_pos (x + 9223372036854775808) (show (0 : Int) < 18446744073709551616 by decide)
  constructor <;> omega
theorem rtimes_eq {k : Nat} {a b : Int} (ha : in64 a) (hb : in64 b) (hk : 3 ≤ k) : ∃ z, petrinetref08_times.f k a b = some (z, decide (in64 (a * b))) ∧ (in64 (a * b) → z = a * b) := by
 obtain ⟨k, rfl⟩ : ∃ m, k = m + 2 := ⟨k - 2, by omega⟩
 unfold petrinetref08_times.f
 by_cases a0 : a = 0
 ·
  subst a0
  rw [if_pos rfl, petrinetref08_times.j0, if_pos rfl]
  have : in64 (0 * b) := by rw [Int.zero_mul]; constructor <;> omega
  exact ⟨0, by rw [decide_eq_true this], fun _ => by simp⟩
 rw [if_neg a0, petrinetref08_times.j0]
 by_cases b0 : b = 0
 ·
  subst b0
  have : in64 (a * 0) := by rw [Int.mul_zero]; constructor <;> omega
  exact ⟨0, by rw [decide_eq_true this]; simp, fun _ => by simp⟩
 rw [if_neg (by simp [b0])]
 obtain ⟨ha1, ha2⟩ := ha
 obtain ⟨hb1, hb2⟩ := hb
 by_cases hm : a = -1 ∨ b = -1
 ·
  have e : (if a = -1 then petrinetref08_times.j1 (k + 1) a b true else petrinetref08_times.j1 (k + 1) a b (b == -1)) = petrinetref08_times.j1 (k + 1) a b true := by
   by_cases h : a = -1
   ·
    rw [if_pos h]
   ·
    rw [if_neg h]
    have : b = -1 := hm.resolve_left h
    rw [this]
    rfl
  rw [e, petrinetref08_times.j1, if_pos rfl]
  have hp : a * b = -b ∨ a * b = -a := by
   rcases hm with h | h
   ·
    left; rw [h]; omega
   ·
    right; rw [h]; omega
  by_cases c1 : a = -9223372036854775808
  ·
   rw [if_pos c1]
   have hb' : b = -1 := hm.resolve_left (by omega)
   have : ¬ in64 (a * b) := by rw [c1, hb']; intro h; have := h.2; omega
   exact ⟨0, by rw [decide_eq_false this], fun h => absurd h this⟩
  rw [if_neg c1]
  by_cases c2 : b = -9223372036854775808
  ·
   rw [if_pos c2]
   have ha' : a = -1 := hm.resolve_right (by omega)
   have : ¬ in64 (a * b) := by rw [c2, ha']; intro h; have := h.2; omega
   exact ⟨0, by rw [decide_eq_false this], fun h => absurd h this⟩
  rw [if_neg c2]
  have : in64 (a * b) := by
   rcases hp with h | h <;> rw [h] <;> constructor <;> omega
  exact ⟨_, by rw [decide_eq_true this], fun _ => wrap64_id this⟩
 ·
  have hm1 : a ≠ -1 := fun h => hm (.inl h)
  have hm2 : b ≠ -1 := fun h => hm (.inr h)
  rw [if_neg hm1, petrinetref08_times.j1, if_neg (by simp [hm2]), if_neg b0]
  obtain ⟨q, hq, hp⟩ := wrap64_mod (a * b)
  have hd : in64 (Int.tdiv (wrap64 (a * b)) b) := by
   have h1 : (Int.tdiv (wrap64 (a * b)) b).natAbs = (wrap64 (a * b)).natAbs / b.natAbs := Int.natAbs_tdiv _ _
   have h2 : (wrap64 (a * b)).natAbs / b.natAbs ≤ (wrap64 (a * b)).natAbs / 2 ∨ b = 1 := by
    by_cases h : b = 1
    ·
     exact .inr h
    ·
     exact .inl (Nat.div_le_div_left (by omega) (by omega))
   obtain ⟨p1, p2⟩ := hp
   rcases h2 with h2 | h2
   ·
    constructor <;> omega
   ·
    subst h2; rw [Int.tdiv_one]; exact ⟨p1, p2⟩
  rw [wrap64_id hd]
  by_cases hi : in64 (a * b)
  ·
   rw [wrap64_id hi, decide_eq_true hi]
   refine ⟨_, ?_, fun _ => rfl⟩
   rw [Int.mul_tdiv_cancel _ b0]
   simp
  ·
   refine ⟨wrap64 (a * b), ?_, fun h => absurd h hi⟩
   rw [decide_eq_false hi]
   congr 2
   rw [beq_eq_false_iff_ne]
   intro he
   apply hi
   have h1 := Int.tmod_add_mul_tdiv (wrap64 (a * b)) b
   rw [he] at h1
   have h2 : (Int.tmod (wrap64 (a * b)) b).natAbs = (wrap64 (a * b)).natAbs % b.natAbs := Int.natAbs_tmod _ _
   have h3 : (wrap64 (a * b)).natAbs % b.natAbs < b.natAbs := Nat.mod_lt _ (by omega)
   rw [Int.mul_comm b a] at h1
   have h4 : q = 0 := by omega
   rw [h4] at hq
   simp at hq
   rw [← hq]
   exact hp
theorem rplus_eq {k : Nat} {a b : Int} (ha : in64 a) (hb : in64 b) (hk : 2 ≤ k) : ∃ z, petrinetref08_plus.f k a b = some (z, decide (in64 (a + b))) ∧ (in64 (a + b) → z = a + b) := by
 obtain ⟨k, rfl⟩ : ∃ m, k = m + 1 := ⟨k - 1, by omega⟩
 obtain ⟨ha1, ha2⟩ := ha
 obtain ⟨hb1, hb2⟩ := hb
 refine ⟨wrap64 (a + b), ?_, fun h => wrap64_id h⟩
 unfold petrinetref08_plus.f
 by_cases h1 : a ≥ 0
 ·
  rw [if_pos h1, petrinetref08_plus.j0]
  by_cases h2 : b ≥ 0
  ·
   rw [decide_eq_true h2, if_pos rfl]
   congr 2
   rw [decide_eq_decide]
   unfold wrap64 in64
   omega
  ·
   rw [decide_eq_false h2, if_neg (by decide), if_neg (by omega), decide_eq_true (show in64 (a + b) from ⟨by omega, by omega⟩)]
 ·
  rw [if_neg h1, petrinetref08_plus.j0, if_neg (by decide), if_pos (by omega)]
  by_cases h2 : b < 0
  ·
   rw [if_pos h2]
   congr 2
   rw [decide_eq_decide]
   unfold wrap64 in64
   omega
  ·
   rw [if_neg h2, decide_eq_true (show in64 (a + b) from ⟨by omega, by omega⟩)]
end Go.Proofs.Ytckefohfahphpaa.Z
end
section
namespace Go.Proofs.Ytckefohfahphpaa.Z
open Go.RowKit Go.Proofs.YtckefohfahphpaaW.PrintWords Go.Proofs.YtckefohfahphpaaW.PrintLast Go.Proofs.YtckefohfahphpaaW.PrintMore
attribute [local go_sem] max2_int min2_int max_two min_two max_three min_three max_four min_four   -- for this text's walks alone
set_option linter.unusedVariables false
set_option linter.unusedSimpArgs false

/-! ### petrinetref08_primitive: function 33 -/
mutual
def petrinetref08_primitive.l0 : Nat → List Int → Int → Int → Int → Option (List Int × Bool)
 | 0, _, _, _, _ => none
 | k + 1, x0, x4, x5, x6 => if x6 < (x0.length : Int) then (if 0 ≤ x6 then (if (rd x0 x6) = (-9223372036854775808) then (some (([] : List Int), false)) else ((petrinetref08_common.f k x4 (rd x0 x6)).bind fun t298 => (if x5 = 0 then (petrinetref08_primitive.j1 k x0 t298 x5 x6 ((rd x0 x6) != 0)) else (petrinetref08_primitive.j1 k x0 t298 x5 x6 false)))) else (none)) else (petrinetref08_primitive.l1 k x0 x4 x5 ([] : List Int) 0)
def petrinetref08_primitive.j1 : Nat → List Int → Int → Int → Int → Bool → Option (List Int × Bool)
 | 0, _, _, _, _, _ => none
 | k + 1, x0, x4, x5, x6, x34 => if x34 = true then (if 0 ≤ x6 then (if x6 < (x0.length : Int) then (if (rd x0 x6) < 0 then (petrinetref08_primitive.l0 k x0 x4 (-1) (wrap64 (x6 + 1))) else (petrinetref08_primitive.l0 k x0 x4 1 (wrap64 (x6 + 1)))) else (none)) else (none)) else (petrinetref08_primitive.l0 k x0 x4 x5 (wrap64 (x6 + 1)))
def petrinetref08_primitive.l1 : Nat → List Int → Int → Int → List Int → Int → Option (List Int × Bool)
 | 0, _, _, _, _, _ => none
 | k + 1, x0, x4, x5, x7, x8 => if x8 < (x0.length : Int) then (if x4 = 0 then (if x7.length < 17592186044416 then (petrinetref08_primitive.l1 k x0 x4 x5 (x7 ++ [0]) (wrap64 (x8 + 1))) else (none)) else (if 0 ≤ x8 then (if x7.length < 17592186044416 then (petrinetref08_primitive.l1 k x0 x4 x5 (x7 ++ [wrap64 (x5 * (wrap64 (Int.tdiv (rd x0 x8) x4)))]) (wrap64 (x8 + 1))) else (none)) else (none))) else (some (x7, true))
end
def petrinetref08_primitive.f (k : Nat) (l0 : List Int) : Option (List Int × Bool) := petrinetref08_primitive.l0 k l0 0 0 0
theorem petrinetref08_primitive.mono_l : ∀ k, (∀ y0 y1 y2 y3, LeO (petrinetref08_primitive.l0 k y0 y1 y2 y3) (petrinetref08_primitive.l0 (k + 1) y0 y1 y2 y3)) ∧ (∀ y0 y1 y2 y3 y4, LeO (petrinetref08_primitive.j1 k y0 y1 y2 y3 y4) (petrinetref08_primitive.j1 (k + 1) y0 y1 y2 y3 y4)) ∧ (∀ y0 y1 y2 y3 y4, LeO (petrinetref08_primitive.l1 k y0 y1 y2 y3 y4) (petrinetref08_primitive.l1 (k + 1) y0 y1 y2 y3 y4))
 | 0 => ⟨fun _ _ _ _ r h => by simp [petrinetref08_primitive.l0] at h, fun _ _ _ _ _ r h => by simp [petrinetref08_primitive.j1] at h, fun _ _ _ _ _ r h => by simp [petrinetref08_primitive.l1] at h⟩
 | k + 1 => by
  obtain ⟨ih0, ih1, ih2⟩ := petrinetref08_primitive.mono_l k
  refine ⟨?_, ?_, ?_⟩
  ·
   intro y0 y1 y2 y3
   unfold petrinetref08_primitive.l0
   repeat' first
   | (with_reducible exact ih0 _ _ _ _)
   | (with_reducible exact ih1 _ _ _ _ _)
   | (with_reducible exact ih2 _ _ _ _ _)
   | (with_reducible exact petrinetref08_common.mono _ _ _)
   | (with_reducible exact LeO.refl _)
   | (with_reducible exact LeO.none _)
   | (with_reducible refine LeO.ite ?_ ?_)
   | (with_reducible refine LeO.bind ?_ (fun _ => ?_))
   | exact ih0 _ _ _ _
   | exact ih1 _ _ _ _ _
   | exact ih2 _ _ _ _ _
   | exact petrinetref08_common.mono _ _ _
   | exact LeO.none _
   | refine LeO.ite ?_ ?_
   | refine LeO.bind ?_ (fun _ => ?_)
  ·
   intro y0 y1 y2 y3 y4
   unfold petrinetref08_primitive.j1
   repeat' first
   | (with_reducible exact ih0 _ _ _ _)
   | (with_reducible exact ih1 _ _ _ _ _)
   | (with_reducible exact ih2 _ _ _ _ _)
   | (with_reducible exact petrinetref08_common.mono _ _ _)
   | (with_reducible exact LeO.refl _)
   | (with_reducible exact LeO.none _)
   | (with_reducible refine LeO.ite ?_ ?_)
   | (with_reducible refine LeO.bind ?_ (fun _ => ?_))
   | exact ih0 _ _ _ _
   | exact ih1 _ _ _ _ _
   | exact ih2 _ _ _ _ _
   | exact petrinetref08_common.mono _ _ _
   | exact LeO.none _
   | refine LeO.ite ?_ ?_
   | refine LeO.bind ?_ (fun _ => ?_)
  ·
   intro y0 y1 y2 y3 y4
   unfold petrinetref08_primitive.l1
   repeat' first
   | (with_reducible exact ih0 _ _ _ _)
   | (with_reducible exact ih1 _ _ _ _ _)
   | (with_reducible exact ih2 _ _ _ _ _)
   | (with_reducible exact petrinetref08_common.mono _ _ _)
   | (with_reducible exact LeO.refl _)
   | (with_reducible exact LeO.none _)
   | (with_reducible refine LeO.ite ?_ ?_)
   | (with_reducible refine LeO.bind ?_ (fun _ => ?_))
   | exact ih0 _ _ _ _
   | exact ih1 _ _ _ _ _
   | exact ih2 _ _ _ _ _
   | exact petrinetref08_common.mono _ _ _
   | exact LeO.none _
   | refine LeO.ite ?_ ?_
   | refine LeO.bind ?_ (fun _ => ?_)
theorem petrinetref08_primitive.mono : ∀ a0 k, LeO (petrinetref08_primitive.f k a0) (petrinetref08_primitive.f (k + 1) a0) := by
 intro a0 k
 obtain ⟨ih0, ih1, ih2⟩ := petrinetref08_primitive.mono_l k
 unfold petrinetref08_primitive.f
 repeat' first
   | (with_reducible exact ih0 _ _ _ _)
   | (with_reducible exact ih1 _ _ _ _ _)
   | (with_reducible exact ih2 _ _ _ _ _)
   | (with_reducible exact petrinetref08_common.mono _ _ _)
   | (with_reducible exact LeO.refl _)
   | (with_reducible exact LeO.none _)
   | (with_reducible refine LeO.ite ?_ ?_)
   | (with_reducible refine LeO.bind ?_ (fun _ => ?_))
   | exact ih0 _ _ _ _
   | exact ih1 _ _ _ _ _
   | exact ih2 _ _ _ _ _
   | exact petrinetref08_common.mono _ _ _
   | exact LeO.none _
   | refine LeO.ite ?_ ?_
   | refine LeO.bind ?_ (fun _ => ?_)
set_option maxHeartbeats 8000000 in
set_option maxRecDepth 100000 in
theorem petrinetref08_primitive.calls (k : Nat) (A0 : Option Addr) (c0 : Nat) (l0 : List Int) (r1 : List Int) (r2 : Bool) (w : World) (hr0 : Kd.C (Kd.int .i64) w A0 l0.length l0) (hc0 : l0.length ≤ c0) (h : petrinetref08_primitive.f k l0 = some (r1, r2)) :
  Calls Try.prog 33 #[.slice A0 l0.length c0] w fun e w' => ∃ v0_ : Value, e = .returned (.tuple #[v0_, .bool r2]) ∧ Kd.R (Kd.int .i64) 2 w' w.heap.size (fun _ => True) v0_ r1 ∧ Below w.heap.size w w' := by
 have HR0 := Aside0.mk hr0
 have HC0 := Aside0.mk hc0
 clear hr0 hc0
 have HB := Aside0.mk (Below.refl w.heap.size w)
 have H : (petrinetref08_primitive.l0 k l0 0 0 0) = some (r1, r2) := h
 clear h
 have H' := Aside0.mk H
 clear H
 go_enter Try.func33, Try.ntmps33
 go_wp2
 go_loopg [4, 5, 6] k (fun kq v4 v5 v6 w' => ∃ (x4_1 : Int) (x5_1 : Int) (x6_1 : Int), v4 = .int .i64 x4_1 ∧ v5 = .int .i64 x5_1 ∧ v6 = .int .i64 x6_1 ∧ Aside0 (petrinetref08_primitive.l0 kq l0 x4_1 x5_1 x6_1 = some (r1, r2)) ∧ Aside0 (kq ≤ k) ∧ Aside0 (Below w.heap.size w w'))
 case atStart => exact ⟨(0), (0), (0), (by first | rfl | (simp; done) | (simp [*]; done)), (by first | rfl | (simp; done) | (simp [*]; done)), (by first | rfl | (simp; done) | (simp [*]; done)), H', ⟨Nat.le_refl _⟩, ⟨by repeat (first | (with_reducible first | exact HB.out | apply below_alloc | apply pw_below_drewN | apply below_drew1) | exact HB.out)⟩⟩
 case round =>
  clear H'
  obtain ⟨x4_1, x5_1, x6_1, rfl, rfl, rfl, HA, HK1, HB⟩ := hrel
  cases gk with
  | zero => exact absurd HA.out (by simp [petrinetref08_primitive.l0])
  | succ k1 =>
   have H := HA.out
   clear HA
   simp only [petrinetref08_primitive.l0] at H
   by_cases c2 : x6_1 < (l0.length : Int)
   ·
    rw [if_pos c2] at H
    have c2b0 : decide (x6_1 < (l0.length : Int)) = true := decide_eq_true c2
    clear c2
    by_cases c3 : 0 ≤ x6_1
    ·
     rw [if_pos c3] at H
     have c3b0 : decide (0 ≤ x6_1) = true := decide_eq_true c3
     clear c3
     by_cases c4 : (rd l0 x6_1) = (-9223372036854775808)
     ·
      rw [if_pos c4] at H
      have c4b0 : ((rd l0 x6_1) == (-9223372036854775808)) = true := beq_iff_eq.mpr c4
      have c4b1 : ((rd l0 x6_1) != (-9223372036854775808)) = false := bne_eq_false_iff_eq.mpr c4
      clear c4
      simp only [Option.some.injEq, Prod.mk.injEq] at H
      obtain ⟨rfl, rfl⟩ := H
      have p296 : 0 ≤ (x6_1 : Int) := of_decide_eq_true (by first | (with_reducible assumption) | assumption)
      have q296 : x6_1 < (l0.length : Int) := of_decide_eq_true (by first | (with_reducible assumption) | assumption)
      obtain ⟨ad296, e296, hx296_0⟩ := Kd.at_int HR0.out x6_1 p296 q296
      cases e296
      replace hx296_0 := (HB.out.cell (World.block_lt_of_cell? w _ hx296_0)).trans hx296_0
      replace p296 := eq_true p296
      replace q296 := eq_true q296
      go_wp2
      go_ret2
      exact ⟨_, by first | rfl | (simp [errW_none, errW_some] <;> rfl) | (simp [*, errW_none, errW_some] <;> rfl), by first | exact Kd.R_nil _ _ _ _ _ | exact Kd.N_nil _ _ _ _ _ | exact Kd.V_nil _ _ _ _ _ | exact Kd.Q_nil _ _ _ _ _ | exact Kd.S_nil _ _ _ _ _, by repeat (first | (with_reducible first | exact HB.out | apply below_alloc | apply pw_below_drewN | apply below_drew1) | exact HB.out)⟩
     ·
      rw [if_neg c4] at H
      have c4b0 : ((rd l0 x6_1) == (-9223372036854775808)) = false := beq_eq_false_iff_ne.mpr c4
      have c4b1 : ((rd l0 x6_1) != (-9223372036854775808)) = true := bne_iff_ne.mpr c4
      replace H := Option.bind_eq_some_iff.mp H
      obtain ⟨t298, A50, H⟩ := H
      replace H : (if x5_1 = 0 then (petrinetref08_primitive.j1 k1 l0 t298 x5_1 x6_1 ((rd l0 x6_1) != 0)) else (petrinetref08_primitive.j1 k1 l0 t298 x5_1 x6_1 false)) = some (r1, r2) := H
      have A5 := Aside0.mk A50
      clear A50
      have HC6 := Aside0.mk H
      clear H
      have p296 : 0 ≤ (x6_1 : Int) := of_decide_eq_true (by first | (with_reducible assumption) | assumption)
      have q296 : x6_1 < (l0.length : Int) := of_decide_eq_true (by first | (with_reducible assumption) | assumption)
      obtain ⟨ad296, e296, hx296_0⟩ := Kd.at_int HR0.out x6_1 p296 q296
      cases e296
      replace hx296_0 := (HB.out.cell (World.block_lt_of_cell? w _ hx296_0)).trans hx296_0
      replace p296 := eq_true p296
      replace q296 := eq_true q296
      have p297 : 0 ≤ (x6_1 : Int) := of_decide_eq_true (by first | (with_reducible assumption) | assumption)
      have q297 : x6_1 < (l0.length : Int) := of_decide_eq_true (by first | (with_reducible assumption) | assumption)
      obtain ⟨ad297, e297, hx297_0⟩ := Kd.at_int HR0.out x6_1 p297 q297
      obtain rfl : ad296 = ad297 := (by injection e297)
      replace hx297_0 := (HB.out.cell (World.block_lt_of_cell? w _ hx297_0)).trans hx297_0
      replace p297 := eq_true p297
      replace q297 := eq_true q297
      go_upto_region 9 with (first | ((with_reducible refine gate_callee (f := 31) rfl ?_); refine goesL_ (some 25) rfl rfl Try.func31 (by kernel_rfl) rfl #[.int .i64 x4_1, .int .i64 (rd l0 x6_1)] rfl (by (try simp only [List.map_toArray, List.map_cons, List.map_nil]); first | done | rfl | (simp only [List.length_drop, List.length_take]; rfl)) ?_; (with_reducible refine (petrinetref08_common.calls k1 x4_1 (rd l0 x6_1) t298 _ A5.out).mono ?_); rintro e w' ⟨rfl, ⟨nd, rfl⟩⟩; refine ⟨_, rfl, ?_⟩))
      (try simp only [Act.put, List.setIfInBounds_toArray, List.set_cons_zero, List.set_cons_succ])
      go_cut [34] (fun v34 wc => ∃ (kq : Nat) (x34_5 : Bool), v34 = .bool x34_5 ∧ Aside0 (petrinetref08_primitive.j1 kq l0 t298 x5_1 x6_1 x34_5 = some (r1, r2)) ∧ Aside0 (kq ≤ k1) ∧ Aside0 (Below w.heap.size w wc))
      case first =>
       have H := HC6.out
       clear HC6
       by_cases c7 : x5_1 = 0
       ·
        rw [if_pos c7] at H
        have c7b0 : (x5_1 == 0) = true := beq_iff_eq.mpr c7
        have c7b1 : (x5_1 != 0) = false := bne_eq_false_iff_eq.mpr c7
        clear c7
        (first | rw [c7b0] | (simp only [i64_w, i32_w]; rw [c7b0]) | skip)
        have H' := Aside0.mk H
        clear H
        have p299 : 0 ≤ (x6_1 : Int) := of_decide_eq_true (by first | (with_reducible assumption) | assumption)
        have q299 : x6_1 < (l0.length : Int) := of_decide_eq_true (by first | (with_reducible assumption) | assumption)
        obtain ⟨ad299, e299, hx299_0⟩ := Kd.at_int HR0.out x6_1 p299 q299
        obtain rfl : ad296 = ad299 := (by injection e299)
        replace hx299_0 := (HB.out.cell (World.block_lt_of_cell? w _ hx299_0)).trans hx299_0
        replace p299 := eq_true p299
        replace q299 := eq_true q299
        go_wp2
        go_meet
        case rel => exact ⟨_, (((rd l0 x6_1) != 0)), (by first | rfl | (simp; done) | (simp [*]; done)), H', ⟨by have := HK1.out; first | omega | exact Nat.le_refl _⟩, ⟨by repeat (first | (with_reducible first | exact HB.out | apply below_alloc | apply pw_below_drewN | apply below_drew1) | exact HB.out)⟩⟩
       ·
        rw [if_neg c7] at H
        have c7b0 : (x5_1 == 0) = false := beq_eq_false_iff_ne.mpr c7
        have c7b1 : (x5_1 != 0) = true := bne_iff_ne.mpr c7
        (first | rw [c7b0] | (simp only [i64_w, i32_w]; rw [c7b0]) | skip)
        have H' := Aside0.mk H
        clear H
        go_wp2
        go_meet
        case rel => exact ⟨_, (false), (by first | rfl | (simp; done) | (simp [*]; done)), H', ⟨by have := HK1.out; first | omega | exact Nat.le_refl _⟩, ⟨by repeat (first | (with_reducible first | exact HB.out | apply below_alloc | apply pw_below_drewN | apply below_drew1) | exact HB.out)⟩⟩
      case rest =>
       clear HC6
       try clear c2
       try clear c2b0
       try clear p2
       try clear q2
       try clear hx2
       try clear c3
       try clear c3b0
       try clear c4
       try clear c4b0
       try clear c4b1
       try clear c7
       try clear c7b0
       try clear c7b1
       try clear hx296_0
       try clear hx297_0
       try clear hx299_0
       try clear p296
       try clear p297
       try clear p299
       try clear q296
       try clear q297
       try clear q299
       obtain ⟨kq, x34_5, rfl, HA, HJ5, HB⟩ := hcut
       cases kq with
       | zero => exact absurd HA.out (by simp [petrinetref08_primitive.j1])
       | succ kj5 =>
        have H := HA.out
        clear HA
        simp only [petrinetref08_primitive.j1] at H
        by_cases c8 : x34_5 = true
        ·
         subst c8
         have H1 : (if 0 ≤ x6_1 then (if x6_1 < (l0.length : Int) then (if (rd l0 x6_1) < 0 then (petrinetref08_primitive.l0 kj5 l0 t298 (-1) (wrap64 (x6_1 + 1))) else (petrinetref08_primitive.l0 kj5 l0 t298 1 (wrap64 (x6_1 + 1)))) else (none)) else (none)) = some (r1, r2) := by rw [if_pos rfl] at H; exact H
         clear H
         have H := H1
         clear H1
         by_cases c9 : 0 ≤ x6_1
         ·
          rw [if_pos c9] at H
          have c9b0 : decide (0 ≤ x6_1) = true := decide_eq_true c9
          clear c9
          by_cases c10 : x6_1 < (l0.length : Int)
          ·
           rw [if_pos c10] at H
           have c10b0 : decide (x6_1 < (l0.length : Int)) = true := decide_eq_true c10
           clear c10
           by_cases c11 : (rd l0 x6_1) < 0
           ·
            rw [if_pos c11] at H
            have c11b0 : decide ((rd l0 x6_1) < 0) = true := decide_eq_true c11
            clear c11
            have H' := Aside0.mk H
            clear H
            have p300 : 0 ≤ (x6_1 : Int) := of_decide_eq_true (by first | (with_reducible assumption) | assumption)
            have q300 : x6_1 < (l0.length : Int) := of_decide_eq_true (by first | (with_reducible assumption) | assumption)
            obtain ⟨ad300, e300, hx300_0⟩ := Kd.at_int HR0.out x6_1 p300 q300
            obtain rfl : ad296 = ad300 := (by injection e300)
            replace hx300_0 := (HB.out.cell (World.block_lt_of_cell? w _ hx300_0)).trans hx300_0
            replace p300 := eq_true p300
            replace q300 := eq_true q300
            go_wp2
            go_roundg kj5
            case measure => have := HK1.out; have := HJ5.out; omega
            case rel => exact ⟨(t298), ((-1)), (wrap64 (x6_1 + 1)), (by first | rfl | (simp; done) | (simp [*]; done)), (by first | rfl | (simp; done) | (simp [*]; done)), (by first | rfl | (simp; done) | (simp [*]; done)), H', ⟨by have := HK1.out; have := HJ5.out; omega⟩, ⟨by repeat (first | (with_reducible first | exact HB.out | apply below_alloc | apply pw_below_drewN | apply below_drew1) | exact HB.out)⟩⟩
           ·
            rw [if_neg c11] at H
            have c11b0 : decide ((rd l0 x6_1) < 0) = false := decide_eq_false c11
            clear c11
            have H' := Aside0.mk H
            clear H
            have p300 : 0 ≤ (x6_1 : Int) := of_decide_eq_true (by first | (with_reducible assumption) | assumption)
            have q300 : x6_1 < (l0.length : Int) := of_decide_eq_true (by first | (with_reducible assumption) | assumption)
            obtain ⟨ad300, e300, hx300_0⟩ := Kd.at_int HR0.out x6_1 p300 q300
            obtain rfl : ad296 = ad300 := (by injection e300)
            replace hx300_0 := (HB.out.cell (World.block_lt_of_cell? w _ hx300_0)).trans hx300_0
            replace p300 := eq_true p300
            replace q300 := eq_true q300
            go_wp2
            go_roundg kj5
            case measure => have := HK1.out; have := HJ5.out; omega
            case rel => exact ⟨(t298), (1), (wrap64 (x6_1 + 1)), (by first | rfl | (simp; done) | (simp [*]; done)), (by first | rfl | (simp; done) | (simp [*]; done)), (by first | rfl | (simp; done) | (simp [*]; done)), H', ⟨by have := HK1.out; have := HJ5.out; omega⟩, ⟨by repeat (first | (with_reducible first | exact HB.out | apply below_alloc | apply pw_below_drewN | apply below_drew1) | exact HB.out)⟩⟩
          ·
           rw [if_neg c10] at H
           exact absurd H (by simp)
         ·
          rw [if_neg c9] at H
          exact absurd H (by simp)
        ·
         replace c8 := Bool.eq_false_iff.mpr c8
         subst c8
         have H1 : (petrinetref08_primitive.l0 kj5 l0 t298 x5_1 (wrap64 (x6_1 + 1))) = some (r1, r2) := by rw [if_neg (show ¬ (false = true) by decide)] at H; exact H
         clear H
         have H := H1
         clear H1
         have H' := Aside0.mk H
         clear H
         go_wp2
         go_roundg kj5
         case measure => have := HK1.out; have := HJ5.out; omega
         case rel => exact ⟨(t298), (x5_1), (wrap64 (x6_1 + 1)), (by first | rfl | (simp; done) | (simp [*]; done)), (by first | rfl | (simp; done) | (simp [*]; done)), (by first | rfl | (simp; done) | (simp [*]; done)), H', ⟨by have := HK1.out; have := HJ5.out; omega⟩, ⟨by repeat (first | (with_reducible first | exact HB.out | apply below_alloc | apply pw_below_drewN | apply below_drew1) | exact HB.out)⟩⟩
    ·
     rw [if_neg c3] at H
     exact absurd H (by simp)
   ·
    rw [if_neg c2] at H
    have c2b0 : decide (x6_1 < (l0.length : Int)) = false := decide_eq_false c2
    clear c2
    have H' := Aside0.mk H
    clear H
    go_wp2
    go_loopg [7, 8] k1 (fun kq v7 v8 w' => ∃ (x7_2 : List Int) (x8_2 : Int), v8 = .int .i64 x8_2 ∧ Aside0 (petrinetref08_primitive.l1 kq l0 x4_1 x5_1 x7_2 x8_2 = some (r1, r2)) ∧ Aside0 (kq ≤ k1) ∧ Aside0 (Kd.R (Kd.int .i64) 2 w' w.heap.size (fun _ => True) v7 x7_2) ∧ Aside0 (Below w.heap.size w w'))
    case atStart => exact ⟨(([] : List Int)), (0), (by first | rfl | (simp; done) | (simp [*]; done)), H', ⟨Nat.le_refl _⟩, ⟨by first | exact Kd.R_nil _ _ _ _ _ | exact Kd.N_nil _ _ _ _ _ | exact Kd.V_nil _ _ _ _ _ | exact Kd.Q_nil _ _ _ _ _ | exact Kd.S_nil _ _ _ _ _⟩, ⟨by repeat (first | (with_reducible first | exact HB.out | apply below_alloc | apply pw_below_drewN | apply below_drew1) | exact HB.out)⟩⟩
    case round =>
     clear H'
     try clear c1
     try clear c2
     try clear c2b0
     try clear p2
     try clear q2
     try clear hx2
     try clear c3
     try clear c3b0
     try clear p3
     try clear q3
     try clear hx3
     try clear c4
     try clear c4b0
     try clear c4b1
     try clear p6
     try clear c7
     try clear c7b0
     try clear c7b1
     try clear c8
     try clear c9
     try clear c9b0
     try clear c10
     try clear c10b0
     try clear c11
     try clear c11b0
     try clear hx296_0
     try clear hx297_0
     try clear hx299_0
     try clear hx300_0
     try clear p2
     try clear p296
     try clear p297
     try clear p299
     try clear p300
     try clear q2
     try clear q296
     try clear q297
     try clear q299
     try clear q300
     obtain ⟨x7_2, x8_2, rfl, HA, HK2, HO_7, HB⟩ := hrel
     cases gk with
     | zero => exact absurd HA.out (by simp [petrinetref08_primitive.l1])
     | succ k2 =>
      have H := HA.out
      clear HA
      simp only [petrinetref08_primitive.l1] at H
      by_cases c12 : x8_2 < (l0.length : Int)
      ·
       rw [if_pos c12] at H
       have c12b0 : decide (x8_2 < (l0.length : Int)) = true := decide_eq_true c12
       clear c12
       by_cases c13 : x4_1 = 0
       ·
        rw [if_pos c13] at H
        have c13b0 : (x4_1 == 0) = true := beq_iff_eq.mpr c13
        have c13b1 : (x4_1 != 0) = false := bne_eq_false_iff_eq.mpr c13
        clear c13
        by_cases c14 : x7_2.length < 17592186044416
        ·
         rw [if_pos c14] at H
         have LMc14 := Aside0.mk c14
         clear c14
         obtain ⟨y301, hy301⟩ : ∃ y_ : List Int, y_ = (x7_2 ++ [0]) := ⟨_, rfl⟩
         replace H : (petrinetref08_primitive.l1 k2 l0 x4_1 x5_1 y301 (wrap64 (x8_2 + 1))) = some (r1, r2) := by first | (rw [hy301]; with_reducible exact H) | (have H2_ := (Option.bind_some _ _).symm.trans H; rw [hy301]; with_reducible exact H2_) | (have H2_ := (Option.bind_some _ _).symm.trans H; with_reducible exact H2_) | with_reducible exact H | (rw [hy301]; exact H) | exact H
         have Ny301 := Aside0.mk hy301
         clear hy301
         have H' := Aside0.mk H
         clear H
         go_wp2_with (first | ((with_reducible refine gate_builtin (b := .append) (xs := #[.tmp 48, .tmp 49]) rfl ?_); at_builtin; refine Kd.R_append (Kd.int .i64) (w0 := w) w.heap.size rfl (.tmp 48) (.tmp 49) 33 2 (.int .i64 0) 8 rfl Try.underlying33 info2 rfl (by decide) (by omega) u7 x7_2 0 [.int .i64 0] (fun _ => True) (fun _ => False) rfl rfl ?aP (fun _ hk => hk.elim) ?aF ?aO ?aB ?aS ?aL ?_; (case aP => exact rfl); (case aB => exact (by repeat (first | (with_reducible first | exact HB.out | apply below_alloc | apply pw_below_drewN | apply below_drew1) | exact HB.out))); (case aF => exact (fun _ _ => trivial)); (case aO => exact (by (with_reducible repeat (first | apply Kd.R_alloc | apply Kd.R_drewN | apply Kd.R_drew)); exact HO_7.out)); (case aS => exact (below_size (by repeat (first | (with_reducible first | exact HB.out | apply below_alloc | apply pw_below_drewN | apply below_drew1) | exact HB.out)))); (case aL => have := LMc14.out; omega); intro v302 w15 ho hb hg hat; rw [← Ny301.out] at ho; have n0_ := Aside0.mk (hb); have n1_ := Aside0.mk (ho); clear HB; clear HO_7; have HB := n0_; have HO303 := n1_; clear n0_ n1_; clear ho hb hg hat))
         go_roundg k2
         case measure => have := HK1.out; have := HK2.out; omega
         case rel => exact ⟨(y301), (wrap64 (x8_2 + 1)), (by first | rfl | (simp; done) | (simp [*]; done)), H', ⟨by have := HK1.out; have := HK2.out; omega⟩, ⟨by (with_reducible repeat (first | apply Kd.R_alloc | apply Kd.R_drewN | apply Kd.R_drew)); exact HO303.out⟩, ⟨by repeat (first | (with_reducible first | exact HB.out | apply below_alloc | apply pw_below_drewN | apply below_drew1) | exact HB.out)⟩⟩
        ·
         rw [if_neg c14] at H
         exact absurd H (by simp)
       ·
        rw [if_neg c13] at H
        have c13b0 : (x4_1 == 0) = false := beq_eq_false_iff_ne.mpr c13
        have c13b1 : (x4_1 != 0) = true := bne_iff_ne.mpr c13
        by_cases c16 : 0 ≤ x8_2
        ·
         rw [if_pos c16] at H
         have c16b0 : decide (0 ≤ x8_2) = true := decide_eq_true c16
         clear c16
         by_cases c17 : x7_2.length < 17592186044416
         ·
          rw [if_pos c17] at H
          have LMc17 := Aside0.mk c17
          clear c17
          obtain ⟨y305, hy305⟩ : ∃ y_ : List Int, y_ = (x7_2 ++ [wrap64 (x5_1 * (wrap64 (Int.tdiv (rd l0 x8_2) x4_1)))]) := ⟨_, rfl⟩
          replace H : (petrinetref08_primitive.l1 k2 l0 x4_1 x5_1 y305 (wrap64 (x8_2 + 1))) = some (r1, r2) := by first | (rw [hy305]; with_reducible exact H) | (have H2_ := (Option.bind_some _ _).symm.trans H; rw [hy305]; with_reducible exact H2_) | (have H2_ := (Option.bind_some _ _).symm.trans H; with_reducible exact H2_) | with_reducible exact H | (rw [hy305]; exact H) | exact H
          have Ny305 := Aside0.mk hy305
          clear hy305
          have H' := Aside0.mk H
          clear H
          have p304 : 0 ≤ (x8_2 : Int) := of_decide_eq_true (by first | (with_reducible assumption) | assumption)
          have q304 : x8_2 < (l0.length : Int) := of_decide_eq_true (by first | (with_reducible assumption) | assumption)
          obtain ⟨ad304, e304, hx304_0⟩ := Kd.at_int HR0.out x8_2 p304 q304
          cases e304
          replace hx304_0 := (HB.out.cell (World.block_lt_of_cell? w _ hx304_0)).trans hx304_0
          replace p304 := eq_true p304
          replace q304 := eq_true q304
          go_wp2_with (first | ((with_reducible refine gate_builtin (b := .append) (xs := #[.tmp 51, .tmp 60]) rfl ?_); at_builtin; refine Kd.R_append (Kd.int .i64) (w0 := w) w.heap.size rfl (.tmp 51) (.tmp 60) 33 2 (.int .i64 0) 8 rfl Try.underlying33 info2 rfl (by decide) (by omega) u7 x7_2 (wrap64 (x5_1 * (wrap64 (Int.tdiv (rd l0 x8_2) x4_1)))) [.int .i64 (wrap64 (x5_1 * (wrap64 (Int.tdiv (rd l0 x8_2) x4_1))))] (fun _ => True) (fun _ => False) rfl rfl ?aP (fun _ hk => hk.elim) ?aF ?aO ?aB ?aS ?aL ?_; (case aP => exact rfl); (case aB => exact (by repeat (first | (with_reducible first | exact HB.out | apply below_alloc | apply pw_below_drewN | apply below_drew1) | exact HB.out))); (case aF => exact (fun _ _ => trivial)); (case aO => exact (by (with_reducible repeat (first | apply Kd.R_alloc | apply Kd.R_drewN | apply Kd.R_drew)); exact HO_7.out)); (case aS => exact (below_size (by repeat (first | (with_reducible first | exact HB.out | apply below_alloc | apply pw_below_drewN | apply below_drew1) | exact HB.out)))); (case aL => have := LMc17.out; omega); intro v306 w18 ho hb hg hat; rw [← Ny305.out] at ho; have n0_ := Aside0.mk (hb); have n1_ := Aside0.mk (ho); clear HB; clear HO_7; have HB := n0_; have HO307 := n1_; clear n0_ n1_; clear ho hb hg hat))
          go_roundg k2
          case measure => have := HK1.out; have := HK2.out; omega
          case rel => exact ⟨(y305), (wrap64 (x8_2 + 1)), (by first | rfl | (simp; done) | (simp [*]; done)), H', ⟨by have := HK1.out; have := HK2.out; omega⟩, ⟨by (with_reducible repeat (first | apply Kd.R_alloc | apply Kd.R_drewN | apply Kd.R_drew)); exact HO307.out⟩, ⟨by repeat (first | (with_reducible first | exact HB.out | apply below_alloc | apply pw_below_drewN | apply below_drew1) | exact HB.out)⟩⟩
         ·
          rw [if_neg c17] at H
          exact absurd H (by simp)
        ·
         rw [if_neg c16] at H
         exact absurd H (by simp)
      ·
       rw [if_neg c12] at H
       have c12b0 : decide (x8_2 < (l0.length : Int)) = false := decide_eq_false c12
       clear c12
       simp only [Option.some.injEq, Prod.mk.injEq] at H
       obtain ⟨rfl, rfl⟩ := H
       go_wp2
       go_ret2
       exact ⟨_, by first | rfl | (simp [errW_none, errW_some] <;> rfl) | (simp [*, errW_none, errW_some] <;> rfl), by (with_reducible repeat (first | apply Kd.R_alloc | apply Kd.R_drewN | apply Kd.R_drew)); exact HO_7.out, by repeat (first | (with_reducible first | exact HB.out | apply below_alloc | apply pw_below_drewN | apply below_drew1) | exact HB.out)⟩

end Go.Proofs.Ytckefohfahphpaa.Z
end
section
namespace Go.Proofs.Ytckefohfahphpaa.Z
open Go.RowKit Go.Proofs.YtckefohfahphpaaW.PrintWords Go.Proofs.YtckefohfahphpaaW.PrintLast Go.Proofs.YtckefohfahphpaaW.PrintMore
set_option linter.unusedVariables false
set_option linter.unusedSimpArgs false
def sgnL : List Int → Int → Int
 | [], s => s
 | x :: a, s => sgnL a (if s = 0 then (if x = 0 then 0 else if x < 0 then -1 else 1) else s)
theorem sgnL_keep {s : Int} (h : s ≠ 0) : ∀ a, sgnL a s = s
 | [] => rfl
 | x :: a => by rw [sgnL, if_neg h]; exact sgnL_keep h a
theorem sgnL_range : ∀ (a : List Int) (s : Int), (s = 0 ∨ s = 1 ∨ s = -1) → (sgnL a s = 0 ∨ sgnL a s = 1 ∨ sgnL a s = -1)
 | [], _, h => h
 | x :: a, s, h => by
  rw [sgnL]
  refine sgnL_range a _ ?_
  split
  ·
   split
   ·
    exact .inl rfl
   ·
    split
    ·
     exact .inr (.inr rfl)
    ·
     exact .inr (.inl rfl)
  ·
   exact h
theorem sgnL_first : ∀ (a : List Int) (c : Nat), (∀ x, x < c → vec a x = 0) → vec a c ≠ 0 → sgnL a 0 = if vec a c < 0 then -1 else 1
 | [], c, _, h => absurd (vec_out (Nat.zero_le c)) h
 | y :: a, 0, _, h => by
  rw [vec_cons0] at h ⊢
  rw [sgnL, if_pos rfl, if_neg h]
  by_cases hn : y < 0
  ·
   rw [if_pos hn]; exact sgnL_keep (by decide) a
  ·
   rw [if_neg hn]; exact sgnL_keep (by decide) a
 | y :: a, c + 1, h0, h => by
  have hy := h0 0 (by omega)
  rw [vec_cons0] at hy
  rw [vec_consS] at h ⊢
  rw [sgnL, if_pos rfl, if_pos hy]
  exact sgnL_first a c (fun x hx => by have := h0 (x + 1) (by omega); rwa [vec_consS] at this) h
def nrm (l : List Int) : Prop := ∀ c, (∀ x, x < c → vec l x = 0) → vec l c ≠ 0 → 0 < vec l c
def prF (g s x : Int) : Int := if g = 0 then 0 else s * Int.tdiv x g
theorem drop_vec {l : List Int} {i : Nat} (h : i < l.length) : l.drop i = vec l i :: l.drop (i + 1) := by
 rw [List.drop_eq_getElem_cons h, vec_get h]
theorem rprm_l1 {l : List Int} {g s : Int} (hl : l.length ≤ 100) (hr : ∀ z ∈ l, nl z) (hs : s = 0 ∨ s = 1 ∨ s = -1) : ∀ (d i k : Nat) (acc : List Int), i + d = l.length → acc.length ≤ i → d + 1 ≤ k →
  petrinetref08_primitive.l1 k l g s acc (i : Int) = some (acc ++ (l.drop i).map (prF g s), true) := by
 intro d
 induction d with
 | zero =>
  intro i k acc hi ha hk
  obtain ⟨k, rfl⟩ : ∃ m, k = m + 1 := ⟨k - 1, by omega⟩
  rw [petrinetref08_primitive.l1, if_neg (by omega), List.drop_of_length_le (by omega)]
  simp
 | succ d ih =>
  intro i k acc hi ha hk
  obtain ⟨k, rfl⟩ : ∃ m, k = m + 1 := ⟨k - 1, by omega⟩
  have hil : i < l.length := by omega
  have e1 : rd l (i : Int) = vec l i := rfl
  obtain ⟨n1, n2⟩ := hr _ (vec_mem hil)
  have e2 : wrap64 ((i : Int) + 1) = ((i + 1 : Nat) : Int) := by rw [wrap64_small (by omega) (by omega)]; omega
  rw [petrinetref08_primitive.l1, if_pos (by omega), drop_vec hil, e2, e1]
  by_cases hg : g = 0
  ·
   rw [if_pos hg, if_pos (by omega), ih (i + 1) k _ (by omega) (by simp; omega) (by omega)]
   simp [prF, hg]
  ·
   have t1 := tdiv_abs (vec l i) g
   have w1 : wrap64 (Int.tdiv (vec l i) g) = Int.tdiv (vec l i) g := wrap64_id ⟨by omega, by omega⟩
   have w2 : wrap64 (s * Int.tdiv (vec l i) g) = s * Int.tdiv (vec l i) g := by
    rcases hs with h | h | h <;> rw [h] <;> refine wrap64_id ⟨?_, ?_⟩ <;> omega
   rw [if_neg hg, if_pos (by omega), if_pos (by omega), w1, w2, ih (i + 1) k _ (by omega) (by simp; omega) (by omega)]
   simp [prF, hg]
theorem gcd_nl {x y : Int} (hx : nl x) (hy : nl y) : nl (Int.gcd x y : Int) := by
 obtain ⟨a1, a2⟩ := hx
 obtain ⟨b1, b2⟩ := hy
 by_cases h : y = 0
 ·
  subst h; simp [Int.gcd]; constructor <;> omega
 ·
  have := gcd_le_right (g := x) h
  constructor <;> omega
theorem rprm_l0 {l : List Int} (hl : l.length ≤ 100) (hr : ∀ z ∈ l, nl z) : ∀ (d i k : Nat) (g s : Int), i + d = l.length → nl g → 9223372036854775808 ≤ k →
  petrinetref08_primitive.l0 (k + 2 * d + 1) l g s (i : Int) = petrinetref08_primitive.l1 k l (gcdL (l.drop i) g) (sgnL (l.drop i) s) [] 0 := by
 intro d
 induction d with
 | zero =>
  intro i k g s hi hg hk
  rw [petrinetref08_primitive.l0, if_neg (by omega), List.drop_of_length_le (by omega)]
  rfl
 | succ d ih =>
  intro i k g s hi hg hk
  have hil : i < l.length := by omega
  have e1 : rd l (i : Int) = vec l i := rfl
  have hn := hr _ (vec_mem hil)
  have e2 : wrap64 ((i : Int) + 1) = ((i + 1 : Nat) : Int) := by rw [wrap64_small (by omega) (by omega)]; omega
  have hc := rcommon_eq (k := k + 2 * (d + 1)) hg hn (by omega)
  have hne : vec l i ≠ -9223372036854775808 := by have := hn.1; omega
  rw [petrinetref08_primitive.l0, if_pos (by omega), if_pos (by omega), e1, if_neg hne, hc]
  simp only [Option.bind_some]
  have key := ih (i + 1) k (Int.gcd g (vec l i) : Int)
  have eg : gcdL (l.drop i) g = gcdL (l.drop (i + 1)) (Int.gcd g (vec l i) : Int) := by rw [drop_vec hil]; rfl
  have es : sgnL (l.drop i) s = sgnL (l.drop (i + 1)) (if s = 0 then (if vec l i = 0 then 0 else if vec l i < 0 then -1 else 1) else s) := by rw [drop_vec hil]; rfl
  rw [eg, es]
  have ek : k + 2 * (d + 1) = (k + 2 * d + 1) + 1 := by omega
  by_cases hs : s = 0
  ·
   rw [if_pos hs, ek, petrinetref08_primitive.j1, if_pos hs]
   by_cases h0 : vec l i = 0
   ·
    rw [if_neg (by simp [h0]), if_pos h0, e2, hs]
    exact key 0 (by omega) (gcd_nl hg hn) hk
   ·
    rw [if_pos (by simp [h0]), if_pos (by omega), if_pos (by omega), if_neg h0, e1, e2]
    by_cases hneg : vec l i < 0
    ·
     rw [if_pos hneg, if_pos hneg]
     exact key (-1) (by omega) (gcd_nl hg hn) hk
    ·
     rw [if_neg hneg, if_neg hneg]
     exact key 1 (by omega) (gcd_nl hg hn) hk
  ·
   rw [if_neg hs, ek, petrinetref08_primitive.j1, if_neg (by decide), if_neg hs, e2]
   exact key s (by omega) (gcd_nl hg hn) hk
theorem rprm_bad {l : List Int} (hr : ∀ z ∈ l, in64 z) (hl : l.length ≤ 100) : ∀ (d i k : Nat) (g s : Int), i + d = l.length → nl g → 9223372036854775808 + 2 * d + 2 ≤ k → least ∈ l.drop i →
  petrinetref08_primitive.l0 k l g s (i : Int) = some ([], false) := by
 intro d
 induction d with
 | zero =>
  intro i k g s hi hg hk hm
  rw [List.drop_of_length_le (by omega)] at hm
  simp at hm
 | succ d ih =>
  intro i k g s hi hg hk hm
  obtain ⟨k, rfl⟩ : ∃ m, k = m + 2 := ⟨k - 2, by omega⟩
  have hil : i < l.length := by omega
  have e1 : rd l (i : Int) = vec l i := rfl
  have e2 : wrap64 ((i : Int) + 1) = ((i + 1 : Nat) : Int) := by rw [wrap64_small (by omega) (by omega)]; omega
  rw [petrinetref08_primitive.l0, if_pos (by omega), if_pos (by omega), e1]
  by_cases hne : vec l i = -9223372036854775808
  ·
   rw [if_pos hne]
  ·
   rw [if_neg hne]
   obtain ⟨n1, n2⟩ := hr _ (vec_mem hil)
   have hn : nl (vec l i) := ⟨by omega, n2⟩
   rw [rcommon_eq (k := k + 1) hg hn (by omega)]
   simp only [Option.bind_some]
   have hm' : least ∈ l.drop (i + 1) := by
    rw [drop_vec hil] at hm
    rcases List.mem_cons.mp hm with h | h
    ·
     exact absurd h.symm hne
    ·
     exact h
   have key := fun s => ih (i + 1) k (Int.gcd g (vec l i) : Int) s (by omega) (gcd_nl hg hn) (by omega) hm'
   split
   ·
    rw [petrinetref08_primitive.j1, e2, e1]
    split
    ·
     rw [if_pos (by omega), if_pos (by omega)]
     split
     ·
      exact key _
     ·
      exact key _
    ·
     exact key _
   ·
    rw [petrinetref08_primitive.j1, if_neg (by decide), e2]
    exact key _
theorem rprm_spec {k n : Nat} {l : List Int} (hl : okr n l) (hn : n ≤ 64) (hk : 9223372036854775808 + 300 ≤ k) :
  (∃ s, petrinetref08_primitive.f k l = some (s, false)) ∨ ∃ s, petrinetref08_primitive.f k l = some (s, true) ∧ nlr n s ∧ nrm s ∧ ∃ σ g : Int, σ ≠ 0 ∧ 0 < g ∧ (∀ x, σ * vec l x = g * vec s x) ∧ ((∀ x, vec l x = 0) ∨ Prm (vec s)) := by
 have hll := hl.1
 unfold petrinetref08_primitive.f
 by_cases hm : least ∈ l
 ·
  left
  exact ⟨[], rprm_bad hl.2 (by omega) l.length 0 k 0 0 (by omega) ⟨by omega, by omega⟩ (by omega) (by simpa using hm)⟩
 ·
  right
  have hr : ∀ z ∈ l, nl z := fun z hz => by
   obtain ⟨h1, h2⟩ := hl.2 z hz
   have : z ≠ least := fun e => hm (e ▸ hz)
   unfold least at this
   exact ⟨by omega, h2⟩
  obtain ⟨k', rfl⟩ : ∃ m, k = m + 2 * l.length + 1 := ⟨k - 2 * l.length - 1, by omega⟩
  have h1 := rprm_l0 (by omega) hr l.length 0 k' 0 0 (by omega) ⟨by omega, by omega⟩ (by omega)
  have hsr := sgnL_range l 0 (.inl rfl)
  have h2 := rprm_l1 (g := gcdL l 0) (s := sgnL l 0) (by omega) hr hsr l.length 0 k' [] (by omega) (by simp) (by omega)
  simp only [List.drop_zero, List.nil_append] at h1 h2
  refine ⟨l.map (prF (gcdL l 0) (sgnL l 0)), by rw [← h2]; exact h1, ?_⟩
  rcases prim_spec hl with ⟨q1, _⟩ | ⟨s0, q1, q2, q3, g, q4, q5, q6⟩
  ·
   unfold primG at q1
   rw [if_neg hm] at q1
   simp at q1
  ·
   have hs0 : s0 = l.map fun x => if gcdL l 0 > 0 then Int.tdiv x (gcdL l 0) else 0 := by
    unfold primG at q1
    rw [if_neg hm] at q1
    simpa using q1.symm
   have hg0 := gcdL_nonneg l 0 (Int.le_refl 0)
   have hv : ∀ x, vec (l.map (prF (gcdL l 0) (sgnL l 0))) x = sgnL l 0 * vec s0 x := fun x => by
    rw [vec_map (f := prF (gcdL l 0) (sgnL l 0)) (by unfold prF; simp), hs0, vec_map (f := fun x => if gcdL l 0 > 0 then Int.tdiv x (gcdL l 0) else 0) (by simp)]
    unfold prF
    by_cases h : gcdL l 0 = 0
    ·
     rw [if_pos h, if_neg (by omega)]; simp
    ·
     rw [if_neg h, if_pos (by omega)]
   have hlen : (l.map (prF (gcdL l 0) (sgnL l 0))).length = n := by simp; omega
   generalize l.map (prF (gcdL l 0) (sgnL l 0)) = s at hv hlen
   have hnl : nlr n s := ⟨hlen, fun z hz => by
    obtain ⟨x, _, rfl⟩ := mem_vec hz
    have h3 := okr_in q2 x
    have h4 := q3 x
    unfold least at h4
    obtain ⟨h5, h6⟩ := h3
    rw [hv]
    rcases hsr with h | h | h <;> rw [h] <;> constructor <;> omega⟩
   have hzero : ∀ x, vec l x = 0 → vec s0 x = 0 := fun x h => by
    have := q5 x
    rw [h] at this
    exact (Int.mul_eq_zero.mp this.symm).resolve_left (by omega)
   refine ⟨hnl, fun c h3 h4 => ?_, ?_⟩
   ·
    rw [hv] at h4 ⊢
    have hc0 : vec s0 c ≠ 0 := fun h => h4 (by rw [h]; simp)
    have hσ : sgnL l 0 ≠ 0 := fun h => h4 (by rw [h]; simp)
    have hlc : vec l c ≠ 0 := fun h => hc0 (hzero c h)
    have h5 := sgnL_first l c (fun x hx => by
     have := h3 x hx
     rw [hv] at this
     have := (Int.mul_eq_zero.mp this).resolve_left hσ
     rw [q5, this]; simp) hlc
    rw [h5]
    have h6 := q5 c
    by_cases hneg : vec l c < 0
    ·
     rw [if_pos hneg]
     have : 0 < -vec s0 c := pos_of_mul q4 (by rw [Int.mul_neg]; omega)
     omega
    ·
     rw [if_neg hneg]
     have : 0 < vec s0 c := pos_of_mul q4 (by omega)
     omega
   ·
    rcases q6 with q6 | q6
    ·
     refine ⟨1, 1, by decide, by decide, fun x => ?_, .inl q6⟩
     rw [hv, hzero x (q6 x), q6 x]
     simp
    ·
     have hσ : sgnL l 0 ≠ 0 := by
      have hex : ∃ c, vec l c ≠ 0 := by
       apply Classical.byContradiction
       intro hno
       have h7 : ∀ x, vec s0 x = 0 := fun x => hzero x (Classical.byContradiction fun h => hno ⟨x, h⟩)
       have := q6 2 fun x => by rw [h7]; exact ⟨0, rfl⟩
       exact absurd this (by decide)
      obtain ⟨c, hc⟩ := hex
      obtain ⟨c, hc, hmin⟩ : ∃ c, vec l c ≠ 0 ∧ ∀ x, x < c → vec l x = 0 := by
       induction c using Nat.strongRecOn with
       | _ c ih =>
        by_cases h : ∃ x, x < c ∧ vec l x ≠ 0
        ·
         obtain ⟨x, h1, h2⟩ := h
         exact ih x h1 h2
        ·
         exact ⟨c, hc, fun x hx => Classical.byContradiction fun hn => h ⟨x, hx, hn⟩⟩
      rw [sgnL_first l c hmin hc]
      split <;> decide
     refine ⟨sgnL l 0, g, hσ, q4, fun x => ?_, .inr fun d hd => q6 d fun x => ?_⟩
     ·
      rw [hv, q5]
      exact Int.mul_left_comm _ _ _
     ·
      have := hd x
      rw [hv] at this
      rcases hsr with h | h | h
      ·
       exact absurd h hσ
      ·
       rw [h] at this; simpa using this
      ·
       rw [h] at this
       have h8 : -1 * vec s0 x = -vec s0 x := by omega
       rw [h8] at this
       exact Int.dvd_neg.mp this
end Go.Proofs.Ytckefohfahphpaa.Z
end
section
namespace Go.Proofs.Ytckefohfahphpaa.Z
open Go.RowKit Go.Proofs.YtckefohfahphpaaW.PrintWords Go.Proofs.YtckefohfahphpaaW.PrintLast Go.Proofs.YtckefohfahphpaaW.PrintMore
attribute [local go_sem] max2_int min2_int max_two min_two max_three min_three max_four min_four   -- for this text's walks alone
set_option linter.unusedVariables false
set_option linter.unusedSimpArgs false

/-! ### matrix_Apply: function 21 -/
mutual
def matrix_Apply.j0 : Nat → List (List Int) → List Int → Bool → Option (List Int × Int)
 | 0, _, _, _ => none
 | k + 1, x0, x1, x22 => if x22 = true then (some (([] : List Int), 2)) else (if 0 ≤ (x0.length : Int) then (if ((x0.length : Int) : Int).toNat ≤ 35184372088832 then (matrix_Apply.l0 k x1 (List.replicate ((x0.length : Int) : Int).toNat 0) x0 (x0.length : Int) 0) else (none)) else (none))
def matrix_Apply.l0 : Nat → List Int → List Int → List (List Int) → Int → Int → Option (List Int × Int)
 | 0, _, _, _, _, _ => none
 | k + 1, x1, x6, x26, x27, x28 => if x28 < x27 then (if 0 ≤ x28 then (if x28 < (x26.length : Int) then ((vector_Dot.f k (rd_L1 x26 x28) x1).bind fun bt236 => (if bt236.2 = 0 then (if x28 < (x6.length : Int) then (matrix_Apply.l0 k x1 (x6.set (x28 : Int).toNat bt236.1) x26 x27 (wrap64 (x28 + 1))) else (none)) else (some (([] : List Int), bt236.2)))) else (none)) else (none)) else (some (x6, 0))
end
def matrix_Apply.f (k : Nat) (l0 : List (List Int)) (l1 : List Int) : Option (List Int × Int) := (matrix_Valid.f k l0).bind fun t230 => (if t230 = true then (if 0 < (l0.length : Int) then (matrix_Apply.j0 k l0 l1 (((rd_L1 l0 0).length : Int) != (l1.length : Int))) else (none)) else (matrix_Apply.j0 k l0 l1 true))
theorem matrix_Apply.mono_l : ∀ k, (∀ y0 y1 y2, LeO (matrix_Apply.j0 k y0 y1 y2) (matrix_Apply.j0 (k + 1) y0 y1 y2)) ∧ (∀ y0 y1 y2 y3 y4, LeO (matrix_Apply.l0 k y0 y1 y2 y3 y4) (matrix_Apply.l0 (k + 1) y0 y1 y2 y3 y4))
 | 0 => ⟨fun _ _ _ r h => by simp [matrix_Apply.j0] at h, fun _ _ _ _ _ r h => by simp [matrix_Apply.l0] at h⟩
 | k + 1 => by
  obtain ⟨ih0, ih1⟩ := matrix_Apply.mono_l k
  refine ⟨?_, ?_⟩
  ·
   intro y0 y1 y2
   unfold matrix_Apply.j0
   repeat' first
   | (with_reducible exact ih0 _ _ _)
   | (with_reducible exact ih1 _ _ _ _ _)
   | (with_reducible exact matrix_Valid.mono _ _)
   | (with_reducible exact vector_Dot.mono _ _ _)
   | (with_reducible exact LeO.refl _)
   | (with_reducible exact LeO.none _)
   | (with_reducible refine LeO.ite ?_ ?_)
   | (with_reducible refine LeO.bind ?_ (fun _ => ?_))
   | exact ih0 _ _ _
   | exact ih1 _ _ _ _ _
   | exact matrix_Valid.mono _ _
   | exact vector_Dot.mono _ _ _
   | exact LeO.none _
   | refine LeO.ite ?_ ?_
   | refine LeO.bind ?_ (fun _ => ?_)
  ·
   intro y0 y1 y2 y3 y4
   unfold matrix_Apply.l0
   repeat' first
   | (with_reducible exact ih0 _ _ _)
   | (with_reducible exact ih1 _ _ _ _ _)
   | (with_reducible exact matrix_Valid.mono _ _)
   | (with_reducible exact vector_Dot.mono _ _ _)
   | (with_reducible exact LeO.refl _)
   | (with_reducible exact LeO.none _)
   | (with_reducible refine LeO.ite ?_ ?_)
   | (with_reducible refine LeO.bind ?_ (fun _ => ?_))
   | exact ih0 _ _ _
   | exact ih1 _ _ _ _ _
   | exact matrix_Valid.mono _ _
   | exact vector_Dot.mono _ _ _
   | exact LeO.none _
   | refine LeO.ite ?_ ?_
   | refine LeO.bind ?_ (fun _ => ?_)
theorem matrix_Apply.mono : ∀ a0 a1 k, LeO (matrix_Apply.f k a0 a1) (matrix_Apply.f (k + 1) a0 a1) := by
 intro a0 a1 k
 obtain ⟨ih0, ih1⟩ := matrix_Apply.mono_l k
 unfold matrix_Apply.f
 repeat' first
   | (with_reducible exact ih0 _ _ _)
   | (with_reducible exact ih1 _ _ _ _ _)
   | (with_reducible exact matrix_Valid.mono _ _)
   | (with_reducible exact vector_Dot.mono _ _ _)
   | (with_reducible exact LeO.refl _)
   | (with_reducible exact LeO.none _)
   | (with_reducible refine LeO.ite ?_ ?_)
   | (with_reducible refine LeO.bind ?_ (fun _ => ?_))
   | exact ih0 _ _ _
   | exact ih1 _ _ _ _ _
   | exact matrix_Valid.mono _ _
   | exact vector_Dot.mono _ _ _
   | exact LeO.none _
   | refine LeO.ite ?_ ?_
   | refine LeO.bind ?_ (fun _ => ?_)
set_option maxHeartbeats 8000000 in
set_option maxRecDepth 100000 in
theorem matrix_Apply.calls (k : Nat) (A0 : Option Addr) (c0 : Nat) (l0 : List (List Int)) (A1 : Option Addr) (c1 : Nat) (l1 : List Int) (r1 : List Int) (r2 : Int) (w : World) (hr0 : Kd.C (Kd.slice 2 (Kd.int .i64)) w A0 l0.length l0) (hc0 : l0.length ≤ c0) (hr1 : Kd.C (Kd.int .i64) w A1 l1.length l1) (hc1 : l1.length ≤ c1) (h : matrix_Apply.f k l0 l1 = some (r1, r2)) :
  Calls Try.prog 21 #[.slice A0 l0.length c0, .slice A1 l1.length c1] w fun e w' => ∃ v0_ : Value, e = .returned (.tuple #[v0_, .int .i64 r2]) ∧ Kd.R (Kd.int .i64) 2 w' w.heap.size (fun _ => True) v0_ r1 ∧ Below w.heap.size w w' := by
 have HR0 := Aside0.mk hr0
 have HC0 := Aside0.mk hc0
 clear hr0 hc0
 have HR1 := Aside0.mk hr1
 have HC1 := Aside0.mk hc1
 clear hr1 hc1
 have HB := Aside0.mk (Below.refl w.heap.size w)
 have H : ((matrix_Valid.f k l0).bind fun t230 => (if t230 = true then (if 0 < (l0.length : Int) then (matrix_Apply.j0 k l0 l1 (((rd_L1 l0 0).length : Int) != (l1.length : Int))) else (none)) else (matrix_Apply.j0 k l0 l1 true))) = some (r1, r2) := h
 clear h
 have HC3 := Aside0.mk H
 clear H
 go_enter Try.func21, Try.ntmps21
 go_upto_region 1 with (fail)
 go_cut [22] (fun v22 wc => ∃ (kq : Nat) (x22_2 : Bool), v22 = .bool x22_2 ∧ Aside0 (matrix_Apply.j0 kq l0 l1 x22_2 = some (r1, r2)) ∧ Aside0 (kq ≤ k) ∧ Aside0 (Below w.heap.size w wc))
 case first =>
  have H := HC3.out
  clear HC3
  replace H := Option.bind_eq_some_iff.mp H
  obtain ⟨t230, A40, H⟩ := H
  replace H : (if t230 = true then (if 0 < (l0.length : Int) then (matrix_Apply.j0 k l0 l1 (((rd_L1 l0 0).length : Int) != (l1.length : Int))) else (none)) else (matrix_Apply.j0 k l0 l1 true)) = some (r1, r2) := H
  have A4 := Aside0.mk A40
  clear A40
  by_cases c5 : t230 = true
  ·
   subst c5
   have H1 : (if 0 < (l0.length : Int) then (matrix_Apply.j0 k l0 l1 (((rd_L1 l0 0).length : Int) != (l1.length : Int))) else (none)) = some (r1, r2) := by rw [if_pos rfl] at H; exact H
   clear H
   have H := H1
   clear H1
   by_cases c6 : 0 < (l0.length : Int)
   ·
    rw [if_pos c6] at H
    have c6b0 : decide (0 < (l0.length : Int)) = true := decide_eq_true c6
    have c6b1 : decide (0 < l0.length) = true := decide_eq_true (by omega)
    clear c6
    (first | rw [c6b0] | (simp only [i64_w, i32_w]; rw [c6b0]) | skip)
    have H' := Aside0.mk H
    clear H
    go_wp2_with (first | ((with_reducible refine gate_callee (f := 18) rfl ?_); refine goesL_ (some 12) rfl rfl Try.func18 (by kernel_rfl) rfl #[.slice A0 l0.length c0] rfl (by (try simp only [List.map_toArray, List.map_cons, List.map_nil]); first | done | rfl | (simp only [List.length_drop, List.length_take]; rfl)) ?_; (with_reducible refine (matrix_Valid.calls k _ _ l0 true _ ?side1 ?side2 A4.out).mono ?_); (case side1 => repeat (first | exact (Kd.C_below HR0.out HB.out) | (with_reducible refine Kd.C_alloc ?_ _) | (with_reducible refine Kd.C_drewN ?_ _) | (with_reducible refine Kd.C_drew ?_))); (case side2 => exact HC0.out); rintro e w' ⟨rfl, ⟨nd, rfl⟩⟩; refine ⟨_, rfl, ?_⟩; have p231 : 0 ≤ (0 : Int) := (by omega); have q231 : 0 < (l0.length : Int) := of_decide_eq_true (by first | (with_reducible assumption) | assumption); obtain ⟨ad231, A231_0, c231_0, e231, hx231_0, hl231_0, hi231_0⟩ := at_L1 HR0.out 0 p231 q231; cases e231; have qi231 : (0 < l0.length) = True := eq_true (by omega); (try rw [show ((0 : Int)).toNat = 0 from rfl] at hx231_0); (try rw [Addr.add_zero'] at hx231_0); replace hx231_0 := (HB.out.cell (World.block_lt_of_cell? w _ hx231_0)).trans hx231_0; have HR231_0 := Aside0.mk hi231_0; have HC231_0 := Aside0.mk hl231_0; clear hi231_0 hl231_0; replace p231 := eq_true p231; replace q231 := eq_true q231))
    go_meet
    case rel => exact ⟨_, ((((rd_L1 l0 0).length : Int) != (l1.length : Int))), (by first | rfl | (simp; done) | (simp [*]; done)), H', ⟨by first | omega | exact Nat.le_refl _⟩, ⟨by repeat (first | (with_reducible first | exact HB.out | apply below_alloc | apply pw_below_drewN | apply below_drew1) | exact HB.out)⟩⟩
   ·
    rw [if_neg c6] at H
    exact absurd H (by simp)
  ·
   replace c5 := Bool.eq_false_iff.mpr c5
   subst c5
   have H1 : (matrix_Apply.j0 k l0 l1 true) = some (r1, r2) := by rw [if_neg (show ¬ (false = true) by decide)] at H; exact H
   clear H
   have H := H1
   clear H1
   have H' := Aside0.mk H
   clear H
   go_wp2_with (first | ((with_reducible refine gate_callee (f := 18) rfl ?_); refine goesL_ (some 12) rfl rfl Try.func18 (by kernel_rfl) rfl #[.slice A0 l0.length c0] rfl (by (try simp only [List.map_toArray, List.map_cons, List.map_nil]); first | done | rfl | (simp only [List.length_drop, List.length_take]; rfl)) ?_; (with_reducible refine (matrix_Valid.calls k _ _ l0 false _ ?side1 ?side2 A4.out).mono ?_); (case side1 => repeat (first | exact (Kd.C_below HR0.out HB.out) | (with_reducible refine Kd.C_alloc ?_ _) | (with_reducible refine Kd.C_drewN ?_ _) | (with_reducible refine Kd.C_drew ?_))); (case side2 => exact HC0.out); rintro e w' ⟨rfl, ⟨nd, rfl⟩⟩; refine ⟨_, rfl, ?_⟩))
   go_meet
   case rel => exact ⟨_, (true), (by first | rfl | (simp; done) | (simp [*]; done)), H', ⟨by first | omega | exact Nat.le_refl _⟩, ⟨by repeat (first | (with_reducible first | exact HB.out | apply below_alloc | apply pw_below_drewN | apply below_drew1) | exact HB.out)⟩⟩
 case rest =>
  clear HC3
  try clear c1
  try clear c2
  try clear p2
  try clear q2
  try clear hx2
  try clear qi2
  try clear c5
  try clear c6
  try clear c6b0
  try clear c6b1
  try clear hx231_0
  try clear p231
  try clear q231
  obtain ⟨kq, x22_2, rfl, HA, HJ2, HB⟩ := hcut
  cases kq with
  | zero => exact absurd HA.out (by simp [matrix_Apply.j0])
  | succ kj2 =>
   have H := HA.out
   clear HA
   simp only [matrix_Apply.j0] at H
   by_cases c7 : x22_2 = true
   ·
    subst c7
    have H1 : (some (([] : List Int), 2)) = some (r1, r2) := by rw [if_pos rfl] at H; exact H
    clear H
    have H := H1
    clear H1
    simp only [Option.some.injEq, Prod.mk.injEq] at H
    obtain ⟨rfl, rfl⟩ := H
    go_wp2
    go_ret2
    exact ⟨_, by first | rfl | (simp [errW_none, errW_some] <;> rfl) | (simp [*, errW_none, errW_some] <;> rfl), by first | exact Kd.R_nil _ _ _ _ _ | exact Kd.N_nil _ _ _ _ _ | exact Kd.V_nil _ _ _ _ _ | exact Kd.Q_nil _ _ _ _ _ | exact Kd.S_nil _ _ _ _ _, by repeat (first | (with_reducible first | exact HB.out | apply below_alloc | apply pw_below_drewN | apply below_drew1) | exact HB.out)⟩
   ·
    replace c7 := Bool.eq_false_iff.mpr c7
    subst c7
    have H1 : (if 0 ≤ (l0.length : Int) then (if ((l0.length : Int) : Int).toNat ≤ 35184372088832 then (matrix_Apply.l0 kj2 l1 (List.replicate ((l0.length : Int) : Int).toNat 0) l0 (l0.length : Int) 0) else (none)) else (none)) = some (r1, r2) := by rw [if_neg (show ¬ (false = true) by decide)] at H; exact H
    clear H
    have H := H1
    clear H1
    by_cases c8 : 0 ≤ (l0.length : Int)
    ·
     rw [if_pos c8] at H
     have c8b0 := eq_true c8
     have c8b1 : decide (0 ≤ (l0.length : Int)) = true := decide_eq_true c8
     clear c8
     by_cases c9 : ((l0.length : Int) : Int).toNat ≤ 35184372088832
     ·
      rw [if_pos c9] at H
      have c9b0 := eq_true c9
      have c9b1 : decide (((l0.length : Int) : Int).toNat ≤ 35184372088832) = true := decide_eq_true c9
      clear c9
      obtain ⟨y232, hy232⟩ : ∃ y_ : List Int, y_ = (List.replicate ((l0.length : Int) : Int).toNat 0) := ⟨_, rfl⟩
      replace H : (matrix_Apply.l0 kj2 l1 y232 l0 (l0.length : Int) 0) = some (r1, r2) := by first | (rw [hy232]; with_reducible exact H) | (have H2_ := (Option.bind_some _ _).symm.trans H; rw [hy232]; with_reducible exact H2_) | (have H2_ := (Option.bind_some _ _).symm.trans H; with_reducible exact H2_) | with_reducible exact H | (rw [hy232]; exact H) | exact H
      have Ny232 := Aside0.mk hy232
      clear hy232
      have H' := Aside0.mk H
      clear H
      go_wp2_with (first | ((with_reducible refine gate_dst (N := 25) rfl ?_); (try (refine gate_guard (by rfl) ?_; dsimp only)); refine Kd.R_make (Kd.int .i64) _ 2 rfl (N := 25) rfl 33 _ _ rfl (l0.length : Int) rfl rfl Try.underlying33 (.int .i64 0) 8 info2 rfl (by decide) (by omega) 0 (ok := fun _ => True) (okp := fun _ => True) rfl (fun _ hk => hk) trivial (of_decide_eq_true (by first | (with_reducible assumption) | assumption)) (Nat.le_trans (Nat.mul_le_mul_right _ (of_decide_eq_true (by first | (with_reducible assumption) | assumption) : (l0.length : Int).toNat ≤ 35184372088832)) (by omega)) (Below.refl _ _) (Nat.le_refl _) ?_; intro v233 w10 ho11 hb hg_ hnew_; clear hg_ hnew_; (first | rw [← Ny232.out] at ho11 | (simp only [Int.reduceToNat] at ho11; rw [← Ny232.out] at ho11)); have n0_ := Aside0.mk (Kd.R_lower ho11 (below_size (by repeat (first | (with_reducible first | exact HB.out | apply below_alloc | apply pw_below_drewN | apply below_drew1) | exact HB.out)))); have n1_ := Aside0.mk (below_step (by repeat (first | (with_reducible first | exact HB.out | apply below_alloc | apply pw_below_drewN | apply below_drew1) | exact HB.out)) hb); clear HB; have HO234 := n0_; have HB := n1_; clear n0_ n1_; clear hb ho11))
      go_loopg [28] kj2 (fun kq v28 w' => ∃ (x6_2 : List Int) (x28_2 : Int), v28 = .int .i64 x28_2 ∧ Aside0 (matrix_Apply.l0 kq l1 x6_2 l0 (l0.length : Int) x28_2 = some (r1, r2)) ∧ Aside0 (kq ≤ kj2) ∧ Aside0 (Kd.R (Kd.int .i64) 2 w' w.heap.size (fun _ => True) v233 x6_2) ∧ Aside0 (Below w.heap.size w w'))
      case atStart => exact ⟨(y232), (0), (by first | rfl | (simp; done) | (simp [*]; done)), H', ⟨Nat.le_refl _⟩, ⟨by (with_reducible repeat (first | apply Kd.R_alloc | apply Kd.R_drewN | apply Kd.R_drew)); exact HO234.out⟩, ⟨by repeat (first | (with_reducible first | exact HB.out | apply below_alloc | apply pw_below_drewN | apply below_drew1) | exact HB.out)⟩⟩
      case round =>
       clear H'
       try clear c1
       try clear c2
       try clear p2
       try clear q2
       try clear hx2
       try clear qi2
       try clear c5
       try clear c6
       try clear c6b0
       try clear c6b1
       try clear c7
       try clear c8
       try clear c8b0
       try clear c8b1
       try clear c9
       try clear c9b0
       try clear c9b1
       try clear hx231_0
       try clear p2
       try clear p231
       try clear q2
       try clear q231
       obtain ⟨x6_2, x28_2, rfl, HA, HK2, HO_6, HB⟩ := hrel
       cases gk with
       | zero => exact absurd HA.out (by simp [matrix_Apply.l0])
       | succ k2 =>
        have H := HA.out
        clear HA
        simp only [matrix_Apply.l0] at H
        by_cases c12 : x28_2 < (l0.length : Int)
        ·
         rw [if_pos c12] at H
         have c12b0 : decide (x28_2 < (l0.length : Int)) = true := decide_eq_true c12
         clear c12
         by_cases c13 : 0 ≤ x28_2
         ·
          rw [if_pos c13] at H
          have c13b0 : decide (0 ≤ x28_2) = true := decide_eq_true c13
          clear c13
          by_cases c14 : x28_2 < (l0.length : Int)
          ·
           rw [if_pos c14] at H
           have c14b0 : decide (x28_2 < (l0.length : Int)) = true := decide_eq_true c14
           clear c14
           replace H := Option.bind_eq_some_iff.mp H
           obtain ⟨⟨t236, t237⟩, A150, H⟩ := H
           replace H : (if t237 = 0 then (if x28_2 < (x6_2.length : Int) then (matrix_Apply.l0 k2 l1 (x6_2.set (x28_2 : Int).toNat t236) l0 (l0.length : Int) (wrap64 (x28_2 + 1))) else (none)) else (some (([] : List Int), t237))) = some (r1, r2) := H
           have A15 := Aside0.mk A150
           clear A150
           by_cases c16 : t237 = 0
           ·
            rw [if_pos c16] at H
            have c16b0 : (t237 == 0) = true := beq_iff_eq.mpr c16
            have c16b1 : (t237 != 0) = false := bne_eq_false_iff_eq.mpr c16
            clear c16
            by_cases c17 : x28_2 < (x6_2.length : Int)
            ·
             rw [if_pos c17] at H
             have c17b0 : decide (x28_2 < (x6_2.length : Int)) = true := decide_eq_true c17
             clear c17
             obtain ⟨y238, hy238⟩ : ∃ y_ : List Int, y_ = (x6_2.set (x28_2 : Int).toNat t236) := ⟨_, rfl⟩
             replace H : (matrix_Apply.l0 k2 l1 y238 l0 (l0.length : Int) (wrap64 (x28_2 + 1))) = some (r1, r2) := by first | (rw [hy238]; with_reducible exact H) | (have H2_ := (Option.bind_some _ _).symm.trans H; rw [hy238]; with_reducible exact H2_) | (have H2_ := (Option.bind_some _ _).symm.trans H; with_reducible exact H2_) | with_reducible exact H | (rw [hy238]; exact H) | exact H
             have Ny238 := Aside0.mk hy238
             clear hy238
             have H' := Aside0.mk H
             clear H
             have p235 : 0 ≤ (x28_2 : Int) := of_decide_eq_true (by first | (with_reducible assumption) | assumption)
             have q235 : x28_2 < (l0.length : Int) := of_decide_eq_true (by first | (with_reducible assumption) | assumption)
             obtain ⟨ad235, A235_0, c235_0, e235, hx235_0, hl235_0, hi235_0⟩ := at_L1 HR0.out x28_2 p235 q235
             cases e235
             replace hx235_0 := (HB.out.cell (World.block_lt_of_cell? w _ hx235_0)).trans hx235_0
             have HR235_0 := Aside0.mk hi235_0
             have HC235_0 := Aside0.mk hl235_0
             clear hi235_0 hl235_0
             replace p235 := eq_true p235
             replace q235 := eq_true q235
             go_wp2_with (first | ((with_reducible refine gate_callee (f := 36) rfl ?_); refine goesL_ (some 36) rfl rfl Try.func36 (by kernel_rfl) rfl #[.slice A235_0 (rd_L1 l0 x28_2).length c235_0, .slice A1 l1.length c1] rfl (by (try simp only [List.map_toArray, List.map_cons, List.map_nil]); first | done | rfl | (simp only [List.length_drop, List.length_take]; rfl)) ?_; (with_reducible refine (vector_Dot.calls k2 _ _ (rd_L1 l0 x28_2) _ _ l1 t236 t237 _ ?side1 ?side2 ?side3 ?side4 A15.out).mono ?_); (case side1 => repeat (first | exact (Kd.C_below HR235_0.out HB.out) | (with_reducible refine Kd.C_alloc ?_ _) | (with_reducible refine Kd.C_drewN ?_ _) | (with_reducible refine Kd.C_drew ?_))); (case side2 => exact HC235_0.out); (case side3 => repeat (first | exact (Kd.C_below HR1.out HB.out) | (with_reducible refine Kd.C_alloc ?_ _) | (with_reducible refine Kd.C_drewN ?_ _) | (with_reducible refine Kd.C_drew ?_))); (case side4 => exact HC1.out); rintro e w19 ⟨rfl, hb⟩; refine ⟨_, rfl, ?_⟩; have n0_ := Aside0.mk (Kd.R_below (by (with_reducible repeat (first | apply Kd.R_alloc | apply Kd.R_drewN | apply Kd.R_drew)); exact HO_6.out) hb); have n1_ := Aside0.mk (below_step (by repeat (first | (with_reducible first | exact HB.out | apply below_alloc | apply pw_below_drewN | apply below_drew1) | exact HB.out)) hb); clear HO_6; clear HB; have HO_6 := n0_; have HB := n1_; clear n0_ n1_; (try clear hb); (try clear hb2); (try clear hk); (try clear hi); have p18 : 0 ≤ (x28_2 : Int) := of_decide_eq_true (by first | (with_reducible assumption) | assumption); have q18 : (x28_2 : Int) < ((x6_2.length : Int) : Int) := of_decide_eq_true (by first | (with_reducible assumption) | assumption); obtain ⟨go18, co18, eo18, gb18, gl18, cl18, HG18⟩ := Kd.R_form HO_6.out (by omega); (first | cases eo18 | (injection eo18 with ea_ en_ ec_; (first | subst ea_ | (injection ea_ with ea_; subst ea_)); subst ec_; clear en_)); have GB18 := Aside0.mk gb18; have GG18 := Aside0.mk HG18; clear gb18 gl18 HG18; obtain ⟨hx18_0, hf18_0⟩ := Kd.R_celln 0 HO_6.out (x28_2 : Int) p18 q18; replace p18 := eq_true p18; replace q18 := eq_true q18; obtain ⟨hy20_, hz20_⟩ := Kd.R_celln 0 HO_6.out (x28_2 : Int) (of_decide_eq_true (by first | (with_reducible assumption) | assumption)) (of_decide_eq_true (by first | (with_reducible assumption) | assumption)); have HP20 := Kd.R_putg HO_6.out (x28_2 : Int) t236) | ((with_reducible refine gate_store (t := 2) (p := 45) rfl ?_); refine store_event (t := 2) (p := 45) (v := ?vo_w21) (w1 := (w19.setCell ⟨go18, (x28_2 : Int).toNat, none⟩ (.int .i64 t236))) ?hg ?ho ?hn ?hr ?_; (case ho => rfl); (case hg => rfl); (case hn => rfl); (case hr => first | (go_simp; done) | (go_simp; rfl)); intro w21 hw; have hg : w19.grownBy w21 (some go18) := (by rw [hw]; exact HP20.2); have hp_ : Kd.R (Kd.int .i64) 2 w21 w.heap.size (fun _ => True) (.slice (some ⟨go18, 0, none⟩) x6_2.length co18) y238 := (by rw [hw, Ny238.out]; exact HP20.1); clear HP20; have n0_ := Aside0.mk (hp_); have n1_ := Aside0.mk ((by rw [hw]; exact below_set (HB.out) GB18.out : Below w.heap.size w w21)); clear HO_6; clear HB; have HO_6 := n0_; have HB := n1_; clear n0_ n1_; clear hg hw hp_))
             go_roundg k2
             case measure => have := HJ2.out; have := HK2.out; omega
             case rel => exact ⟨(y238), (wrap64 (x28_2 + 1)), (by first | rfl | (simp; done) | (simp [*]; done)), H', ⟨by have := HJ2.out; have := HK2.out; omega⟩, ⟨by (with_reducible repeat (first | apply Kd.R_alloc | apply Kd.R_drewN | apply Kd.R_drew)); exact HO_6.out⟩, ⟨by repeat (first | (with_reducible first | exact HB.out | apply below_alloc | apply pw_below_drewN | apply below_drew1) | exact HB.out)⟩⟩
            ·
             rw [if_neg c17] at H
             exact absurd H (by simp)
           ·
            rw [if_neg c16] at H
            have c16b0 : (t237 == 0) = false := beq_eq_false_iff_ne.mpr c16
            have c16b1 : (t237 != 0) = true := bne_iff_ne.mpr c16
            simp only [Option.some.injEq, Prod.mk.injEq] at H
            obtain ⟨rfl, rfl⟩ := H
            have p235 : 0 ≤ (x28_2 : Int) := of_decide_eq_true (by first | (with_reducible assumption) | assumption)
            have q235 : x28_2 < (l0.length : Int) := of_decide_eq_true (by first | (with_reducible assumption) | assumption)
            obtain ⟨ad235, A235_0, c235_0, e235, hx235_0, hl235_0, hi235_0⟩ := at_L1 HR0.out x28_2 p235 q235
            cases e235
            replace hx235_0 := (HB.out.cell (World.block_lt_of_cell? w _ hx235_0)).trans hx235_0
            have HR235_0 := Aside0.mk hi235_0
            have HC235_0 := Aside0.mk hl235_0
            clear hi235_0 hl235_0
            replace p235 := eq_true p235
            replace q235 := eq_true q235
            go_wp2_with (first | ((with_reducible refine gate_callee (f := 36) rfl ?_); refine goesL_ (some 36) rfl rfl Try.func36 (by kernel_rfl) rfl #[.slice A235_0 (rd_L1 l0 x28_2).length c235_0, .slice A1 l1.length c1] rfl (by (try simp only [List.map_toArray, List.map_cons, List.map_nil]); first | done | rfl | (simp only [List.length_drop, List.length_take]; rfl)) ?_; (with_reducible refine (vector_Dot.calls k2 _ _ (rd_L1 l0 x28_2) _ _ l1 t236 t237 _ ?side1 ?side2 ?side3 ?side4 A15.out).mono ?_); (case side1 => repeat (first | exact (Kd.C_below HR235_0.out HB.out) | (with_reducible refine Kd.C_alloc ?_ _) | (with_reducible refine Kd.C_drewN ?_ _) | (with_reducible refine Kd.C_drew ?_))); (case side2 => exact HC235_0.out); (case side3 => repeat (first | exact (Kd.C_below HR1.out HB.out) | (with_reducible refine Kd.C_alloc ?_ _) | (with_reducible refine Kd.C_drewN ?_ _) | (with_reducible refine Kd.C_drew ?_))); (case side4 => exact HC1.out); rintro e w22 ⟨rfl, hb⟩; refine ⟨_, rfl, ?_⟩; have n0_ := Aside0.mk (Kd.R_below (by (with_reducible repeat (first | apply Kd.R_alloc | apply Kd.R_drewN | apply Kd.R_drew)); exact HO_6.out) hb); have n1_ := Aside0.mk (below_step (by repeat (first | (with_reducible first | exact HB.out | apply below_alloc | apply pw_below_drewN | apply below_drew1) | exact HB.out)) hb); clear HO_6; clear HB; have HO_6 := n0_; have HB := n1_; clear n0_ n1_; (try clear hb); (try clear hb2); (try clear hk); (try clear hi)))
            go_ret2
            exact ⟨_, by first | rfl | (simp [errW_none, errW_some] <;> rfl) | (simp [*, errW_none, errW_some] <;> rfl), by first | exact Kd.R_nil _ _ _ _ _ | exact Kd.N_nil _ _ _ _ _ | exact Kd.V_nil _ _ _ _ _ | exact Kd.Q_nil _ _ _ _ _ | exact Kd.S_nil _ _ _ _ _, by repeat (first | (with_reducible first | exact HB.out | apply below_alloc | apply pw_below_drewN | apply below_drew1) | exact HB.out)⟩
          ·
           rw [if_neg c14] at H
           exact absurd H (by simp)
         ·
          rw [if_neg c13] at H
          exact absurd H (by simp)
        ·
         rw [if_neg c12] at H
         have c12b0 : decide (x28_2 < (l0.length : Int)) = false := decide_eq_false c12
         clear c12
         simp only [Option.some.injEq, Prod.mk.injEq] at H
         obtain ⟨rfl, rfl⟩ := H
         go_wp2
         go_ret2
         exact ⟨_, by first | rfl | (simp [errW_none, errW_some] <;> rfl) | (simp [*, errW_none, errW_some] <;> rfl), by (with_reducible repeat (first | apply Kd.R_alloc | apply Kd.R_drewN | apply Kd.R_drew)); exact HO_6.out, by repeat (first | (with_reducible first | exact HB.out | apply below_alloc | apply pw_below_drewN | apply below_drew1) | exact HB.out)⟩
     ·
      rw [if_neg c9] at H
      exact absurd H (by simp)
    ·
     rw [if_neg c8] at H
     exact absurd H (by simp)

end Go.Proofs.Ytckefohfahphpaa.Z
end
section
namespace Go.Proofs.Ytckefohfahphpaa.Z
open Go.RowKit Go.Proofs.YtckefohfahphpaaW.PrintWords Go.Proofs.YtckefohfahphpaaW.PrintLast Go.Proofs.YtckefohfahphpaaW.PrintMore
attribute [local go_sem] max2_int min2_int max_two min_two max_three min_three max_four min_four   -- for this text's walks alone
set_option linter.unusedVariables false
set_option linter.unusedSimpArgs false

/-! ### matrix_Mul: function 22, by hand -/
/-- A row of the product: its elements, or the error. -/
def mul_row (k : Nat) (r : List Int) : List (List Int) → List Int → Option (List Int × Int)
 | [], acc => some (acc, 0)
 | c :: cs, acc => (vector_Dot.f k r c).bind fun q => if q.2 = 0 then mul_row k r cs (acc ++ [q.1]) else some ([], q.2)
def mul_rows (k : Nat) (t : List (List Int)) : List (List Int) → List (List Int) → Option (List (List Int) × Int)
 | [], acc => some (acc, 0)
 | r :: rs, acc => (mul_row k r t []).bind fun q => if q.2 = 0 then mul_rows k t rs (acc ++ [q.1]) else some ([], q.2)
def matrix_Mul.f (k : Nat) (a b : List (List Int)) : Option (List (List Int) × Int) :=
 (matrix_Valid.f k a).bind fun v => if v = false then some ([], 2) else (matrix_Valid.f k b).bind fun u => if u = false then some ([], 2) else
  if 0 < a.length then (if ((rd_L1 a 0).length : Int) = (b.length : Int) then (matrix_Transpose.f k b).bind fun t => if a.length ≤ 64 ∧ t.length ≤ 64 then mul_rows k t a [] else none else some ([], 2)) else none
theorem mul_row.mono (k : Nat) (r : List Int) : ∀ (cs : List (List Int)) (acc : List Int), LeO (mul_row k r cs acc) (mul_row (k + 1) r cs acc)
 | [], _ => LeO.refl _
 | c :: cs, acc => LeO.bind (vector_Dot.mono _ _ _) fun q => LeO.ite (mul_row.mono k r cs _) (LeO.refl _)
theorem mul_rows.mono (k : Nat) (t : List (List Int)) : ∀ (rs acc : List (List Int)), LeO (mul_rows k t rs acc) (mul_rows (k + 1) t rs acc)
 | [], _ => LeO.refl _
 | r :: rs, acc => LeO.bind (mul_row.mono k r t _) fun q => LeO.ite (mul_rows.mono k t rs _) (LeO.refl _)
theorem matrix_Mul.mono (a b : List (List Int)) (k : Nat) : LeO (matrix_Mul.f k a b) (matrix_Mul.f (k + 1) a b) := by
 unfold matrix_Mul.f
 refine LeO.bind (matrix_Valid.mono _ _) fun v => LeO.ite (LeO.refl _) (LeO.bind (matrix_Valid.mono _ _) fun u => LeO.ite (LeO.refl _) (LeO.ite (LeO.ite (LeO.bind (matrix_Transpose.mono _ _) fun t => LeO.ite (mul_rows.mono k t _ _) (LeO.refl _)) (LeO.refl _)) (LeO.refl _)))
theorem mul_info33 : (Try.prog.info? 33).map (fun i => (i.zero, i.size, i.bytes)) = some (some (.slice none 0 0), 1, 24) := by kernel_rfl
theorem mul_info2 : (Try.prog.info? 2).map (fun i => (i.zero, i.size, i.bytes)) = some (some (.int .i64 0), 1, 8) := by kernel_rfl
theorem mul_rows_bad {k : Nat} {t : List (List Int)} {q1 : List Int} {q2 : Int} {rs acc : List (List Int)} {r1 : List (List Int)} {r2 : Int} (h : (if q2 = 0 then mul_rows k t rs (acc ++ [q1]) else some ([], q2)) = some (r1, r2)) (hq : q2 ≠ 0) : r1 = [] ∧ r2 = q2 := by
 rw [if_neg hq] at h
 have h := Option.some.inj h
 exact ⟨(congrArg Prod.fst h).symm, (congrArg Prod.snd h).symm⟩
theorem mul_mid (A B : List (List Int)) (p q : List Int) (i : Nat) (hi : A.length = i) : rd_L1 (A ++ p :: B) (i : Int) = p ∧ (A ++ p :: B).set i q = A ++ q :: B := by
 subst hi
 constructor
 ·
  simp [rd_L1, List.getD_eq_getElem?_getD]
 ·
  simp
set_option maxHeartbeats 8000000 in
set_option maxRecDepth 100000 in
theorem matrix_Mul.calls (k : Nat) (A0 : Option Addr) (c0 : Nat) (l0 : List (List Int)) (A1 : Option Addr) (c1 : Nat) (l1 : List (List Int)) (r1 : List (List Int)) (r2 : Int) (w : World) (hr0 : Kd.C (Kd.slice 2 (Kd.int .i64)) w A0 l0.length l0) (hc0 : l0.length ≤ c0) (hr1 : Kd.C (Kd.slice 2 (Kd.int .i64)) w A1 l1.length l1) (hc1 : l1.length ≤ c1) (h : matrix_Mul.f k l0 l1 = some (r1, r2)) :
  Calls Try.prog 22 #[.slice A0 l0.length c0, .slice A1 l1.length c1] w fun e w' => ∃ v0_ : Value, e = .returned (.tuple #[v0_, .int .i64 r2]) ∧ Kd.N (Kd.slice 2 (Kd.int .i64)) 33 w' w.heap.size (fun k_ => (w.heap.size ≤ k_)) v0_ r1 ∧ Below w.heap.size w w' := by
 unfold matrix_Mul.f at h
 obtain ⟨v, hv, h⟩ := Option.bind_eq_some_iff.mp h
 have HV := Aside0.mk hv
 have HC := Aside0.mk hr0
 have HCC := Aside0.mk hc0
 have HD := Aside0.mk hr1
 have HDD := Aside0.mk hc1
 cases v with
 | false =>
  obtain ⟨rfl, rfl⟩ : ([] : List (List Int)) = r1 ∧ (2 : Int) = r2 := by simpa using h
  clear hr0 hc0 hr1 hc1 h hv
  go_enter Try.func22, Try.ntmps22
  go_wp2_with (first | (go_at_call 18; (with_reducible refine (matrix_Valid.calls k _ _ l0 false _ HC.out HCC.out HV.out).mono ?_); rintro e1 w1 ⟨rfl, ⟨nd, rfl⟩⟩))
  go_ret2
  exact ⟨_, rfl, Kd.N_nil _ _ _ _ _, pw_below_drewN (Below.refl _ _) _⟩
 | true =>
  obtain ⟨u, hu, h⟩ := Option.bind_eq_some_iff.mp (show ((matrix_Valid.f k l1).bind fun u => if u = false then some ([], 2) else if 0 < l0.length then (if ((rd_L1 l0 0).length : Int) = (l1.length : Int) then (matrix_Transpose.f k l1).bind fun t => if l0.length ≤ 64 ∧ t.length ≤ 64 then mul_rows k t l0 [] else none else some ([], 2)) else none) = some (r1, r2) by simpa using h)
  have HU := Aside0.mk hu
  cases u with
  | false =>
   obtain ⟨rfl, rfl⟩ : ([] : List (List Int)) = r1 ∧ (2 : Int) = r2 := by simpa using h
   clear hr0 hc0 hr1 hc1 h hv hu
   go_enter Try.func22, Try.ntmps22
   go_wp2_with (first | (go_at_call 18; (with_reducible refine (matrix_Valid.calls k _ _ l0 true _ HC.out HCC.out HV.out).mono ?_); rintro e1 w1 ⟨rfl, ⟨nd, rfl⟩⟩) | (go_at_call 18; (with_reducible refine (matrix_Valid.calls k _ _ l1 false _ (Kd.C_drewN HD.out _) HDD.out HU.out).mono ?_); rintro e1 w1 ⟨rfl, ⟨nd2, rfl⟩⟩))
   go_ret2
   exact ⟨_, rfl, Kd.N_nil _ _ _ _ _, by repeat (first | exact Below.refl _ _ | apply pw_below_drewN)⟩
  | true =>
   have h2 : (if 0 < l0.length then (if ((rd_L1 l0 0).length : Int) = (l1.length : Int) then (matrix_Transpose.f k l1).bind fun t => if l0.length ≤ 64 ∧ t.length ≤ 64 then mul_rows k t l0 [] else none else some ([], 2)) else none) = some (r1, r2) := by simpa using h
   clear h
   split at h2
   case isFalse => cases h2
   rename_i hp
   have hp1 : (0 : Int) < (l0.length : Int) := by omega
   obtain ⟨ad0, Ai0, ci0, ead0, hx0, hli0, hin0⟩ := at_L1 hr0 0 (by omega) hp1
   cases ead0
   rw [show ((0 : Int)).toNat = 0 from rfl, Addr.add_zero'] at hx0
   have hz0 : (0 : Int) ≤ 0 := Int.le_refl _
   have HX0 := Aside0.mk hx0
   clear hli0 hin0
   by_cases hn : ((rd_L1 l0 0).length : Int) = (l1.length : Int)
   case neg =>
    rw [if_neg hn] at h2
    obtain ⟨rfl, rfl⟩ : ([] : List (List Int)) = r1 ∧ (2 : Int) = r2 := by simpa using h2
    have hn1 : (((rd_L1 l0 0).length : Int) != (l1.length : Int)) = true := bne_iff_ne.mpr hn
    clear hr0 hc0 hr1 hc1 h2 hv hu hn
    go_enter Try.func22, Try.ntmps22
    go_wp2_with (first | (go_at_call 18; (with_reducible refine (matrix_Valid.calls k _ _ l0 true _ HC.out HCC.out HV.out).mono ?_); rintro e1 w1 ⟨rfl, ⟨nd, rfl⟩⟩) | (go_at_call 18; (with_reducible refine (matrix_Valid.calls k _ _ l1 true _ (Kd.C_drewN HD.out _) HDD.out HU.out).mono ?_); rintro e1 w1 ⟨rfl, ⟨nd2, rfl⟩⟩))
    go_ret2
    exact ⟨_, rfl, Kd.N_nil _ _ _ _ _, by repeat (first | exact Below.refl _ _ | apply pw_below_drewN)⟩
   rw [if_pos hn] at h2
   obtain ⟨t, ht, h3⟩ := Option.bind_eq_some_iff.mp h2
   split at h3
   case isFalse => cases h3
   rename_i hsz
   obtain ⟨hs1, hs2⟩ := hsz
   have HTR := Aside0.mk ht
   have HGO := Aside0.mk h3
   have hn1 : (((rd_L1 l0 0).length : Int) != (l1.length : Int)) = false := by rw [bne_eq_false_iff_eq]; exact hn
   clear hr0 hc0 hr1 hc1 h2 h3 hv hu ht hn
   have HS1 := Aside0.mk hs1
   go_enter Try.func22, Try.ntmps22
   go_wp2_with (first
    | (go_at_call 18; (with_reducible refine (matrix_Valid.calls k _ _ l0 true _ HC.out HCC.out HV.out).mono ?_); rintro e1 w1 ⟨rfl, ⟨nd, rfl⟩⟩)
    | (go_at_call 18; (with_reducible refine (matrix_Valid.calls k _ _ l1 true _ (Kd.C_drewN HD.out _) HDD.out HU.out).mono ?_); rintro e1 w1 ⟨rfl, ⟨nd2, rfl⟩⟩)
    | (go_at_call 19; (with_reducible refine (matrix_Transpose.calls k _ _ l1 t _ (by repeat (first | (with_reducible exact HD.out) | refine Kd.C_drewN ?_ _)) HDD.out HTR.out).mono ?_); rintro e1 w1 ⟨vt, rfl, ho, hb⟩; obtain ⟨At, ct, rfl⟩ := Kd.S_slice ho; have HBW := Aside0.mk (below_step (by repeat (first | exact Below.refl _ _ | apply pw_below_drewN) : Below w.heap.size w _) hb); have HT := Aside0.mk (Kd.S_reads' ho).2.2; have HTC := Aside0.mk (Kd.S_reads' ho).2.1; have HA := Aside0.mk (Kd.C_below HC.out HBW.out); clear ho hb)
    | ((with_reducible refine gate_dst (N := 35) rfl ?_); refine Kd.S_make (Kd.slice 2 (Kd.int .i64)) _ 33 rfl (N := 35) rfl 22 _ _ rfl (l0.length : Int) rfl rfl Try.underlying22 (.slice none 0 0) 24 mul_info33 rfl (by decide) (by omega) [] (ok := fun _ => True) (okp := fun _ => True) ⟨_, rfl, Kd.R_nil _ _ _ _ _⟩ (fun _ hk => hk) trivial (by omega) (by have := HS1.out; omega) (Below.refl _ _) (Nat.le_refl _) ?_; intro vo wo ho hb hg_ hnew_; clear hg_ hnew_; rw [Int.toNat_natCast] at ho; obtain ⟨go, co, eo, gb, gl, cl, hG⟩ := Kd.S_form ho (by rw [List.length_replicate]; omega); subst eo; rw [List.length_replicate] at ho; have HO := Aside0.mk ho; have HB := Aside0.mk hb; have HGB := Aside0.mk gb; clear ho hb gb gl cl hG))
   have HTL : Aside0 (t.length ≤ 64) := ⟨hs2⟩
   go_loopw [38] (fun s38 W => ∃ (i : Nat) (fin : List (List Int)), i ≤ l0.length ∧ s38 = .int .i64 (i : Int) ∧ Aside0 (fin.length = i) ∧ Aside0 (mul_rows k t (l0.drop i) fin = some (r1, r2)) ∧ Aside0 (Kd.S (Kd.slice 2 (Kd.int .i64)) 33 W w1.heap.size (fun _ => True) (.slice (some ⟨go, 0, none⟩) l0.length co) (fin ++ List.replicate (l0.length - i) [])) ∧ Aside0 (Below w1.heap.size w1 W)) (fun s38 _ => l0.length - (intOf s38).toNat)
   case atStart => exact ⟨0, [], Nat.zero_le _, rfl, ⟨rfl⟩, HGO, ⟨by simpa using HO.out⟩, HB⟩
   case round =>
    clear HO HB HGO
    obtain ⟨i, fin, hi, rfl, HFL, HGO, HO, HB⟩ := hrel
    by_cases hlt : i < l0.length
    ·
     have hlt1 : (i : Int) < (l0.length : Int) := by omega
     have hi0 : (0 : Int) ≤ (i : Int) := by omega
     have hd1 : decide ((i : Int) < (l0.length : Int)) = true := decide_eq_true hlt1
     obtain ⟨ad, Ai, ci, ead, hx, hl, hin⟩ := at_L1 HA.out (i : Int) hi0 hlt1
     cases ead
     rw [Int.toNat_natCast] at hx
     have hbx := World.block_lt_of_cell? _ _ hx
     replace hx := (HB.out.cell hbx).trans hx
     have hgo := HGO.out
     rw [drop_L1 hlt, mul_rows] at hgo
     obtain ⟨⟨q1, q2⟩, hq, hgo⟩ := Option.bind_eq_some_iff.mp hgo
     have HQ := Aside0.mk hq
     have HG2 := Aside0.mk hgo
     have HL := Aside0.mk hl
     have HIN := Aside0.mk hin
     have HO' : Aside0 (Kd.S (Kd.slice 2 (Kd.int .i64)) 33 wr w1.heap.size (fun _ => True) (.slice (some ⟨go, 0, none⟩) l0.length co) (fin ++ [] :: List.replicate (l0.length - (i + 1)) [])) := ⟨by have := HO.out; rw [show l0.length - i = (l0.length - (i + 1)) + 1 by omega, List.replicate_succ] at this; exact this⟩
     clear hl hin hgo hq HO hbx
     go_wp2_with (fail)
     go_loopw [45] (fun s45 W => ∃ (j : Nat) (acc : List Int), j ≤ t.length ∧ s45 = .int .i64 (j : Int) ∧ Aside0 (acc.length = j) ∧ Aside0 (mul_row k (rd_L1 l0 (i : Int)) (t.drop j) acc = some (q1, q2)) ∧ Aside0 (Kd.S (Kd.slice 2 (Kd.int .i64)) 33 W w1.heap.size (fun _ => True) (.slice (some ⟨go, 0, none⟩) l0.length co) (fin ++ acc :: List.replicate (l0.length - (i + 1)) [])) ∧ Aside0 (Below w1.heap.size w1 W)) (fun s45 _ => t.length - (intOf s45).toNat)
     case atStart => exact ⟨0, [], Nat.zero_le _, rfl, ⟨rfl⟩, HQ, HO', HB⟩
     case round =>
      clear HO' HB HQ hx
      obtain ⟨j, acc, hj, rfl, HAL, HQ, HO, HB⟩ := hrel
      by_cases hjt : j < t.length
      ·
       have hjt1 : (j : Int) < (t.length : Int) := by omega
       have hj0 : (0 : Int) ≤ (j : Int) := by omega
       have hjd : decide ((j : Int) < (t.length : Int)) = true := decide_eq_true hjt1
       obtain ⟨adt, Aj, cj, eadt, hxt, hlj, hinj⟩ := at_L1 HT.out (j : Int) hj0 hjt1
       cases eadt
       rw [Int.toNat_natCast] at hxt
       have hbt := World.block_lt_of_cell? _ _ hxt
       replace hxt := (HB.out.cell hbt).trans hxt
       have hq := HQ.out
       rw [drop_L1 hjt, mul_row] at hq
       obtain ⟨⟨z1, z2⟩, hz, hq⟩ := Option.bind_eq_some_iff.mp hq
       have HZ := Aside0.mk hz
       have HLJ := Aside0.mk hlj
       have HINJ := Aside0.mk hinj
       by_cases hz0 : z2 = 0
       ·
        subst hz0
        have hq1 : mul_row k (rd_L1 l0 (i : Int)) (t.drop (j + 1)) (acc ++ [z1]) = some (q1, q2) := by simpa using hq
        obtain ⟨y, hy⟩ : ∃ y, y = acc ++ [z1] := ⟨_, rfl⟩
        rw [← hy] at hq1
        have HY := Aside0.mk hy
        have HQ1 := Aside0.mk hq1
        have HMID := Aside0.mk (mul_mid fin (List.replicate (l0.length - (i + 1)) []) acc y i HFL.out)
        have HMID2 := Aside0.mk HMID.out.2
        have HYL : Aside0 (y.length = j + 1) := ⟨by rw [hy]; simp; exact HAL.out⟩
        clear hz hlj hinj hq hq1 hy hbt HQ
        go_wp2_with (first
         | (go_at_call 36; (with_reducible refine (vector_Dot.calls k _ _ (rd_L1 l0 (i : Int)) _ _ (rd_L1 t (j : Int)) z1 0 _ (Kd.C_below HIN.out HB.out) HL.out (Kd.C_below HINJ.out HB.out) HLJ.out HZ.out).mono ?_); rintro e2 w2 ⟨rfl, hb⟩; have hB := below_step HB.out hb; have hO := Kd.S_below HO.out hb; clear HB HO; have HB := Aside0.mk hB; obtain ⟨oki, ce, hcl, hM, hcc, hfz, hoki, hH⟩ := Kd.S_elem hO [] (i : Int) hi0 hlt1; rw [show (fin ++ acc :: List.replicate (l0.length - (i + 1)) []).getD (i : Int).toNat [] = acc from HMID.out.1] at hM; obtain ⟨ve, rfl, ge⟩ := hM; obtain ⟨Av, cv, rfl⟩ := Kd.R_slice ge; have hxc := hcc 0 _ rfl; rw [show ((Kd.slice 2 (Kd.int .i64))).sz = 1 from rfl, Nat.mul_one, Nat.add_zero, Int.toNat_natCast] at hxc; have HE := Aside0.mk ge; have HH := Aside0.mk hH; clear hcl hcc hfz hoki hH ge hB hO hb)
         | ((with_reducible refine gate_builtin (b := .append) (xs := #[.tmp 63, .tmp 65]) rfl ?_); at_builtin; refine Kd.R_append (Kd.int .i64) (w0 := w1) w1.heap.size rfl (.tmp 63) (.tmp 65) 33 2 (.int .i64 0) 8 rfl Try.underlying33 mul_info2 rfl (by decide) (by omega) (.slice Av acc.length cv) acc z1 [.int .i64 z1] (fun k_ => oki k_ ∨ True ∧ w2.heap.size ≤ k_) (fun _ => False) rfl rfl ?aP (fun _ hk => hk.elim) ?aF ?aO ?aB ?aS ?aL ?_; (case aP => exact rfl); (case aF => exact (fun k_ hk => .inr ⟨trivial, hk⟩)); (case aO => exact Kd.R_mono HE.out (fun _ hk => .inl hk)); (case aB => exact HB.out); (case aS => exact HB.out.size); (case aL => have := HAL.out; have := HTL.out; omega); intro v3 w3 ho hb hg hat; rw [← HY.out] at ho; have HH3 := Aside0.mk (Kd.H_grown (Kd.H_widen HH.out) hg (fun k_ e_ => .inl (HE.out.1 k_ e_))); obtain ⟨A3, c3, rfl⟩ := Kd.R_slice ho; obtain ⟨_, _, hraw, _, _, hcc3, _⟩ := Kd.H_raw HH3.out hi0 hlt1; obtain ⟨_, hfr3⟩ := Kd.H_at HH3.out hi0 hlt1; have hx3 := hcc3 0 _ rfl; have hf3 := hfr3 0; rw [show ((Kd.slice 2 (Kd.int .i64))).sz = 1 from rfl, Nat.mul_one, Nat.add_zero, Int.toNat_natCast] at hx3 hf3; have HP := Kd.S_seg0 HH3.out hi0 hlt1 (seg := [.slice A3 y.length c3]) (j := 0) (show 1 ≤ 1 from by decide) (x' := y) (Kd.M_row ho) (fun _ hk => hk); have HP1 : Aside0 (Kd.S (Kd.slice 2 (Kd.int .i64)) 33 (w3.setCell ⟨go, i, none⟩ (.slice A3 y.length c3)) w1.heap.size (fun _ => True) (.slice (some ⟨go, 0, none⟩) l0.length co) (fin ++ y :: List.replicate (l0.length - (i + 1)) [])) := ⟨by have h9 := HP.1; rw [Int.toNat_natCast, HMID2.out] at h9; rw [show ((Kd.slice 2 (Kd.int .i64))).sz = 1 from rfl, Nat.mul_one, Nat.add_zero] at h9; exact h9⟩; have HB3 := Aside0.mk hb; clear hcc3 hfr3 hraw HP ho hb hg hat HH HE hxc))
        go_roundw
        case measure => simp [intOf]; omega
        case rel => exact ⟨j + 1, y, by omega, by go_num, HYL, HQ1, HP1, ⟨HB3.out.setCell HGB.out _⟩⟩
       ·
        have hq1 : q1 = [] ∧ q2 = z2 := by
         rw [if_neg hz0] at hq
         have hq := Option.some.inj hq
         exact ⟨(congrArg Prod.fst hq).symm, (congrArg Prod.snd hq).symm⟩
        obtain ⟨rfl, rfl⟩ := hq1
        obtain ⟨rfl, rfl⟩ := mul_rows_bad HG2.out hz0
        have hzb : (r2 != 0) = true := bne_iff_ne.mpr hz0
        have hzb2 : (r2 == 0) = false := beq_eq_false_iff_ne.mpr hz0
        have HZ0 := Aside0.mk hz0
        clear hz hlj hinj hq hbt hz0 HQ
        go_wp2_with (first
         | (go_at_call 36; (with_reducible refine (vector_Dot.calls k _ _ (rd_L1 l0 (i : Int)) _ _ (rd_L1 t (j : Int)) z1 _ _ (Kd.C_below HIN.out HB.out) HL.out (Kd.C_below HINJ.out HB.out) HLJ.out HZ.out).mono ?_); rintro e2 w2 ⟨rfl, hb⟩; have hB := below_step HB.out hb; have hO := Kd.S_below HO.out hb; clear HB HO; have HB := Aside0.mk hB; clear hB hO hb))
        go_ret2
        exact ⟨_, rfl, Kd.N_nil _ _ _ _ _, below_step HBW.out HB.out⟩
      ·
       have hjd : decide ((j : Int) < (t.length : Int)) = false := decide_eq_false (by omega)
       have hq := HQ.out
       rw [List.drop_of_length_le (by omega), mul_row] at hq
       have hq := Option.some.inj hq
       have hq1 : acc = q1 := congrArg Prod.fst hq
       have hq2 : (0 : Int) = q2 := congrArg Prod.snd hq
       subst hq1
       subst hq2
       have hgo : mul_rows k t (l0.drop (i + 1)) (fin ++ [acc]) = some (r1, r2) := by simpa using HG2.out
       have HGO2 := Aside0.mk hgo
       clear hq hgo
       go_wp2_with (fail)
       go_roundw
       case measure => simp [intOf]; omega
       case rel => exact ⟨i + 1, fin ++ [acc], by omega, by go_num, ⟨by have := HFL.out; simp; omega⟩, HGO2, ⟨by simpa using HO.out⟩, HB⟩
    ·
     have hd1 : decide ((i : Int) < (l0.length : Int)) = false := decide_eq_false (by omega)
     have hgo := HGO.out
     rw [List.drop_of_length_le (by omega), mul_rows] at hgo
     have hgo := Option.some.inj hgo
     have hq1 : fin = r1 := congrArg Prod.fst hgo
     have hq2 : (0 : Int) = r2 := congrArg Prod.snd hgo
     subst hq1
     subst hq2
     have hO := HO.out
     rw [show l0.length - i = 0 by omega, List.replicate_zero, List.append_nil] at hO
     have HO2 := Aside0.mk hO
     clear hgo hO HO
     go_wp2_with (fail)
     go_ret2
     exact ⟨_, rfl, Kd.N_lower (Kd.N_mono (Kd.S_N (Kd.S_bound HO2.out)) (fun k_ hk_ => Nat.le_trans HBW.out.size hk_.2.1)) HBW.out.size, below_step HBW.out HB.out⟩

end Go.Proofs.Ytckefohfahphpaa.Z
end
