/- The machine's side: plain Lean functions for the Go functions, each with its contract. Written by a program of this session (wip/xprint.py). -/
import Derived.Test.YtckefohfahphpaaZx0
import Derived.Test.YtckefohfahphpaaZx3
import Derived.Test.YtckefohfahphpaaZx14
import Derived.Test.YtckefohfahphpaaZx18
namespace Go.Proofs.Ytckefohfahphpaa.Z
open Go.RowKit Go.Proofs.YtckefohfahphpaaW.PrintWords Go.Proofs.YtckefohfahphpaaW.PrintLast Go.Proofs.YtckefohfahphpaaW.PrintMore
attribute [local go_sem] max2_int min2_int max_two min_two max_three min_three max_four min_four   -- for this text's walks alone
set_option linter.unusedVariables false
set_option linter.unusedSimpArgs false

/-! ### matrix_Kernel: function 9, by hand -/
def kern_go (k : Nat) (rows : List (List Int)) (cols : List Int) (size : Nat) : Nat → Nat → Nat → List (List Int) → Option (List (List Int) × Int)
  | 0, _, _, out => some (out, 0)
  | d + 1, f, nx, out => if nx < cols.length ∧ rd cols nx = (f : Int) then kern_go k rows cols size d (f + 1) (nx + 1) out else
      (table_solution.f k rows cols f size).bind fun s => if s.2 = 0 then kern_go k rows cols size d (f + 1) nx (out ++ [s.1]) else some ([], s.2)
def matrix_Kernel.f (k : Nat) (a : List (List Int)) : Option (List (List Int) × Int) := (matrix_Valid.f k a).bind fun v => if v = true then (matrix_reduce.f k a).bind fun r => if r.2 = 0 then kern_go k r.1.1 r.1.2 (rd_L1 a 0).length (rd_L1 a 0).length 0 0 [] else some ([], r.2) else some ([], 2)
theorem reduce_guard {k : Nat} {a : List (List Int)} {r : (List (List Int) × List Int) × Int} (h : matrix_reduce.f k a = some r) : 0 < a.length ∧ ∀ r ∈ a, r.length ≤ 1000000 := by
  unfold matrix_reduce.f at h
  split at h
  case isFalse => cases h
  rename_i h0
  exact ⟨h0.1, h0.2.2⟩
set_option maxHeartbeats 2000000 in
set_option maxRecDepth 100000 in
theorem matrix_Kernel.calls (k : Nat) (A0 : Option Addr) (c0 : Nat) (l0 : List (List Int)) (r1 : List (List Int)) (r2 : Int) (w : World) (hr0 : Kd.C (Kd.slice 2 (Kd.int .i64)) w A0 l0.length l0) (hc0 : l0.length ≤ c0) (h : matrix_Kernel.f k l0 = some (r1, r2)) :
    Calls Try.prog 9 #[.slice A0 l0.length c0] w fun e w' => ∃ v0_ : Value, e = .returned (.tuple #[v0_, .int .i64 r2]) ∧ Kd.N (Kd.slice 2 (Kd.int .i64)) 33 w' w.heap.size (fun k_ => (w.heap.size ≤ k_)) v0_ r1 ∧ Below w.heap.size w w' := by
  unfold matrix_Kernel.f at h
  obtain ⟨v, hv, h⟩ := Option.bind_eq_some_iff.mp h
  have HV := Aside0.mk hv
  have HR := Aside0.mk hr0
  have HC := Aside0.mk hc0
  cases v
  · have hE : ([] : List (List Int)) = r1 ∧ (2 : Int) = r2 := by simpa using h
    obtain ⟨rfl, rfl⟩ := hE
    clear hr0 hc0 h hv
    go_enter Try.func9, Try.ntmps9
    go_wp2_with (fail)
    refine (matrix_Valid.calls k _ _ l0 false _ HR.out HC.out HV.out).mono ?_
    rintro e w1 ⟨rfl, hd⟩
    have HD := Aside0.mk hd
    clear hd
    go_wp2
    go_ret2
    exact ⟨_, rfl, Kd.N_nil _ _ _ _ _, HD.out.below⟩
  · simp only [if_true] at h
    obtain ⟨⟨⟨rows, cols⟩, e2⟩, hred, h⟩ := Option.bind_eq_some_iff.mp h
    have HRED := Aside0.mk hred
    obtain ⟨hpos, hbnd⟩ := reduce_guard hred
    have hlb : (rd_L1 l0 0).length ≤ 1000000 := hbnd _ (rd_L1_mem (i := 0) hpos)
    by_cases he : e2 = 0
    · subst he
      simp only [if_true] at h
      have HGO := Aside0.mk h
      obtain ⟨ad0, A1, c1, ead, hx0, hl0, hin0⟩ := at_L1 hr0 0 (by omega) (by omega)
      cases ead
      rw [show ((0 : Int)).toNat = 0 from rfl, Addr.add_zero'] at hx0
      have HX0 := Aside0.mk hx0
      have hlen0 : (0 : Int) < (l0.length : Int) := by omega
      have hz0 : (0 : Int) ≤ 0 := Int.le_refl _
      clear hr0 hc0 h hv hred hx0 hl0 hin0 hbnd
      go_enter Try.func9, Try.ntmps9
      go_wp2_with (fail)
      refine (matrix_Valid.calls k _ _ l0 true _ HR.out HC.out HV.out).mono ?_
      rintro e w1 ⟨rfl, hd⟩
      have HD := Aside0.mk hd.below
      clear hd
      go_wp2_with (fail)
      refine (matrix_reduce.calls k _ _ l0 rows cols 0 _ (Kd.C_below HR.out HD.out) HC.out HRED.out).mono ?_
      rintro e3 w3 ⟨p, rfl, hB, hz⟩
      obtain ⟨cv, rv, rfl, hT⟩ := hz rfl
      have HB := Aside0.mk (below_step HD.out hB)
      have HT := Aside0.mk hT
      obtain ⟨Ac, cc, rfl⟩ := Kd.R_slice hT.col
      have hx3 := (HB.out.cell (World.block_lt_of_cell? _ _ HX0.out)).trans HX0.out
      have HX3 := Aside0.mk hx3
      obtain ⟨_, _, hCc⟩ := Kd.R_reads' hT.col
      have HCC := Aside0.mk hCc
      clear hB hz hT hCc
      go_wp2
      go_loopw [6, 7, 26] (fun s6 s7 s26 W => ∃ (f nx : Nat) (out : List (List Int)) (A : Option Addr) (cp : Nat), f ≤ (rd_L1 l0 0).length ∧ nx ≤ f ∧ s6 = .slice A out.length cp ∧ s7 = .int .i64 (nx : Int) ∧ s26 = .int .i64 (f : Int) ∧ Aside0 (out.length ≤ f) ∧ Aside0 (kern_go k rows cols (rd_L1 l0 0).length ((rd_L1 l0 0).length - f) f nx out = some (r1, r2)) ∧ Aside0 (Kd.R (Kd.slice 2 (Kd.int .i64)) 33 W w3.heap.size (fun _ => True) (.slice A out.length cp) out) ∧ Aside0 (Below w3.heap.size w3 W)) (fun s6 s7 s26 _ => (rd_L1 l0 0).length - (intOf s26).toNat)
      case atStart => exact ⟨0, 0, [], none, 0, Nat.zero_le _, Nat.le_refl _, rfl, rfl, rfl, ⟨Nat.le_refl _⟩, HGO, ⟨Kd.R_nil _ _ _ _ _⟩, ⟨Below.refl _ _⟩⟩
      case round =>
        obtain ⟨f, nx, out, A, cp, hf, hnx, rfl, rfl, rfl, HLO, HK, HO, HBW⟩ := hrel
        clear hx3
        by_cases hlt : f < (rd_L1 l0 0).length
        · have hlt1 : (f : Int) < ((rd_L1 l0 0).length : Int) := by omega
          have hd1 : decide ((f : Int) < ((rd_L1 l0 0).length : Int)) = true := decide_eq_true hlt1
          have hk := HK.out
          rw [show (rd_L1 l0 0).length - f = ((rd_L1 l0 0).length - (f + 1)) + 1 by omega, kern_go] at hk
          have HTW := Aside0.mk (HT.out.below HBW.out)
          have hc0 := HTW.out.c0
          have hx3 := (HBW.out.cell (World.block_lt_of_cell? _ _ HX3.out)).trans HX3.out
          by_cases hn : nx < cols.length
          · have hn1 : (nx : Int) < (cols.length : Int) := by omega
            have hdn : decide ((nx : Int) < (cols.length : Int)) = true := decide_eq_true hn1
            obtain ⟨ac, eac, hxc⟩ := Kd.at_int HCC.out (nx : Int) (by omega) hn1
            cases eac
            rw [Int.toNat_natCast] at hxc
            replace hxc := (HBW.out.cell (World.block_lt_of_cell? _ _ hxc)).trans hxc
            by_cases hm : rd cols (nx : Int) = (f : Int)
            · rw [if_pos ⟨hn, hm⟩] at hk
              have HK2 := Aside0.mk hk
              have hm1 : (rd cols (nx : Int) == (f : Int)) = true := beq_iff_eq.mpr hm
              clear hk HK hm
              go_wp2_with (fail)
              refine (pivots_rank.calls _ _ cols.length cc _ hc0).mono ?_
              rintro e5 w5 ⟨rfl, hw⟩
              have hw := hw.symm
              subst hw
              go_wp2
              go_roundw
              case measure => simp [intOf]; omega
              case rel => exact ⟨f + 1, nx + 1, out, A, cp, by omega, by omega, rfl, by go_num, by go_num, ⟨by have := HLO.out; omega⟩, HK2, HO, HBW⟩
            · rw [if_neg (fun h => hm h.2)] at hk
              have hm1 : (rd cols (nx : Int) == (f : Int)) = false := beq_eq_false_iff_ne.mpr hm
              clear hm
              obtain ⟨⟨s1, s2⟩, hsol, hk⟩ := Option.bind_eq_some_iff.mp hk
              have HSOL := Aside0.mk hsol
              have HK2 := Aside0.mk hk
              clear hk HK hsol
              go_wp2_with (fail)
              refine (pivots_rank.calls _ _ cols.length cc _ hc0).mono ?_
              rintro e5 w5 ⟨rfl, hw⟩
              have hw := hw.symm
              subst hw
              go_wp2_with (fail)
              refine (table_solution.calls k (f : Int) ((rd_L1 l0 0).length : Int) _ _ cols rows _ _ s1 s2 _ HTW.out HSOL.out).mono ?_
              rintro e7 w7 ⟨v7, rfl, hR7, hb7⟩
              obtain ⟨A7, c7, rfl⟩ := Kd.R_slice hR7
              have HO7 := Aside0.mk (Kd.R_below HO.out hb7)
              have HR7 := Aside0.mk (Kd.R_lower hR7 HBW.out.size)
              have HB7 := Aside0.mk (below_step HBW.out hb7)
              clear hR7 hb7 hc0 hx3 hxc
              by_cases hs2 : s2 = 0
              · subst hs2
                have HK3 : Aside0 (kern_go k rows cols (rd_L1 l0 0).length ((rd_L1 l0 0).length - (f + 1)) (f + 1) nx (out ++ [s1]) = some (r1, r2)) := ⟨by simpa using HK2.out⟩
                have hlo := HLO.out
                go_wp2_with (first | ((with_reducible refine gate_builtin (b := .append) (xs := #[.tmp 62, .tmp 64]) rfl ?_); at_builtin; refine Kd.R_append (Kd.slice 2 (Kd.int .i64)) (w0 := w3) w3.heap.size rfl (.tmp 62) (.tmp 64) 22 33 (.slice none 0 0) 24 rfl Try.underlying22 tinfo33 rfl (by decide) (by omega) (.slice A out.length cp) out s1 [.slice A7 s1.length c7] (fun _ => True) (fun k => True ∧ some k ≠ (Value.slice A out.length cp).ownBlock) rfl rfl ?aP (fun _ hk => hk) ?aF ?aO ?aB ?aS ?aL ?_; (case aP => exact ⟨_, rfl, Kd.R_apart' HR7.out (Kd.R_typed HO7.out) (by intro q hq; simp [Kd.int, Kd.scalar] at hq; omega)⟩); (case aB => exact HB7.out); (case aF => exact (fun _ _ => trivial)); (case aO => exact HO7.out); (case aS => exact HB7.out.size); (case aL => omega); intro v8 w8 ho hb hg hat; obtain ⟨A8, c8, rfl⟩ := Kd.R_slice ho; have HO8 := Aside0.mk ho; have HB8 := Aside0.mk hb; clear ho hb hg hat))
                go_roundw
                case measure => simp [intOf]; omega
                case rel =>
                  have ho8 := HO8.out
                  have hl8 : (out ++ [s1]).length = out.length + 1 := by simp
                  exact ⟨f + 1, nx, out ++ [s1], A8, c8, by omega, by omega, by rw [hl8], rfl, by go_num, ⟨by rw [hl8]; omega⟩, HK3, HO8, HB8⟩
              · have hk := HK2.out
                rw [if_neg hs2] at hk
                have hs3 : (s2 == 0) = false := beq_eq_false_iff_ne.mpr hs2
                have hs4 : (s2 != 0) = true := bne_iff_ne.mpr hs2
                cases hk
                go_wp2
                go_ret2
                exact ⟨_, rfl, Kd.N_nil _ _ _ _ _, HB.out.trans (HB7.out.mono HB.out.size)⟩
          · rw [if_neg (fun h => hn h.1)] at hk
            have hdn : decide ((nx : Int) < (cols.length : Int)) = false := decide_eq_false (by omega)
            have hdn2 : decide (nx < cols.length) = false := decide_eq_false hn
            have hdn3 : ¬ ((nx : Int) < (cols.length : Int)) := by omega
            have hdn4 : (cols.length : Int) ≤ (nx : Int) := by omega
            obtain ⟨⟨s1, s2⟩, hsol, hk⟩ := Option.bind_eq_some_iff.mp hk
            have HSOL := Aside0.mk hsol
            have HK2 := Aside0.mk hk
            clear hk HK hsol
            go_wp2_with (fail)
            refine (pivots_rank.calls _ _ cols.length cc _ hc0).mono ?_
            rintro e5 w5 ⟨rfl, hw⟩
            have hw := hw.symm
            subst hw
            go_wp2_with (fail)
            refine (table_solution.calls k (f : Int) ((rd_L1 l0 0).length : Int) _ _ cols rows _ _ s1 s2 _ HTW.out HSOL.out).mono ?_
            rintro e7 w7 ⟨v7, rfl, hR7, hb7⟩
            obtain ⟨A7, c7, rfl⟩ := Kd.R_slice hR7
            have HO7 := Aside0.mk (Kd.R_below HO.out hb7)
            have HR7 := Aside0.mk (Kd.R_lower hR7 HBW.out.size)
            have HB7 := Aside0.mk (below_step HBW.out hb7)
            clear hR7 hb7 hc0 hx3
            by_cases hs2 : s2 = 0
            · subst hs2
              have HK3 : Aside0 (kern_go k rows cols (rd_L1 l0 0).length ((rd_L1 l0 0).length - (f + 1)) (f + 1) nx (out ++ [s1]) = some (r1, r2)) := ⟨by simpa using HK2.out⟩
              have hlo := HLO.out
              go_wp2_with (first | ((with_reducible refine gate_builtin (b := .append) (xs := #[.tmp 62, .tmp 64]) rfl ?_); at_builtin; refine Kd.R_append (Kd.slice 2 (Kd.int .i64)) (w0 := w3) w3.heap.size rfl (.tmp 62) (.tmp 64) 22 33 (.slice none 0 0) 24 rfl Try.underlying22 tinfo33 rfl (by decide) (by omega) (.slice A out.length cp) out s1 [.slice A7 s1.length c7] (fun _ => True) (fun k => True ∧ some k ≠ (Value.slice A out.length cp).ownBlock) rfl rfl ?aP (fun _ hk => hk) ?aF ?aO ?aB ?aS ?aL ?_; (case aP => exact ⟨_, rfl, Kd.R_apart' HR7.out (Kd.R_typed HO7.out) (by intro q hq; simp [Kd.int, Kd.scalar] at hq; omega)⟩); (case aB => exact HB7.out); (case aF => exact (fun _ _ => trivial)); (case aO => exact HO7.out); (case aS => exact HB7.out.size); (case aL => omega); intro v8 w8 ho hb hg hat; obtain ⟨A8, c8, rfl⟩ := Kd.R_slice ho; have HO8 := Aside0.mk ho; have HB8 := Aside0.mk hb; clear ho hb hg hat))
              go_roundw
              case measure => simp [intOf]; omega
              case rel =>
                have ho8 := HO8.out
                have hl8 : (out ++ [s1]).length = out.length + 1 := by simp
                exact ⟨f + 1, nx, out ++ [s1], A8, c8, by omega, by omega, by rw [hl8], rfl, by go_num, ⟨by rw [hl8]; omega⟩, HK3, HO8, HB8⟩
            · have hk := HK2.out
              rw [if_neg hs2] at hk
              have hs3 : (s2 == 0) = false := beq_eq_false_iff_ne.mpr hs2
              have hs4 : (s2 != 0) = true := bne_iff_ne.mpr hs2
              cases hk
              go_wp2
              go_ret2
              exact ⟨_, rfl, Kd.N_nil _ _ _ _ _, HB.out.trans (HB7.out.mono HB.out.size)⟩
        · obtain rfl : f = (rd_L1 l0 0).length := by omega
          have hk := HK.out
          rw [Nat.sub_self, kern_go] at hk
          cases hk
          clear HK hlt
          go_wp2
          go_ret2
          exact ⟨_, rfl, Kd.R_N (Kd.R_mono (Kd.R_lower (Kd.R_bound HO.out) HB.out.size) (fun k hk => Nat.le_trans HB.out.size hk.2.1)), HB.out.trans (HBW.out.mono HB.out.size)⟩
    · rw [if_neg he] at h
      obtain ⟨rfl, rfl⟩ : ([] : List (List Int)) = r1 ∧ e2 = r2 := by simpa using h
      have he3 : (e2 == 0) = false := beq_eq_false_iff_ne.mpr he
      have he4 : (e2 != 0) = true := bne_iff_ne.mpr he
      clear hr0 hc0 h hv hred hbnd
      go_enter Try.func9, Try.ntmps9
      go_wp2_with (fail)
      refine (matrix_Valid.calls k _ _ l0 true _ HR.out HC.out HV.out).mono ?_
      rintro e w1 ⟨rfl, hd⟩
      have HD := Aside0.mk hd.below
      clear hd
      go_wp2_with (fail)
      refine (matrix_reduce.calls k _ _ l0 _ _ e2 _ (Kd.C_below HR.out HD.out) HC.out HRED.out).mono ?_
      rintro e3 w3 ⟨p, rfl, hB, hz⟩
      have HB := Aside0.mk (below_step HD.out hB)
      clear hB hz
      go_wp2
      go_ret2
      exact ⟨_, rfl, Kd.N_nil _ _ _ _ _, HB.out⟩
theorem kern_go.mono (k : Nat) (rows : List (List Int)) (cols : List Int) (size : Nat) : ∀ (d f nx : Nat) (out : List (List Int)), LeO (kern_go k rows cols size d f nx out) (kern_go (k + 1) rows cols size d f nx out)
  | 0, _, _, _ => LeO.refl _
  | d + 1, f, nx, out => by
    rw [kern_go, kern_go]
    exact LeO.ite (kern_go.mono k rows cols size d _ _ _) (LeO.bind (table_solution.mono _ _ _ _ _) (fun s => LeO.ite (kern_go.mono k rows cols size d _ _ _) (LeO.refl _)))
theorem matrix_Kernel.mono (a : List (List Int)) (k : Nat) : LeO (matrix_Kernel.f k a) (matrix_Kernel.f (k + 1) a) := by
  unfold matrix_Kernel.f
  exact LeO.bind (matrix_Valid.mono _ _) (fun _ => LeO.ite (LeO.bind (matrix_reduce.mono _ _) (fun _ => LeO.ite (kern_go.mono k _ _ _ _ _ _ _) (LeO.refl _))) (LeO.refl _))

end Go.Proofs.Ytckefohfahphpaa.Z
