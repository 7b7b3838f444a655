/- The machine's side: plain Lean functions for the Go functions, each with its contract. Written by a program of this session (wip/xprint.py). -/
import Derived.Test.YtckefohfahphpaaZx0
import Derived.Test.YtckefohfahphpaaZx1
import Derived.Test.YtckefohfahphpaaZx7
import Derived.Test.YtckefohfahphpaaZx8
import Derived.Test.YtckefohfahphpaaZx14
import Derived.Test.YtckefohfahphpaaZx16
import Derived.Test.YtckefohfahphpaaZx17
namespace Go.Proofs.Ytckefohfahphpaa.Z
open Go.RowKit Go.Proofs.YtckefohfahphpaaW.PrintWords Go.Proofs.YtckefohfahphpaaW.PrintLast Go.Proofs.YtckefohfahphpaaW.PrintMore
attribute [local go_sem] max2_int min2_int max_two min_two max_three min_three max_four min_four   -- for this text's walks alone
set_option linter.unusedVariables false
set_option linter.unusedSimpArgs false

/-! ### matrix_table_solution: function 28, by hand -/
def sol_scale (k : Nat) (rows : List (List Int)) (f : Int) : List Int → Nat → Int → Option (Option Int)
  | [], _, s => some (some s)
  | c :: cs, i, s => if i < rows.length ∧ 0 ≤ c ∧ c < ((rd_L1 rows i).length : Int) ∧ 0 ≤ f ∧ f < ((rd_L1 rows i).length : Int) then
      (safeint_Gcd.f (rd (rd_L1 rows i) c) (rd (rd_L1 rows i) f)).bind fun g => if g.2 = true then (if g.1 = 0 then none else
        (safeint_Lcm.f k s (wrap64 (Int.tdiv (rd (rd_L1 rows i) c) g.1))).bind fun q => if q.2 = true then sol_scale k rows f cs (i + 1) q.1 else some none) else some none else none
def sol_fill (rows : List (List Int)) (f scale : Int) : List Int → Nat → List Int → Option (Option (List Int))
  | [], _, out => some (some out)
  | c :: cs, i, out => if i < rows.length ∧ 0 ≤ c ∧ c < ((rd_L1 rows i).length : Int) ∧ 0 ≤ f ∧ f < ((rd_L1 rows i).length : Int) ∧ c < (out.length : Int) then
      (safeint_Gcd.f (rd (rd_L1 rows i) c) (rd (rd_L1 rows i) f)).bind fun g => if g.1 = 0 then none else if wrap64 (Int.tdiv (rd (rd_L1 rows i) c) g.1) = 0 then none else
        (safeint_Mul.f (wrap64 (-(wrap64 (Int.tdiv (rd (rd_L1 rows i) f) g.1)))) (wrap64 (Int.tdiv scale (wrap64 (Int.tdiv (rd (rd_L1 rows i) c) g.1))))).bind fun v => if v.2 = true then sol_fill rows f scale cs (i + 1) (out.set c.toNat v.1) else some none else none
def table_solution.f (k : Nat) (rows : List (List Int)) (cols : List Int) (f size : Int) : Option (List Int × Int) :=
  if 0 ≤ f ∧ f < size ∧ size ≤ 1000000 ∧ cols.length ≤ 1000000 then (sol_scale k rows f cols 0 1).bind fun s => match s with
    | none => some ([], 3)
    | some s => (sol_fill rows f s cols 0 ((List.replicate size.toNat 0).set f.toNat s)).bind fun o => match o with
      | none => some ([], 3)
      | some o => vector_Prim.f k o
  else none
theorem drop_rd1 {l : List Int} {i : Nat} (h : i < l.length) : l.drop i = rd l (i : Int) :: l.drop (i + 1) := by
  rw [List.drop_eq_getElem_cons h]
  simp [rd, List.getD_eq_getElem?_getD, h]
set_option maxHeartbeats 2000000 in
set_option maxRecDepth 100000 in
theorem table_solution.calls (k : Nat) (f size : Int) (base g : Nat) (cols : List Int) (rows : List (List Int)) (cv rv : Value) (out : List Int) (e : Int) (w : World) (hT : TB w base g cols rows cv rv) (h : table_solution.f k rows cols f size = some (out, e)) :
    Calls Try.prog 28 #[.pointer (some ⟨g, 0, none⟩), .int .i64 f, .int .i64 size] w fun e' w' => ∃ v0_ : Value, e' = .returned (.tuple #[v0_, .int .i64 e]) ∧ Kd.R (Kd.int .i64) 2 w' w.heap.size (fun _ => True) v0_ out ∧ Below w.heap.size w w' := by
  unfold table_solution.f at h
  split at h
  case isFalse => cases h
  rename_i hb
  obtain ⟨hf0, hf1, hsz, hcl⟩ := hb
  obtain ⟨s0, hsc, h⟩ := Option.bind_eq_some_iff.mp h
  obtain ⟨Ac, cc, rfl⟩ := Kd.R_slice hT.col
  obtain ⟨Ar, cr, rfl⟩ := Kd.R_slice hT.row
  obtain ⟨_, _, hCc⟩ := Kd.R_reads' hT.col
  obtain ⟨_, _, hCr⟩ := Kd.R_reads' hT.row
  have HT := Aside0.mk hT
  have HSC := Aside0.mk hsc
  have HH := Aside0.mk h
  have HCC := Aside0.mk hCc
  have HCR := Aside0.mk hCr
  have HCL := Aside0.mk hcl
  have hc0 := hT.c0
  have hbg : g < w.heap.size := hT.lt
  have HC1 := Aside0.mk hT.c1
  clear hT hsc h hCc hCr hcl
  go_enter Try.func28, Try.ntmps28
  go_wp2
  go_loopw [8, 28] (fun s8 s28 W => ∃ (i : Nat) (s : Int), i ≤ cols.length ∧ s8 = .int .i64 s ∧ s28 = .int .i64 (i : Int) ∧ Aside0 (sol_scale k rows f (cols.drop i) i s = some s0) ∧ Aside0 (Below w.heap.size w W)) (fun s8 s28 _ => cols.length - (intOf s28).toNat)
  case atStart => exact ⟨0, 1, Nat.zero_le _, rfl, rfl, HSC, ⟨Below.refl _ _⟩⟩
  case round =>
    obtain ⟨i, s, hi, rfl, rfl, HS, HB⟩ := hrel
    by_cases hlt : i < cols.length
    · have hlt1 : (i : Int) < (cols.length : Int) := by omega
      have hd1 : decide ((i : Int) < (cols.length : Int)) = true := decide_eq_true hlt1
      have hclb : cols.length ≤ 1000000 := HCL.out
      have hs := HS.out
      rw [drop_rd1 hlt, sol_scale] at hs
      by_cases hcc : i < rows.length ∧ 0 ≤ rd cols (i : Int) ∧ rd cols (i : Int) < ((rd_L1 rows i).length : Int) ∧ 0 ≤ f ∧ f < ((rd_L1 rows i).length : Int)
      case neg => rw [if_neg hcc] at hs; cases hs
      rw [if_pos hcc] at hs
      obtain ⟨hir, hc1', hc2', hf1', hf2'⟩ := hcc
      have hir1 : (i : Int) < (rows.length : Int) := by omega
      have hX1 := (HB.out.cell (World.block_lt_of_cell? _ _ HC1.out)).trans HC1.out
      obtain ⟨adc, eac, hxc⟩ := Kd.at_int HCC.out (i : Int) (by omega) hlt1
      cases eac
      rw [Int.toNat_natCast] at hxc
      replace hxc := (HB.out.cell (World.block_lt_of_cell? _ _ hxc)).trans hxc
      obtain ⟨adr, Aa, ca, ead, hx, hl, hin⟩ := at_L1 HCR.out (i : Int) (by omega) hir1
      cases ead
      rw [Int.toNat_natCast] at hx
      replace hx := (HB.out.cell (World.block_lt_of_cell? _ _ hx)).trans hx
      obtain ⟨aa, eaa, hx1⟩ := Kd.at_int hin (rd cols (i : Int)) hc1' hc2'
      cases eaa
      obtain ⟨ab, eab, hx2⟩ := Kd.at_int hin f hf1' hf2'
      obtain rfl : aa = ab := (by injection eab)
      have HX1' := Aside0.mk hx1
      replace hx1 := (HB.out.cell (World.block_lt_of_cell? _ _ hx1)).trans hx1
      replace hx2 := (HB.out.cell (World.block_lt_of_cell? _ _ hx2)).trans hx2

      obtain ⟨⟨gg, ok⟩, hg, hs⟩ := Option.bind_eq_some_iff.mp hs
      have HG := Aside0.mk hg
      have HS2 := Aside0.mk hs
      clear hg hs HS hl hin hc0
      cases ok
      · have he : s0 = none := by
          have := HS2.out
          simp at this
          exact this.symm
        subst he
        have hh := HH.out
        simp at hh
        obtain ⟨rfl, rfl⟩ := hh
        go_wp2
        go_quiet ((go_at_call 40; (with_reducible refine (safeint_Gcd.calls _ _ gg false _ HG.out).mono ?_); rintro e w' ⟨rfl, ⟨nd, rfl⟩⟩; exact ⟨rfl, _, World.drewN_drewN _ _ _⟩))
        go_wp2
        try rw [Exit.noGoto_ret]
        go_ret2
        exact ⟨_, rfl, Kd.R_nil _ _ _ _ _, pw_below_drewN HB.out _⟩
      · have hgn : gg ≠ 0 := by
          intro h0
          have := HS2.out
          simp [h0] at this
        have hgb : (gg == 0) = false := beq_eq_false_iff_ne.mpr hgn
        obtain ⟨⟨q1, q2⟩, hq, hs⟩ : ∃ q, safeint_Lcm.f k s (wrap64 (Int.tdiv (rd (rd_L1 rows i) (rd cols (i : Int))) gg)) = some q ∧ (if q.2 = true then sol_scale k rows f (cols.drop (i + 1)) (i + 1) q.1 else some none) = some s0 := by
          have := HS2.out
          simp only [if_true, if_neg hgn] at this
          exact Option.bind_eq_some_iff.mp this
        have HQ := Aside0.mk hq
        have HS3 := Aside0.mk hs
        clear hq hs HS2
        cases q2
        · have he : s0 = none := by
            have := HS3.out
            simp at this
            exact this.symm
          subst he
          have hh := HH.out
          simp at hh
          obtain ⟨rfl, rfl⟩ := hh
          go_wp2
          go_quiet ((go_at_call 40; (with_reducible refine (safeint_Gcd.calls _ _ gg true _ HG.out).mono ?_); rintro e w' ⟨rfl, ⟨nd, rfl⟩⟩; exact ⟨rfl, _, World.drewN_drewN _ _ _⟩))
          go_wp2_with (fail)
          refine (safeint_Lcm.calls k _ _ q1 false _ HQ.out).mono ?_
          rintro e3 w3 ⟨rfl, hb⟩
          have HB3 := Aside0.mk (below_step (pw_below_drewN HB.out _) hb)
          clear hb hx hx1 hx2 hxc hX1
          go_wp2
          try rw [Exit.noGoto_ret]
          go_ret2
          exact ⟨_, rfl, Kd.R_nil _ _ _ _ _, HB3.out⟩
        · have HS4 : Aside0 (sol_scale k rows f (cols.drop (i + 1)) (i + 1) q1 = some s0) := ⟨by simpa using HS3.out⟩
          clear HS3
          go_wp2
          go_quiet ((go_at_call 40; (with_reducible refine (safeint_Gcd.calls _ _ gg true _ HG.out).mono ?_); rintro e w' ⟨rfl, ⟨nd, rfl⟩⟩; exact ⟨rfl, _, World.drewN_drewN _ _ _⟩))
          go_wp2_with (fail)
          refine (safeint_Lcm.calls k _ _ q1 true _ HQ.out).mono ?_
          rintro e3 w3 ⟨rfl, hb⟩
          have HB3 := Aside0.mk (below_step (pw_below_drewN HB.out _) hb)
          clear hb hx hx1 hx2 hxc hX1
          go_wp2
          go_roundw
          case measure => simp [intOf]; omega
          case rel => exact ⟨i + 1, q1, by omega, rfl, by go_num, HS4, HB3⟩
    · obtain rfl : i = cols.length := by omega
      have hs := HS.out
      rw [List.drop_of_length_le (Nat.le_refl _), sol_scale] at hs
      cases hs
      have hh := HH.out
      simp only at hh
      obtain ⟨o0, hfill, hh⟩ := Option.bind_eq_some_iff.mp hh
      have HFILL := Aside0.mk hfill
      have HH2 := Aside0.mk hh
      have hfs : f < ((size.toNat : Nat) : Int) := by omega
      have hcl0 : cols.length ≤ 1000000 := HCL.out
      have hX0 := (HB.out.cell hbg).trans hc0
      clear hh hfill HH HSC hlt
      go_wp2_with (first
        | ((with_reducible refine gate_dst (N := 69) rfl ?_); refine Kd.R_make (Kd.int .i64) (w0 := w) w.heap.size 2 rfl (N := 69) rfl 33 _ _ rfl size rfl rfl Try.underlying33 (.int .i64 0) 8 tinfo2 rfl (by decide) (by omega) 0 (ok := fun _ => True) (okp := fun _ => True) rfl (fun _ hk => hk) trivial (by omega) (by omega) HB.out HB.out.size ?_; intro v1 w1 ho1 hb1 hg1 hat1; obtain ⟨g1, c1, ev, hbg1, _, _⟩ := Kd.R_form ho1 (by simp; omega); subst ev; rw [List.length_replicate] at ho1; have HO1 := Aside0.mk ho1; have HB1 := Aside0.mk hb1; have HBG := Aside0.mk hbg1; have hX01 := (hb1.cell hbg).trans hc0; obtain ⟨hy, hz⟩ := RI_cell ho1 f.toNat (by simp; omega); have hX02 : (w1.setCell ⟨g1, f.toNat, none⟩ (.int .i64 s)).cell? ⟨g, 0, none⟩ = some (.slice Ac cols.length cc) := (World.cell?_of_block (Below.heap_setCell _ _ _ _ (by show g ≠ g1; omega))).trans hX01; clear ho1 hb1 hg1 hat1 hbg1 hX0))
      have HO2 := Aside0.mk (RI_put HO1.out f.toNat s)
      have HB2 := Aside0.mk (HB1.out.setCell HBG.out (Value.int .i64 s) (p := ⟨g1, f.toNat, none⟩))
      clear hy hz hX01 hX02 HB
      go_loopw [80] (fun s80 W => ∃ (i : Nat) (out1 : List Int), i ≤ cols.length ∧ s80 = .int .i64 (i : Int) ∧ Aside0 (out1.length = size.toNat) ∧ Aside0 (sol_fill rows f s (cols.drop i) i out1 = some o0) ∧ Aside0 (Kd.R (Kd.int .i64) 2 W w.heap.size (fun _ => True) (.slice (some ⟨g1, 0, none⟩) size.toNat c1) out1) ∧ Aside0 (Below w.heap.size w W)) (fun s80 _ => cols.length - (intOf s80).toNat)
      case atStart => exact ⟨0, _, Nat.zero_le _, rfl, ⟨by simp⟩, HFILL, HO2, HB2⟩
      case round =>
        clear HO1 HB1 HO2 HB2 HFILL
        obtain ⟨i, out1, hi, rfl, HLO, HF, HO, HB⟩ := hrel
        by_cases hlt : i < cols.length
        · have hlt1 : (i : Int) < (cols.length : Int) := by omega
          have hd1 : decide ((i : Int) < (cols.length : Int)) = true := decide_eq_true hlt1
          have hs := HF.out
          rw [drop_rd1 hlt, sol_fill] at hs
          by_cases hcc : i < rows.length ∧ 0 ≤ rd cols (i : Int) ∧ rd cols (i : Int) < ((rd_L1 rows i).length : Int) ∧ 0 ≤ f ∧ f < ((rd_L1 rows i).length : Int) ∧ rd cols (i : Int) < (out1.length : Int)
          case neg => rw [if_neg hcc] at hs; cases hs
          rw [if_pos hcc] at hs
          obtain ⟨hir, hc1', hc2', hf1', hf2', hc3'⟩ := hcc
          have hir1 : (i : Int) < (rows.length : Int) := by omega
          have hX1 := (HB.out.cell (World.block_lt_of_cell? _ _ HC1.out)).trans HC1.out
          obtain ⟨adc, eac, hxc⟩ := Kd.at_int HCC.out (i : Int) (by omega) hlt1
          cases eac
          rw [Int.toNat_natCast] at hxc
          replace hxc := (HB.out.cell (World.block_lt_of_cell? _ _ hxc)).trans hxc
          obtain ⟨adr, Aa, ca, ead, hx, hl, hin⟩ := at_L1 HCR.out (i : Int) (by omega) hir1
          cases ead
          rw [Int.toNat_natCast] at hx
          replace hx := (HB.out.cell (World.block_lt_of_cell? _ _ hx)).trans hx
          obtain ⟨aa, eaa, hx1⟩ := Kd.at_int hin (rd cols (i : Int)) hc1' hc2'
          cases eaa
          obtain ⟨ab, eab, hx2⟩ := Kd.at_int hin f hf1' hf2'
          obtain rfl : aa = ab := (by injection eab)
          have HB1' := Aside0.mk (World.block_lt_of_cell? _ _ hx1)
          have HB2' := Aside0.mk (World.block_lt_of_cell? _ _ hx2)
          have HX1' := Aside0.mk hx1
          have HX2' := Aside0.mk hx2
          replace hx1 := (HB.out.cell HB1'.out).trans hx1
          replace hx2 := (HB.out.cell HB2'.out).trans hx2

          have hlo : out1.length = size.toNat := HLO.out
          have hcs : rd cols (i : Int) < ((size.toNat : Nat) : Int) := by omega
          obtain ⟨⟨gg, ok⟩, hg, hs⟩ := Option.bind_eq_some_iff.mp hs
          have HG := Aside0.mk hg
          simp only at hs
          by_cases hgn : gg = 0
          case pos => rw [if_pos hgn] at hs; cases hs
          rw [if_neg hgn] at hs
          by_cases hgm : wrap64 (Int.tdiv (rd (rd_L1 rows i) (rd cols (i : Int))) gg) = 0
          case pos => rw [if_pos hgm] at hs; cases hs
          rw [if_neg hgm] at hs
          have hgb : (gg == 0) = false := beq_eq_false_iff_ne.mpr hgn
          have hgmc : (IntKind.i64.wrap (Int.tdiv (rd (rd_L1 rows i) (rd cols (i : Int))) gg) == 0) = false := by rw [i64_w]; exact beq_eq_false_iff_ne.mpr hgm
          have hgmd : ¬ IntKind.i64.wrap (Int.tdiv (rd (rd_L1 rows i) (rd cols (i : Int))) gg) = 0 := by rw [i64_w]; exact hgm
          have hgmb : (wrap64 (Int.tdiv (rd (rd_L1 rows i) (rd cols (i : Int))) gg) == 0) = false := beq_eq_false_iff_ne.mpr hgm
          obtain ⟨⟨v1, v2⟩, hq, hs⟩ := Option.bind_eq_some_iff.mp hs
          have HQ := Aside0.mk hq
          have HS3 := Aside0.mk hs
          have hbc : (rd cols (i : Int)).toNat < out1.length := by omega
          have HBC := Aside0.mk hbc
          clear hg hq hs HF hl hin hbc
          cases v2
          · have he : o0 = none := by
              have := HS3.out
              simp at this
              exact this.symm
            subst he
            have hh := HH2.out
            simp at hh
            obtain ⟨rfl, rfl⟩ := hh
            go_wp2
            go_quiet ((go_at_call 40; (with_reducible refine (safeint_Gcd.calls _ _ gg ok _ HG.out).mono ?_); rintro e w' ⟨rfl, ⟨nd, rfl⟩⟩; exact ⟨rfl, _, World.drewN_drewN _ _ _⟩))
            go_wp2
            go_region_held3 (fun w' => w'.cell? (aa.add f.toNat) = some (.int .i64 (rd (rd_L1 rows i) f)) ∧ w'.cell? (aa.add (rd cols (i : Int)).toNat) = some (.int .i64 (rd (rd_L1 rows i) (rd cols (i : Int))))) (first | go_keep | exact ⟨hx2, hx1⟩) (first | (go_at_call 42; (try simp only [i64_w]); (with_reducible refine (safeint_Mul.calls _ _ v1 false _ HQ.out).mono ?_); rintro e3 w3 ⟨rfl, hb⟩; have hW3 : Below wr.heap.size wr w3 := below_step (by repeat (first | exact Below.refl _ _ | apply pw_below_drewN | apply below_drew1)) hb; have hB3 := HB.out.trans (hW3.mono HB.out.size); replace hx1 := (hB3.cell HB1'.out).trans HX1'.out; replace hx2 := (hB3.cell HB2'.out).trans HX2'.out; have HO3 := Aside0.mk (Kd.R_below HO.out hW3); have HB3 := Aside0.mk hB3; clear hb hW3 hB3))
            go_wp2
            try rw [Exit.noGoto_ret]
            go_ret2
            exact ⟨_, rfl, Kd.R_nil _ _ _ _ _, HB3.out⟩
          · have HS4 : Aside0 (sol_fill rows f s (cols.drop (i + 1)) (i + 1) (out1.set (rd cols (i : Int)).toNat v1) = some o0) := ⟨by simpa using HS3.out⟩
            clear HS3
            go_wp2
            go_quiet ((go_at_call 40; (with_reducible refine (safeint_Gcd.calls _ _ gg ok _ HG.out).mono ?_); rintro e w' ⟨rfl, ⟨nd, rfl⟩⟩; exact ⟨rfl, _, World.drewN_drewN _ _ _⟩))
            go_wp2
            go_region_held3 (fun w' => w'.cell? (aa.add f.toNat) = some (.int .i64 (rd (rd_L1 rows i) f)) ∧ w'.cell? (aa.add (rd cols (i : Int)).toNat) = some (.int .i64 (rd (rd_L1 rows i) (rd cols (i : Int))))) (first | go_keep | exact ⟨hx2, hx1⟩) (first | (go_at_call 42; (try simp only [i64_w]); (with_reducible refine (safeint_Mul.calls _ _ v1 true _ HQ.out).mono ?_); rintro e3 w3 ⟨rfl, hb⟩; have hW3 : Below wr.heap.size wr w3 := below_step (by repeat (first | exact Below.refl _ _ | apply pw_below_drewN | apply below_drew1)) hb; have hB3 := HB.out.trans (hW3.mono HB.out.size); replace hx1 := (hB3.cell HB1'.out).trans HX1'.out; replace hx2 := (hB3.cell HB2'.out).trans HX2'.out; have HO3 := Aside0.mk (Kd.R_below HO.out hW3); have HB3 := Aside0.mk hB3; clear hb hW3 hB3))
            obtain ⟨hy, hz⟩ := RI_cell HO3.out (rd cols (i : Int)).toNat HBC.out
            go_wp2
            go_roundw
            case measure => simp [intOf]; omega
            case rel => exact ⟨i + 1, _, by omega, by go_num, ⟨by simp; omega⟩, HS4, ⟨RI_put HO3.out _ v1⟩, ⟨HB3.out.setCell HBG.out _⟩⟩
        · obtain rfl : i = cols.length := by omega
          have hs := HF.out
          rw [List.drop_of_length_le (Nat.le_refl _), sol_fill] at hs
          cases hs
          have hh := HH2.out
          simp only at hh
          have HPR := Aside0.mk hh
          have HLO2 := HLO.out
          have hO := HO.out
          clear HF HH2 hh hlt hfs HLO HO HBG
          generalize hnn : size.toNat = n at HLO2 hO ⊢
          subst HLO2
          obtain ⟨_, hlc, hCo⟩ := Kd.R_reads' hO
          have HCO := Aside0.mk hCo
          have HLC := Aside0.mk hlc
          clear hCo hlc hO hnn
          go_wp2_with (fail)
          refine (vector_Prim.calls k (some ⟨g1, 0, none⟩) c1 out1 out e _ HCO.out HLC.out HPR.out).mono ?_
          rintro e5 w5 ⟨v5, rfl, hR, hb⟩
          have HR5 := Aside0.mk (Kd.R_lower hR HB.out.size)
          have HB5 := Aside0.mk (below_step HB.out hb)
          clear hR hb
          go_wp2
          go_ret2
          exact ⟨_, rfl, HR5.out, HB5.out⟩
theorem sol_scale.mono (k : Nat) (rows : List (List Int)) (f : Int) : ∀ (cs : List Int) (i : Nat) (s : Int), LeO (sol_scale k rows f cs i s) (sol_scale (k + 1) rows f cs i s)
  | [], _, _ => LeO.refl _
  | c :: cs, i, s => by
    rw [sol_scale, sol_scale]
    exact LeO.ite (LeO.bind (LeO.refl _) (fun g => LeO.ite (LeO.ite (LeO.none _) (LeO.bind (safeint_Lcm.mono _ _ _) (fun q => LeO.ite (sol_scale.mono k rows f cs _ _) (LeO.refl _)))) (LeO.refl _))) (LeO.none _)
theorem table_solution.mono (rows : List (List Int)) (cols : List Int) (f size : Int) (k : Nat) : LeO (table_solution.f k rows cols f size) (table_solution.f (k + 1) rows cols f size) := by
  unfold table_solution.f
  refine LeO.ite (LeO.bind (sol_scale.mono k rows f cols 0 1) (fun s => ?_)) (LeO.none _)
  cases s with
  | none => exact LeO.refl _
  | some s =>
    refine LeO.bind (LeO.refl _) (fun o => ?_)
    cases o with
    | none => exact LeO.refl _
    | some o => exact vector_Prim.mono _ _

end Go.Proofs.Ytckefohfahphpaa.Z
