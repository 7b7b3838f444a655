/- The machine's side: plain Lean functions for the Go functions, each with its contract. Written by a program of this session (wip/xprint.py). -/
import Derived.Test.YtckefohfahphpaaZx0
import Derived.Test.YtckefohfahphpaaZx7
import Derived.Test.YtckefohfahphpaaZx8
import Derived.Test.YtckefohfahphpaaZx10
import Derived.Test.YtckefohfahphpaaZx12
namespace Go.Proofs.Ytckefohfahphpaa.Z
open Go.RowKit Go.Proofs.YtckefohfahphpaaW.PrintWords Go.Proofs.YtckefohfahphpaaW.PrintLast Go.Proofs.YtckefohfahphpaaW.PrintMore
attribute [local go_sem] max2_int min2_int max_two min_two max_three min_three max_four min_four   -- for this text's walks alone
set_option linter.unusedVariables false
set_option linter.unusedSimpArgs false

/-! ### matrix_reduce: function 26, by hand -/
/-- The table: its struct's block g, its columns and its rows. -/
structure TB (w : World) (base g : Nat) (cols : List Int) (rows : List (List Int)) (cv rv : Value) : Prop where
  blk : w.heap[g]? = some (.cells #[cv, rv] 48 (0, 0))
  bas : base ≤ g
  col : Kd.R (Kd.int .i64) 3 w base (fun _ => True) cv cols
  row : Kd.R (Kd.slice 2 (Kd.int .i64)) 33 w base (fun _ => True) rv rows
section
variable {w w1 : World} {base g : Nat} {cols : List Int} {rows : List (List Int)} {cv rv : Value}
theorem TB.lt (h : TB w base g cols rows cv rv) : g < w.heap.size := by
  have := h.blk
  exact (Array.getElem?_eq_some_iff.mp this).1
theorem TB.c0 (h : TB w base g cols rows cv rv) : w.cell? ⟨g, 0, none⟩ = some cv := by
  rw [cell_of_row w g _ _ 48 (0, 0) h.blk]; rfl
theorem TB.c1 (h : TB w base g cols rows cv rv) : w.cell? ⟨g, 1, none⟩ = some rv := by
  rw [cell_of_row w g _ _ 48 (0, 0) h.blk]; rfl
theorem TB.below (h : TB w base g cols rows cv rv) (hb : Below w.heap.size w w1) : TB w1 base g cols rows cv rv :=
  ⟨(hb.block g h.lt).trans h.blk, h.bas, Kd.R_below h.col hb, Kd.R_below h.row hb⟩
theorem TB.le (h : TB w base g cols rows cv rv) : base ≤ w.heap.size := Nat.le_of_lt (Nat.lt_of_le_of_lt h.bas h.lt)
theorem TB.rowblk {gr n cr : Nat} (h : TB w base g cols rows cv (.slice (some ⟨gr, 0, none⟩) n cr)) : n = rows.length ∧ base ≤ gr ∧ gr < w.heap.size ∧ ∃ cells, w.heap[gr]? = some (.cells cells 33 (0, 0)) := by
  obtain ⟨hn, _, _⟩ := Kd.R_reads' h.row
  obtain ⟨cells, hc⟩ := Kd.R_typed h.row gr (by simp [Value.ownBlock])
  exact ⟨hn, Kd.R_base h.row gr (by simp [Value.ownBlock]), Kd.R_lt h.row gr (by simp [Value.ownBlock]), cells, hc⟩
theorem TB.frozen {gr n cr : Nat} (h : TB w base g cols rows cv (.slice (some ⟨gr, 0, none⟩) n cr)) (j : Nat) : w.frozen? ⟨gr, j, none⟩ = false := by
  obtain ⟨_, _, _, cells, hc⟩ := h.rowblk
  exact blk_frozen hc _
theorem TB.apart {gr n cr : Nat} (h : TB w base g cols rows cv (.slice (some ⟨gr, 0, none⟩) n cr)) : g ≠ gr := by
  intro he
  subst he
  obtain ⟨_, _, _, cells, hc⟩ := h.rowblk
  rw [h.blk] at hc
  simp at hc
/-- A row of the table is another one then. -/
theorem TB.put {gr n cr base' : Nat} {ok : Nat → Prop} (h : TB w base g cols rows cv (.slice (some ⟨gr, 0, none⟩) n cr)) (i : Int) (h0 : 0 ≤ i) (h1 : i < (rows.length : Int)) {v : Value} {s : List Int} (hv : Kd.R (Kd.int .i64) 2 w base' ok v s) (hb : base ≤ base') :
    TB (w.setCell ⟨gr, i.toNat, none⟩ v) base g cols (rows.set i.toNat s) cv (.slice (some ⟨gr, 0, none⟩) n cr) := by
  obtain ⟨hn, hbg, hlt, cells, hc⟩ := h.rowblk
  have hne := h.apart
  obtain ⟨c, hcl, hM, hcc, hfz⟩ := Kd.R_elem h.row [] i h0 (by omega)
  have hv1 : Kd.R (Kd.int .i64) 2 w base (fun k => ok k ∧ k ≠ gr) v s := Kd.R_lower (Kd.R_types hv hc (by intro q hq; simp [Kd.int, Kd.scalar] at hq; omega)) hb
  have hs := Kd.R_seg h.row i h0 (by omega) (c := c) (seg := [v]) (j := 0) hcl hcc (by simp [Kd.slice]) (x' := s) (okp := fun k => True ∧ k ≠ gr) (by
    have hcl1 : c.length = 1 := hcl
    refine ⟨v, ?_, Kd.R_mono hv1 (fun k hk => ⟨trivial, hk.2⟩)⟩
    rw [List.take_zero, List.nil_append, List.drop_of_length_le (by simp [hcl1])]
    rfl) (fun k hk => hk)
  have e1 : i.toNat * (Kd.slice 2 (Kd.int .i64)).sz + 0 = i.toNat := by simp [Kd.slice]
  rw [e1] at hs
  refine ⟨?_, h.bas, Kd.R_set h.col hc (by intro q hq; simp [Kd.int, Kd.scalar] at hq; omega) _ _, hs.1⟩
  rw [Below.heap_setCell w _ v g hne]
  exact h.blk
end
set_option maxHeartbeats 8000000 in
set_option maxRecDepth 100000 in
theorem pivots_rank.calls (g : Nat) (A : Option Addr) (n c : Nat) (w : World) (hc : w.cell? ⟨g, 0, none⟩ = some (.slice A n c)) :
    Calls Try.prog 27 #[.pointer (some ⟨g, 0, none⟩)] w fun e w' => e = .returned (.int .i64 (n : Int)) ∧ w' = w := by
  go_enter Try.func27, Try.ntmps27
  go_wp2
  go_ret
  exact ⟨rfl, rfl⟩
def table_clear.f (k : Nat) (rows : List (List Int)) (i p c : Int) : Option (List (List Int) × Int) :=
  if 0 ≤ i ∧ i < (rows.length : Int) ∧ 0 ≤ p ∧ p < (rows.length : Int) ∧ 0 ≤ c ∧ c < ((rd_L1 rows i).length : Int) ∧ c < ((rd_L1 rows p).length : Int) then
    (safeint_Gcd.f (rd (rd_L1 rows i) c) (rd (rd_L1 rows p) c)).bind fun g =>
      if g.2 = false then some (rows, 3) else if rd (rd_L1 rows i) c = -9223372036854775808 then some (rows, 3) else if g.1 = 0 then none else
      (vector_Combine.f (rd_L1 rows i) (wrap64 (Int.tdiv (rd (rd_L1 rows p) c) g.1)) (rd_L1 rows p) (wrap64 (-(wrap64 (Int.tdiv (rd (rd_L1 rows i) c) g.1))))).bind fun r =>
        if r.2 ≠ 0 then some (rows, r.2) else (vector_Prim.f k r.1).bind fun s => some (rows.set i.toNat s.1, s.2)
  else none
set_option maxHeartbeats 8000000 in
set_option maxRecDepth 100000 in
theorem table_clear.calls (k : Nat) (i p c : Int) (base g : Nat) (cols : List Int) (rows : List (List Int)) (cv rv : Value) (rows' : List (List Int)) (e : Int) (w : World) (hT : TB w base g cols rows cv rv) (h : table_clear.f k rows i p c = some (rows', e)) :
    Calls Try.prog 39 #[.pointer (some ⟨g, 0, none⟩), .int .i64 i, .int .i64 p, .int .i64 c] w fun e' w' => e' = .returned (.int .i64 e) ∧ TB w' base g cols rows' cv rv ∧ Below base w w' := by
  unfold table_clear.f at h
  split at h
  case isFalse => cases h
  rename_i hb
  obtain ⟨hi0, hi1, hp0, hp1, hc0, hc1, hc2⟩ := hb
  obtain ⟨⟨gg, ok⟩, hg, h⟩ := Option.bind_eq_some_iff.mp h
  have HT := Aside0.mk hT
  have HG := Aside0.mk hg
  have HH := Aside0.mk h
  clear hg h
  obtain ⟨Ar, cr, rfl, hcr, hC⟩ := Kd.R_reads hT.row
  have hcell := hT.c1
  obtain ⟨ad, Ai, ci, ead, hx, hl, hin⟩ := at_L1 hC i hi0 hi1
  cases ead
  obtain ⟨adp, Ap, cp, eadp, hxp, hlp, hinp⟩ := at_L1 hC p hp0 hp1
  cases eadp
  obtain ⟨a1, ea1, hx1⟩ := Kd.at_int hin c hc0 hc1
  cases ea1
  obtain ⟨a2, ea2, hx2⟩ := Kd.at_int hinp c hc0 hc2
  cases ea2
  obtain ⟨gr, rfl⟩ := Kd.R_head hT.row
  (first | simp only [add_plain] at hx | simp only [add_at] at hx | simp only [Addr.add, Nat.zero_add] at hx)
  (first | simp only [add_plain] at hxp | simp only [add_at] at hxp | simp only [Addr.add, Nat.zero_add] at hxp)
  have HL := Aside0.mk hl
  have HLP := Aside0.mk hlp
  have HIN := Aside0.mk hin
  have HINP := Aside0.mk hinp
  clear hT hl hlp hin hinp hC
  have HX := Aside0.mk hx
  have HXP := Aside0.mk hxp
  have HCELL := Aside0.mk hcell
  have hbx := World.block_lt_of_cell? w _ hx
  have hbxp := World.block_lt_of_cell? w _ hxp
  have hbc := World.block_lt_of_cell? w _ hcell
  have HBX := Aside0.mk hbx
  have HBXP := Aside0.mk hbxp
  have HBC := Aside0.mk hbc
  clear hbx hbxp hbc
  cases ok
  · have HE : rows = rows' ∧ 3 = e := by
      have := HH.out
      simpa using this
    obtain ⟨rfl, rfl⟩ := HE
    go_enter Try.func39, Try.ntmps39
    go_wp2
    go_quiet (fail)
    go_wp2_with (fail)
    refine (safeint_Gcd.calls _ _ gg false _ HG.out).mono ?_
    rintro e w1 ⟨rfl, hd⟩
    have hB : Below w.heap.size w w1 := below_step (pw_below_drewN (Below.refl _ _) _) hd.below
    have HB := Aside0.mk hB
    clear hB hd hx hx1 hx2 hxp hcell
    go_wp2
    go_ret
    exact ⟨rfl, HT.out.below HB.out, HB.out.mono HT.out.le⟩
  · have HH1 : Aside0 ((if rd (rd_L1 rows i) c = -9223372036854775808 then some (rows, 3) else if gg = 0 then none else
            (vector_Combine.f (rd_L1 rows i) (wrap64 ((rd (rd_L1 rows p) c).tdiv gg)) (rd_L1 rows p) (wrap64 (-wrap64 ((rd (rd_L1 rows i) c).tdiv gg)))).bind
              fun r => if r.snd ≠ 0 then some (rows, r.snd) else (vector_Prim.f k r.fst).bind fun s => some (rows.set i.toNat s.fst, s.snd)) = some (rows', e)) := ⟨by have := HH.out; simpa using this⟩
    clear HH
    by_cases hm : rd (rd_L1 rows i) c = -9223372036854775808
    · have HE : rows = rows' ∧ 3 = e := by
        have := HH1.out
        rw [if_pos hm] at this
        simpa using this
      obtain ⟨rfl, rfl⟩ := HE
      have hm1 : (rd (rd_L1 rows i) c == -9223372036854775808) = true := by rw [hm]; rfl
      have HM := Aside0.mk hm
      clear hm
      go_enter Try.func39, Try.ntmps39
      go_wp2
      go_quiet (fail)
      go_wp2_with (fail)
      refine (safeint_Gcd.calls _ _ gg true _ HG.out).mono ?_
      rintro e w1 ⟨rfl, hd⟩
      have hB : Below w.heap.size w w1 := below_step (pw_below_drewN (Below.refl _ _) _) hd.below
      have HB := Aside0.mk hB
      clear hB hd hx hx1 hx2 hxp hcell
      go_wp2
      go_ret
      exact ⟨rfl, HT.out.below HB.out, HB.out.mono HT.out.le⟩
    · have hm1 : (rd (rd_L1 rows i) c == -9223372036854775808) = false := beq_eq_false_iff_ne.mpr hm
      have hgn : gg ≠ 0 := by
        intro h0
        have := HH1.out
        rw [if_neg hm, if_pos h0] at this
        cases this
      have hgb : (gg == 0) = false := beq_eq_false_iff_ne.mpr hgn
      obtain ⟨⟨q1, q2⟩, hq, h⟩ : ∃ q : List Int × Int, vector_Combine.f (rd_L1 rows i) (wrap64 ((rd (rd_L1 rows p) c).tdiv gg)) (rd_L1 rows p) (wrap64 (-wrap64 ((rd (rd_L1 rows i) c).tdiv gg))) = some q ∧ (if q.2 ≠ 0 then some (rows, q.2) else (vector_Prim.f k q.1).bind fun s => some (rows.set i.toNat s.fst, s.snd)) = some (rows', e) := by
        have := HH1.out
        rw [if_neg hm, if_neg hgn] at this
        exact Option.bind_eq_some_iff.mp this
      have HQ := Aside0.mk hq
      have HH := Aside0.mk h
      have HM := Aside0.mk hm
      clear hm hq h HH1
      by_cases hq0 : q2 = 0
      · subst hq0
        have HH1 : Aside0 (((vector_Prim.f k q1).bind fun s => some (rows.set i.toNat s.fst, s.snd)) = some (rows', e)) := ⟨by have := HH.out; simpa using this⟩
        clear HH
        obtain ⟨⟨s1, s2⟩, hs, h⟩ := Option.bind_eq_some_iff.mp HH1.out
        have HS := Aside0.mk hs
        obtain ⟨rfl, rfl⟩ : rows.set i.toNat s1 = rows' ∧ s2 = e := by simpa using h
        clear h hs HH1
        go_enter Try.func39, Try.ntmps39
        go_wp2
        go_quiet (fail)
        go_wp2_with (fail)
        refine (safeint_Gcd.calls _ _ gg true _ HG.out).mono ?_
        rintro e1 w1 ⟨rfl, hd⟩
        have hB : Below w.heap.size w w1 := below_step (pw_below_drewN (Below.refl _ _) _) hd.below
        replace hx := (hB.cell HBX.out).trans hx
        replace hxp := (hB.cell HBXP.out).trans hxp
        replace hcell := (hB.cell HBC.out).trans hcell
        have HB := Aside0.mk hB
        clear hB hd hx1 hx2
        go_wp2
        go_region_held3 (fun w' => w'.cell? ⟨g, 1, none⟩ = some (.slice (some ⟨gr, 0, none⟩) rows.length cr) ∧ w'.cell? ⟨gr, i.toNat, none⟩ = some (.slice (some a1) (rd_L1 rows i).length ci) ∧ w'.cell? ⟨gr, p.toNat, none⟩ = some (.slice (some a2) (rd_L1 rows p).length cp)) (first | go_keep | exact ⟨hcell, hx, hxp⟩) (first | (go_at_call 48; (try simp only [i64_w]); (with_reducible refine (vector_Combine.calls _ _ (rd_L1 rows i) _ _ _ (rd_L1 rows p) _ q1 0 _ (Kd.C_drew (Kd.C_below HIN.out HB.out)) HL.out (Kd.C_drew (Kd.C_below HINP.out HB.out)) HLP.out HQ.out).mono ?_); rintro e2 w2 ⟨v0, rfl, hR, hb⟩; obtain ⟨Aq, cq, rfl, hcq, hCq⟩ := Kd.R_reads hR; have hB2 := below_step (below_drew HB.out) hb; replace hx := (hB2.cell HBX.out).trans HX.out; replace hxp := (hB2.cell HBXP.out).trans HXP.out; replace hcell := (hB2.cell HBC.out).trans HCELL.out; have HB2 := Aside0.mk hB2; have HCQ := Aside0.mk hCq; have HLQ := Aside0.mk hcq; clear hR hCq hcq hb hB2))
        go_wp2
        have hfz := (HT.out.below HB2.out).frozen i.toNat
        have hgne := HT.out.apart
        clear hxp
        go_region_held3 (fun w' => w'.cell? ⟨g, 1, none⟩ = some (.slice (some ⟨gr, 0, none⟩) rows.length cr)) (first | go_keep | exact hcell | exact (World.cell?_of_block (Below.heap_setCell _ _ _ _ hgne)).trans hcell) (first | (go_at_call 43; (with_reducible refine (vector_Prim.calls k _ _ q1 s1 s2 _ (Kd.C_drew HCQ.out) HLQ.out HS.out).mono ?_); rintro e3 w3 ⟨v3, rfl, hR, hb⟩; obtain ⟨A3, c3, rfl, _, _⟩ := Kd.R_reads hR; have hB3 := below_step (below_drew HB2.out) hb; replace hx := (hB3.cell HBX.out).trans HX.out; replace hcell := (hB3.cell HBC.out).trans HCELL.out; replace hfz := (HT.out.below hB3).frozen i.toNat; have HB3 := Aside0.mk hB3; have HR3 := Aside0.mk (Kd.R_lower hR (Nat.le_trans HT.out.le (below_step (below_drew HB2.out) (Below.refl _ _)).size)); clear hR hb hB3))
        go_wp2
        go_ret
        have hT3 := (HT.out.below HB3.out).put i hi0 hi1 HR3.out (Nat.le_refl _)
        exact ⟨rfl, hT3, (HB3.out.mono HT.out.le).setCell (HT.out.rowblk.2.1) _⟩
      · have HE : rows = rows' ∧ q2 = e := by
          have := HH.out
          rw [if_pos hq0] at this
          simpa using this
        obtain ⟨rfl, rfl⟩ := HE
        have hqb : (q2 != 0) = true := bne_iff_ne.mpr hq0
        have hqc : (q2 == 0) = false := beq_eq_false_iff_ne.mpr hq0
        have HQ0 := Aside0.mk hq0
        clear hq0 HH
        go_enter Try.func39, Try.ntmps39
        go_wp2
        go_quiet (fail)
        go_wp2_with (fail)
        refine (safeint_Gcd.calls _ _ gg true _ HG.out).mono ?_
        rintro e1 w1 ⟨rfl, hd⟩
        have hB : Below w.heap.size w w1 := below_step (pw_below_drewN (Below.refl _ _) _) hd.below
        replace hx := (hB.cell HBX.out).trans hx
        replace hxp := (hB.cell HBXP.out).trans hxp
        replace hcell := (hB.cell HBC.out).trans hcell
        have HB := Aside0.mk hB
        clear hB hd hx1 hx2
        go_wp2
        go_region_held3 (fun w' => w'.cell? ⟨g, 1, none⟩ = some (.slice (some ⟨gr, 0, none⟩) rows.length cr) ∧ w'.cell? ⟨gr, i.toNat, none⟩ = some (.slice (some a1) (rd_L1 rows i).length ci) ∧ w'.cell? ⟨gr, p.toNat, none⟩ = some (.slice (some a2) (rd_L1 rows p).length cp)) (first | go_keep | exact ⟨hcell, hx, hxp⟩) (first | (go_at_call 48; (try simp only [i64_w]); (with_reducible refine (vector_Combine.calls _ _ (rd_L1 rows i) _ _ _ (rd_L1 rows p) _ q1 q2 _ (Kd.C_drew (Kd.C_below HIN.out HB.out)) HL.out (Kd.C_drew (Kd.C_below HINP.out HB.out)) HLP.out HQ.out).mono ?_); rintro e2 w2 ⟨v0, rfl, hR, hb⟩; obtain ⟨Aq, cq, rfl, hcq, hCq⟩ := Kd.R_reads hR; have hB2 := below_step (below_drew HB.out) hb; replace hx := (hB2.cell HBX.out).trans HX.out; replace hxp := (hB2.cell HBXP.out).trans HXP.out; replace hcell := (hB2.cell HBC.out).trans HCELL.out; have HB2 := Aside0.mk hB2; have HCQ := Aside0.mk hCq; have HLQ := Aside0.mk hcq; clear hR hCq hcq hb hB2))
        go_wp2
        go_ret
        exact ⟨rfl, HT.out.below HB2.out, HB2.out.mono HT.out.le⟩
/-- What lies in the table's own block is turned. -/
theorem TB.cols {w w1 : World} {base g : Nat} {cols cols' : List Int} {rows : List (List Int)} {A : Option Addr} {n cc : Nat} {rv v1 : Value} (h : TB w base g cols rows (.slice A n cc) rv) (ho : Kd.R (Kd.int .i64) 3 w1 base (fun _ => True) v1 cols')
    (hg : w.grownBy w1 (Value.slice A n cc).ownBlock) : TB (w1.setCell ⟨g, 0, none⟩ v1) base g cols' rows v1 rv := by
  have hne : some g ≠ (Value.slice A n cc).ownBlock := Kd.R_ne h.col h.blk (by decide)
  have hb1 : w1.heap[g]? = some (.cells #[.slice A n cc, rv] 48 (0, 0)) := (hg.block g h.lt hne).trans h.blk
  have hrow : Kd.R (Kd.slice 2 (Kd.int .i64)) 33 w1 base (fun _ => True) rv rows := Kd.R_over' h.row (Kd.R_typed h.col) (by intro q hq; simp [Kd.slice, Kd.int, Kd.scalar] at hq; omega) hg
  refine ⟨?_, h.bas, Kd.R_set ho hb1 (by intro q hq; simp [Kd.int, Kd.scalar] at hq; omega) _ _, Kd.R_set hrow hb1 (by intro q hq; simp [Kd.slice, Kd.int, Kd.scalar] at hq; omega) _ _⟩
  have := heap_setCell_same w1 g 0 _ _ v1 hb1
  rw [this]
  rfl
theorem tinfo3 : (Try.prog.info? 3).map (fun i => (i.zero, i.size, i.bytes)) = some (some (.int .i64 0), 1, 8) := by kernel_rfl
set_option maxHeartbeats 8000000 in
set_option maxRecDepth 100000 in
theorem pivots_add.calls (c : Int) (base g : Nat) (cols : List Int) (rows : List (List Int)) (cv rv : Value) (w : World) (hT : TB w base g cols rows cv rv) (hl : cols.length ≤ 1000000) :
    Calls Try.prog 47 #[.pointer (some ⟨g, 0, none⟩), .int .i64 c] w fun e w' => ∃ u cv', e = .returned u ∧ TB w' base g (cols ++ [c]) rows cv' rv ∧ Below base w w' := by
  obtain ⟨A, cc, rfl⟩ := Kd.R_slice hT.col
  have HT := Aside0.mk hT
  have HL := Aside0.mk hl
  have hc0 := hT.c0
  have hbg : g < w.heap.size := hT.lt
  clear hT hl
  go_enter Try.func47, Try.ntmps47
  go_wp2_with (first | ((with_reducible refine gate_builtin (b := .append) (xs := #[.tmp 8, .tmp 10]) rfl ?_); at_builtin; refine Kd.R_append (Kd.int .i64) (w0 := w) base rfl (.tmp 8) (.tmp 10) 44 3 (.int .i64 0) 8 rfl Try.underlying44 tinfo3 rfl (by decide) (by omega) (.slice A cols.length cc) cols c [.int .i64 c] (fun _ => True) (fun _ => False) rfl rfl ?aP (fun _ hk => hk.elim) ?aF ?aO ?aB ?aS ?aL ?_; (case aP => exact rfl); (case aB => exact Below.refl _ _); (case aF => exact (fun _ _ => trivial)); (case aO => exact HT.out.col); (case aS => exact HT.out.le); (case aL => have := HL.out; omega); intro v1 w1 ho hb hg hat; obtain ⟨A1, c1, rfl⟩ := Kd.R_slice ho; have hb1 : w1.heap[g]? = some (.cells #[.slice A cols.length cc, rv] 48 (0, 0)) := (hg.block g hbg (Kd.R_ne HT.out.col HT.out.blk (by decide))).trans HT.out.blk; have hx0 : w1.cell? ⟨g, 0, none⟩ = some (.slice A cols.length cc) := (by rw [cell_of_row w1 g _ _ 48 (0, 0) hb1]; rfl); have hfz : w1.frozen? ⟨g, 0, none⟩ = false := blk_frozen hb1 _; have HO := Aside0.mk ho; have HB := Aside0.mk hb; have HGR := Aside0.mk hg; clear ho hb hg hat hb1))
  go_end0
  have hh := HT.out.cols HO.out HGR.out
  rw [List.length_append] at hh
  exact ⟨_, _, rfl, hh, HB.out.setCell HT.out.bas _⟩
theorem TB.rowR {w : World} {base g : Nat} {cols : List Int} {rows : List (List Int)} {cv : Value} {gr n cr : Nat} (h : TB w base g cols rows cv (.slice (some ⟨gr, 0, none⟩) n cr)) (i : Int) (h0 : 0 ≤ i) (h1 : i < (rows.length : Int)) :
    ∃ A c, w.cell? ⟨gr, i.toNat, none⟩ = some (.slice A (rd_L1 rows i).length c) ∧ Kd.R (Kd.int .i64) 2 w base (fun k => True ∧ k ≠ gr) (.slice A (rd_L1 rows i).length c) (rd_L1 rows i) := by
  obtain ⟨hn, _, _⟩ := h.rowblk
  obtain ⟨c, hcl, ⟨v, rfl, hM⟩, hcc, hfz⟩ := Kd.R_elem h.row [] i h0 (by omega)
  have e1 : rows.getD i.toNat [] = rd_L1 rows i := by simp [rd_L1]
  rw [e1] at hM
  obtain ⟨A, c, rfl⟩ := Kd.R_slice hM
  have := hcc 0 _ rfl
  have e2 : i.toNat * (Kd.slice 2 (Kd.int .i64)).sz + 0 = i.toNat := by simp [Kd.slice]
  rw [e2] at this
  exact ⟨A, c, this, hM⟩
/-- Two rows of the table change places. -/
theorem TB.swap {w : World} {base g : Nat} {cols : List Int} {rows : List (List Int)} {cv : Value} {gr n cr : Nat} (h : TB w base g cols rows cv (.slice (some ⟨gr, 0, none⟩) n cr)) (i j : Nat) (h1 : i < rows.length) (h2 : j < rows.length) {v u : Value} {s t : List Int}
    (hv : Kd.R (Kd.int .i64) 2 w base (fun k => True ∧ k ≠ gr) v s) (hu : Kd.R (Kd.int .i64) 2 w base (fun k => True ∧ k ≠ gr) u t) :
    TB ((w.setCell ⟨gr, i, none⟩ v).setCell ⟨gr, j, none⟩ u) base g cols ((rows.set i s).set j t) cv (.slice (some ⟨gr, 0, none⟩) n cr) := by
  have h3 := h.put (i : Int) (by omega) (by omega) hv (Nat.le_refl _)
  rw [Int.toNat_natCast] at h3
  have h4 := h3.put (j : Int) (by omega) (by simp; omega) (Kd.R_far hu (p := ⟨gr, i, none⟩) (fun k hk => hk.2) v) (Nat.le_refl _)
  rw [Int.toNat_natCast] at h4
  exact h4
theorem rd_swap {rows : List (List Int)} {k a : Nat} (hk : k < rows.length) : rd_L1 ((rows.set k (rd_L1 rows a)).set a (rd_L1 rows k)) (k : Int) = rd_L1 rows (a : Int) := by
  by_cases h : a = k
  · subst h
    simp [rd_L1, List.getD_eq_getElem?_getD, hk]
  · simp [rd_L1, List.getD_eq_getElem?_getD, hk, List.getElem?_set_ne h, List.getElem_set, h]
/-- The first row from 'at' on with an element in column c. -/
def table_leadAt (c : Int) : List (List Int) → Nat → Option Nat
  | [], at_ => some at_
  | r :: rs, at_ => if 0 ≤ c ∧ c < (r.length : Int) then (if rd r c = 0 then table_leadAt c rs (at_ + 1) else some at_) else none
theorem drop_L1 {rows : List (List Int)} {a : Nat} (h : a < rows.length) : rows.drop a = rd_L1 rows (a : Int) :: rows.drop (a + 1) := by
  rw [List.drop_eq_getElem_cons h]
  simp [rd_L1, List.getD_eq_getElem?_getD, h]
def table_leadTo (k : Nat) (rows : List (List Int)) (cols : List Int) (c : Int) (at_ : Nat) : Option ((List (List Int) × List Int) × Bool × Int) :=
  if at_ = rows.length then some ((rows, cols), false, 0) else
    (vector_Prim.f k (rd_L1 rows at_)).bind fun s => if s.2 = 0 then (if 0 ≤ c ∧ c < (s.1.length : Int) then
        (if rd s.1 c < 0 then (vector_Scale.f s.1 (-1)).bind fun q => if q.2 = 0 then some ((((rows.set cols.length (rd_L1 rows at_)).set at_ (rd_L1 rows cols.length)).set cols.length q.1, cols ++ [c]), true, 0) else some (((rows.set cols.length (rd_L1 rows at_)).set at_ (rd_L1 rows cols.length), cols), false, q.2)
         else some ((((rows.set cols.length (rd_L1 rows at_)).set at_ (rd_L1 rows cols.length)).set cols.length s.1, cols ++ [c]), true, 0)) else none)
      else some (((rows.set cols.length (rd_L1 rows at_)).set at_ (rd_L1 rows cols.length), cols), false, s.2)
def table_lead.f (k : Nat) (rows : List (List Int)) (cols : List Int) (c : Int) : Option ((List (List Int) × List Int) × Bool × Int) :=
  if 0 < rows.length ∧ rows.length ≤ 1000000 ∧ cols.length ≤ rows.length then (table_leadAt c (rows.drop cols.length) cols.length).bind fun at_ => table_leadTo k rows cols c at_ else none
set_option maxHeartbeats 8000000 in
set_option maxRecDepth 100000 in
theorem table_lead.calls (k : Nat) (c : Int) (base g : Nat) (cols : List Int) (rows : List (List Int)) (cv rv : Value) (rows' : List (List Int)) (cols' : List Int) (found : Bool) (e : Int) (w : World) (hT : TB w base g cols rows cv rv)
    (h : table_lead.f k rows cols c = some ((rows', cols'), found, e)) :
    Calls Try.prog 38 #[.pointer (some ⟨g, 0, none⟩), .int .i64 c] w fun e' w' => e' = .returned (.tuple #[.bool found, .int .i64 e]) ∧ ∃ cv', TB w' base g cols' rows' cv' rv ∧ Below base w w' := by
  unfold table_lead.f at h
  split at h
  case isFalse => cases h
  rename_i hb
  obtain ⟨hr0, hr1, hrc⟩ := hb
  obtain ⟨at1, hat, h⟩ := Option.bind_eq_some_iff.mp h
  obtain ⟨gr, cr, rfl, hbg, hgl, _⟩ := Kd.R_form hT.row hr0
  obtain ⟨A, cc, rfl⟩ := Kd.R_slice hT.col
  obtain ⟨_, _, hC⟩ := Kd.R_reads' hT.row
  have HT := Aside0.mk hT
  have HA := Aside0.mk hat
  have HH := Aside0.mk h
  have HC := Aside0.mk hC
  have HRC := Aside0.mk hrc
  have HR1 := Aside0.mk hr1
  have hc0 := hT.c0
  have hc1 := hT.c1
  clear hT hat h hbg hgl hC hrc hr1
  go_enter Try.func38, Try.ntmps38
  go_wp2_with (fail)
  refine (pivots_rank.calls g A cols.length cc _ hc0).mono ?_
  rintro e1 w1 ⟨rfl, hw⟩
  have hw := hw.symm
  subst hw
  go_wp2
  go_loopw [7] (fun s7 W => ∃ (a : Nat), W = w ∧ s7 = .int .i64 (a : Int) ∧ Aside0 (cols.length ≤ a ∧ a ≤ rows.length) ∧ Aside0 (table_leadAt c (rows.drop a) a = some at1)) (fun s7 _ => rows.length - (intOf s7).toNat)
  case atStart => exact ⟨cols.length, rfl, rfl, ⟨Nat.le_refl _, HRC.out⟩, HA⟩
  case round =>
    obtain ⟨a, rfl, rfl, hab, hal⟩ := hrel
    have hac := hab.out
    by_cases hlt : a < rows.length
    · have hlt1 : (a : Int) < (rows.length : Int) := by omega
      have hd1 : decide ((a : Int) < (rows.length : Int)) = true := decide_eq_true hlt1
      obtain ⟨ad, Aa, ca, ead, hx, hl, hin⟩ := at_L1 HC.out (a : Int) (by omega) hlt1
      cases ead
      (first | simp only [add_plain] at hx | simp only [add_at] at hx | simp only [Addr.add, Nat.zero_add] at hx)
      rw [Int.toNat_natCast] at hx
      have hal1 := hal.out
      rw [drop_L1 hlt, table_leadAt] at hal1
      by_cases hcc : 0 ≤ c ∧ c < ((rd_L1 rows a).length : Int)
      case neg => rw [if_neg hcc] at hal1; cases hal1
      rw [if_pos hcc] at hal1
      obtain ⟨hcc0, hcc1⟩ := hcc
      obtain ⟨a1, ea1, hx1⟩ := Kd.at_int hin c hcc0 hcc1
      cases ea1
      have HL := Aside0.mk hl
      have HIN := Aside0.mk hin
      clear hal hl hin
      by_cases hz : rd (rd_L1 rows a) c = 0
      · rw [if_pos hz] at hal1
        have hz1 : (rd (rd_L1 rows a) c == 0) = true := beq_iff_eq.mpr hz
        have HAL := Aside0.mk hal1
        have HAB := hab
        have hR1 := HR1.out
        clear hal1 hz hac
        go_wp2
        go_roundw
        case measure => simp [intOf]; omega
        case rel => exact ⟨a + 1, by first | rfl | trivial, by go_num, ⟨by have := HAB.out; omega⟩, HAL⟩
      · rw [if_neg hz] at hal1
        obtain rfl := Option.some.inj hal1
        have hz1 : (rd (rd_L1 rows a) c == 0) = false := beq_eq_false_iff_ne.mpr hz
        have HZ := Aside0.mk hz
        have hne : ((a : Int) == (rows.length : Int)) = false := beq_eq_false_iff_ne.mpr (by omega)
        clear hz hal1 
        have hlk : cols.length < rows.length := by omega
        obtain ⟨Ak, ck, hxk, hRk⟩ := HT.out.rowR (cols.length : Int) (by omega) (by omega)
        obtain ⟨Aa, ca', hxa, hRa⟩ := HT.out.rowR (a : Int) (by omega) (by omega)
        rw [Int.toNat_natCast] at hxk hxa
        have hfa := HT.out.frozen a
        have hfk := HT.out.frozen cols.length
        have hk0 : (0 : Int) ≤ (cols.length : Int) := by omega
        have hk1 : (cols.length : Int) < (rows.length : Int) := by omega
        have HRK := Aside0.mk hRk
        have HRA := Aside0.mk hRa
        have heq := Option.some.inj (hx.symm.trans hxa)
        injection heq with e1 _ e3
        subst e1
        subst e3
        clear hRk hRa hab hac hxa HL HIN
        by_cases hka : a = cols.length
        · subst hka
          have heq := Option.some.inj (hx.symm.trans hxk)
          injection heq with e1 _ e3
          subst e1
          subst e3
          clear hxk
          go_wp2_with (fail)
          go_region
          generalize hW2 : (World.setCell _ _ _).drew = W2
          have HT2 : Aside0 (TB W2 base g cols ((rows.set cols.length (rd_L1 rows cols.length)).set cols.length (rd_L1 rows cols.length)) (.slice A cols.length cc) (.slice (some ⟨gr, 0, none⟩) rows.length cr)) := ⟨by rw [← hW2]; exact (HT.out.swap cols.length cols.length hlk hlk HRA.out HRK.out).below (below_drew (Below.refl _ _))⟩
          have HB2 : Aside0 (Below base wr W2) := ⟨by rw [← hW2]; exact below_drew ((((Below.refl base wr)).setCell (HT.out.rowblk.2.1) _).setCell (HT.out.rowblk.2.1) _)⟩
          clear hW2 hc0 hc1 hx hx1 hfa hfk HT HC
          have hlen2 : ((rows.set cols.length (rd_L1 rows cols.length)).set cols.length (rd_L1 rows cols.length)).length = rows.length := by simp
          have hrd : rd_L1 ((rows.set cols.length (rd_L1 rows cols.length)).set cols.length (rd_L1 rows cols.length)) (cols.length : Int) = rd_L1 rows (cols.length : Int) := rd_swap hlk
          generalize hr2 : ((rows.set cols.length (rd_L1 rows cols.length)).set cols.length (rd_L1 rows cols.length)) = r2 at HT2 hlen2 hrd
          obtain ⟨At, ct, hxt, hRt⟩ := HT2.out.rowR (cols.length : Int) hk0 (by rw [hlen2]; exact hk1)
          rw [hrd, Int.toNat_natCast] at hxt
          rw [hrd] at hRt
          obtain ⟨_, hlt2, hCt⟩ := Kd.R_reads' hRt
          have HCT := Aside0.mk hCt
          have HLT := Aside0.mk hlt2
          have hc12 := HT2.out.c1
          clear hRt hCt hlt2
          have hh := HH.out
          rw [table_leadTo, if_neg (by omega), hr2] at hh
          obtain ⟨⟨s1, s2⟩, hs, hh⟩ := Option.bind_eq_some_iff.mp hh
          have HS := Aside0.mk hs
          have HH2 := Aside0.mk hh
          have HLEN2 := Aside0.mk hlen2
          clear hs hh HH hr2 hrd hlen2
          go_wp2_with (fail)
          refine (vector_Prim.calls k At ct (rd_L1 rows (cols.length : Int)) s1 s2 _ HCT.out HLT.out HS.out).mono ?_
          rintro e3 w3 ⟨v3, rfl, hR, hb⟩
          obtain ⟨A3, c3, rfl, hl3, hC3⟩ := Kd.R_reads hR
          have HT3 := Aside0.mk (HT2.out.below hb)
          have HB3 : Aside0 (Below base wr w3) := ⟨HB2.out.trans (hb.mono HT2.out.le)⟩
          have hc13 := HT3.out.c1
          have hc03 := HT3.out.c0
          have HR3 := Aside0.mk (Kd.R_lower hR HT2.out.le)
          have hfk3 := HT3.out.frozen cols.length
          obtain ⟨At3, ct3, hxt3, _⟩ := HT3.out.rowR (cols.length : Int) hk0 (by rw [HLEN2.out]; exact hk1)
          rw [Int.toNat_natCast] at hxt3
          have HL3 := Aside0.mk hl3
          have HC3 := Aside0.mk hC3
          clear hR hb hl3 hC3 hxt hc12
          by_cases hs2 : s2 = 0
          · subst hs2
            have hh := HH2.out
            simp only [if_true] at hh
            by_cases hcl : 0 ≤ c ∧ c < (s1.length : Int)
            case neg => rw [if_neg hcl] at hh; cases hh
            rw [if_pos hcl] at hh
            obtain ⟨hcl0, hcl1⟩ := hcl
            obtain ⟨a3, ea3, hx3⟩ := Kd.at_int HC3.out c hcl0 hcl1
            cases ea3
            by_cases hneg : rd s1 c < 0
            · rw [if_pos hneg] at hh
              obtain ⟨⟨q1, q2⟩, hq, hh⟩ := Option.bind_eq_some_iff.mp hh
              have HQ := Aside0.mk hq
              have HH3 := Aside0.mk hh
              have hd3 : decide (rd s1 c < 0) = true := decide_eq_true hneg
              have HNEG := Aside0.mk hneg
              clear hh hq HH2 hneg
              go_wp2_with (fail)
              refine (vector_Scale.calls _ _ s1 _ q1 q2 _ HC3.out HL3.out HQ.out).mono ?_
              rintro e4 w4 ⟨v4, rfl, hR, hb⟩
              obtain ⟨A4, c4, rfl, hl4, hC4⟩ := Kd.R_reads hR
              have HT4 := Aside0.mk (HT3.out.below hb)
              have HB4 : Aside0 (Below base wr w4) := ⟨HB3.out.trans (hb.mono HT3.out.le)⟩
              have hc14 := HT4.out.c1
              have hc04 := HT4.out.c0
              have HR4 := Aside0.mk (Kd.R_lower hR HT3.out.le)
              have hfk4 := HT4.out.frozen cols.length
              obtain ⟨At4, ct4, hxt4, _⟩ := HT4.out.rowR (cols.length : Int) hk0 (by rw [HLEN2.out]; exact hk1)
              rw [Int.toNat_natCast] at hxt4
              clear hR hb hl4 hC4 hc13 hc03 hfk3 hxt3 hx3
              by_cases hq2 : q2 = 0
              · subst hq2
                have hh := HH3.out
                simp only [if_true] at hh
                cases hh
                go_wp2_with (fail)
                have hT5 := HT4.out.put (cols.length : Int) hk0 (by rw [HLEN2.out]; exact hk1) HR4.out (Nat.le_refl _)
                rw [Int.toNat_natCast] at hT5
                have HT5 := Aside0.mk hT5
                have HB5 := Aside0.mk (HB4.out.setCell HT4.out.rowblk.2.1 (Value.slice A4 q1.length c4) (p := ⟨gr, cols.length, none⟩))
                clear hT5 hc14 hc04 hfk4 hxt4
                refine (pivots_add.calls c base g cols _ _ _ _ HT5.out (by have := HR1.out; omega)).mono ?_
                rintro e6 w6 ⟨u6, cv6, rfl, hT6, hB6⟩
                have HT6 := Aside0.mk hT6
                have HB6 := Aside0.mk hB6
                clear hT6 hB6
                go_wp2
                try rw [Exit.noGoto_ret]
                go_ret2
                exact ⟨rfl, _, HT6.out, HB5.out.trans HB6.out⟩
              · have hh := HH3.out
                simp only [if_neg hq2] at hh
                have hq3 : (q2 == 0) = false := beq_eq_false_iff_ne.mpr hq2
                have hq4 : (q2 != 0) = true := bne_iff_ne.mpr hq2
                cases hh
                clear hq2 
                go_wp2
                try rw [Exit.noGoto_ret]
                go_ret2
                exact ⟨rfl, _, HT4.out, HB4.out⟩
            · rw [if_neg hneg] at hh
              cases hh
              have hd3 : decide (rd s1 c < 0) = false := decide_eq_false hneg
              clear hneg HH2
              go_wp2_with (fail)
              have hT5 := HT3.out.put (cols.length : Int) hk0 (by rw [HLEN2.out]; exact hk1) HR3.out (Nat.le_refl _)
              rw [Int.toNat_natCast] at hT5
              have HT5 := Aside0.mk hT5
              have HB5 := Aside0.mk (HB3.out.setCell HT3.out.rowblk.2.1 (Value.slice (some a3) s1.length c3) (p := ⟨gr, cols.length, none⟩))
              clear hT5 hc13 hc03 hfk3 hxt3 hx3
              refine (pivots_add.calls c base g cols _ _ _ _ HT5.out (by have := HR1.out; omega)).mono ?_
              rintro e6 w6 ⟨u6, cv6, rfl, hT6, hB6⟩
              have HT6 := Aside0.mk hT6
              have HB6 := Aside0.mk hB6
              clear hT6 hB6
              go_wp2
              try rw [Exit.noGoto_ret]
              go_ret2
              exact ⟨rfl, _, HT6.out, HB5.out.trans HB6.out⟩
          · have hh := HH2.out
            simp only [if_neg hs2] at hh
            have hs3 : (s2 == 0) = false := beq_eq_false_iff_ne.mpr hs2
            have hs4 : (s2 != 0) = true := bne_iff_ne.mpr hs2
            cases hh
            clear hs2
            go_wp2
            try rw [Exit.noGoto_ret]
            go_ret2
            exact ⟨rfl, _, HT3.out, HB3.out⟩
        · have hka1 : ¬ cols.length = a := fun h => hka h.symm
          go_wp2_with (fail)
          go_region
          generalize hW2 : (World.setCell _ _ _).drew = W2
          have HT2 : Aside0 (TB W2 base g cols ((rows.set cols.length (rd_L1 rows a)).set a (rd_L1 rows cols.length)) (.slice A cols.length cc) (.slice (some ⟨gr, 0, none⟩) rows.length cr)) := ⟨by rw [← hW2]; exact (HT.out.swap cols.length a hlk hlt HRA.out HRK.out).below (below_drew (Below.refl _ _))⟩
          have HB2 : Aside0 (Below base wr W2) := ⟨by rw [← hW2]; exact below_drew ((((Below.refl base wr)).setCell (HT.out.rowblk.2.1) _).setCell (HT.out.rowblk.2.1) _)⟩
          clear hW2 hc0 hc1 hx hx1 hxk hfa hfk HT HC
          have hlen2 : ((rows.set cols.length (rd_L1 rows a)).set a (rd_L1 rows cols.length)).length = rows.length := by simp
          have hrd : rd_L1 ((rows.set cols.length (rd_L1 rows a)).set a (rd_L1 rows cols.length)) (cols.length : Int) = rd_L1 rows (a : Int) := rd_swap hlk
          generalize hr2 : ((rows.set cols.length (rd_L1 rows a)).set a (rd_L1 rows cols.length)) = r2 at HT2 hlen2 hrd
          obtain ⟨At, ct, hxt, hRt⟩ := HT2.out.rowR (cols.length : Int) hk0 (by rw [hlen2]; exact hk1)
          rw [hrd, Int.toNat_natCast] at hxt
          rw [hrd] at hRt
          obtain ⟨_, hlt2, hCt⟩ := Kd.R_reads' hRt
          have HCT := Aside0.mk hCt
          have HLT := Aside0.mk hlt2
          have hc12 := HT2.out.c1
          clear hRt hCt hlt2
          have hh := HH.out
          rw [table_leadTo, if_neg (by omega), hr2] at hh
          obtain ⟨⟨s1, s2⟩, hs, hh⟩ := Option.bind_eq_some_iff.mp hh
          have HS := Aside0.mk hs
          have HH2 := Aside0.mk hh
          have HLEN2 := Aside0.mk hlen2
          clear hs hh HH hr2 hrd hlen2
          go_wp2_with (fail)
          refine (vector_Prim.calls k At ct (rd_L1 rows (a : Int)) s1 s2 _ HCT.out HLT.out HS.out).mono ?_
          rintro e3 w3 ⟨v3, rfl, hR, hb⟩
          obtain ⟨A3, c3, rfl, hl3, hC3⟩ := Kd.R_reads hR
          have HT3 := Aside0.mk (HT2.out.below hb)
          have HB3 : Aside0 (Below base wr w3) := ⟨HB2.out.trans (hb.mono HT2.out.le)⟩
          have hc13 := HT3.out.c1
          have hc03 := HT3.out.c0
          have HR3 := Aside0.mk (Kd.R_lower hR HT2.out.le)
          have hfk3 := HT3.out.frozen cols.length
          obtain ⟨At3, ct3, hxt3, _⟩ := HT3.out.rowR (cols.length : Int) hk0 (by rw [HLEN2.out]; exact hk1)
          rw [Int.toNat_natCast] at hxt3
          have HL3 := Aside0.mk hl3
          have HC3 := Aside0.mk hC3
          clear hR hb hl3 hC3 hxt hc12
          by_cases hs2 : s2 = 0
          · subst hs2
            have hh := HH2.out
            simp only [if_true] at hh
            by_cases hcl : 0 ≤ c ∧ c < (s1.length : Int)
            case neg => rw [if_neg hcl] at hh; cases hh
            rw [if_pos hcl] at hh
            obtain ⟨hcl0, hcl1⟩ := hcl
            obtain ⟨a3, ea3, hx3⟩ := Kd.at_int HC3.out c hcl0 hcl1
            cases ea3
            by_cases hneg : rd s1 c < 0
            · rw [if_pos hneg] at hh
              obtain ⟨⟨q1, q2⟩, hq, hh⟩ := Option.bind_eq_some_iff.mp hh
              have HQ := Aside0.mk hq
              have HH3 := Aside0.mk hh
              have hd3 : decide (rd s1 c < 0) = true := decide_eq_true hneg
              have HNEG := Aside0.mk hneg
              clear hh hq HH2 hneg
              go_wp2_with (fail)
              refine (vector_Scale.calls _ _ s1 _ q1 q2 _ HC3.out HL3.out HQ.out).mono ?_
              rintro e4 w4 ⟨v4, rfl, hR, hb⟩
              obtain ⟨A4, c4, rfl, hl4, hC4⟩ := Kd.R_reads hR
              have HT4 := Aside0.mk (HT3.out.below hb)
              have HB4 : Aside0 (Below base wr w4) := ⟨HB3.out.trans (hb.mono HT3.out.le)⟩
              have hc14 := HT4.out.c1
              have hc04 := HT4.out.c0
              have HR4 := Aside0.mk (Kd.R_lower hR HT3.out.le)
              have hfk4 := HT4.out.frozen cols.length
              obtain ⟨At4, ct4, hxt4, _⟩ := HT4.out.rowR (cols.length : Int) hk0 (by rw [HLEN2.out]; exact hk1)
              rw [Int.toNat_natCast] at hxt4
              clear hR hb hl4 hC4 hc13 hc03 hfk3 hxt3 hx3
              by_cases hq2 : q2 = 0
              · subst hq2
                have hh := HH3.out
                simp only [if_true] at hh
                cases hh
                go_wp2_with (fail)
                have hT5 := HT4.out.put (cols.length : Int) hk0 (by rw [HLEN2.out]; exact hk1) HR4.out (Nat.le_refl _)
                rw [Int.toNat_natCast] at hT5
                have HT5 := Aside0.mk hT5
                have HB5 := Aside0.mk (HB4.out.setCell HT4.out.rowblk.2.1 (Value.slice A4 q1.length c4) (p := ⟨gr, cols.length, none⟩))
                clear hT5 hc14 hc04 hfk4 hxt4
                refine (pivots_add.calls c base g cols _ _ _ _ HT5.out (by have := HR1.out; omega)).mono ?_
                rintro e6 w6 ⟨u6, cv6, rfl, hT6, hB6⟩
                have HT6 := Aside0.mk hT6
                have HB6 := Aside0.mk hB6
                clear hT6 hB6
                go_wp2
                try rw [Exit.noGoto_ret]
                go_ret2
                exact ⟨rfl, _, HT6.out, HB5.out.trans HB6.out⟩
              · have hh := HH3.out
                simp only [if_neg hq2] at hh
                have hq3 : (q2 == 0) = false := beq_eq_false_iff_ne.mpr hq2
                have hq4 : (q2 != 0) = true := bne_iff_ne.mpr hq2
                cases hh
                clear hq2 
                go_wp2
                try rw [Exit.noGoto_ret]
                go_ret2
                exact ⟨rfl, _, HT4.out, HB4.out⟩
            · rw [if_neg hneg] at hh
              cases hh
              have hd3 : decide (rd s1 c < 0) = false := decide_eq_false hneg
              clear hneg HH2
              go_wp2_with (fail)
              have hT5 := HT3.out.put (cols.length : Int) hk0 (by rw [HLEN2.out]; exact hk1) HR3.out (Nat.le_refl _)
              rw [Int.toNat_natCast] at hT5
              have HT5 := Aside0.mk hT5
              have HB5 := Aside0.mk (HB3.out.setCell HT3.out.rowblk.2.1 (Value.slice (some a3) s1.length c3) (p := ⟨gr, cols.length, none⟩))
              clear hT5 hc13 hc03 hfk3 hxt3 hx3
              refine (pivots_add.calls c base g cols _ _ _ _ HT5.out (by have := HR1.out; omega)).mono ?_
              rintro e6 w6 ⟨u6, cv6, rfl, hT6, hB6⟩
              have HT6 := Aside0.mk hT6
              have HB6 := Aside0.mk hB6
              clear hT6 hB6
              go_wp2
              try rw [Exit.noGoto_ret]
              go_ret2
              exact ⟨rfl, _, HT6.out, HB5.out.trans HB6.out⟩
          · have hh := HH2.out
            simp only [if_neg hs2] at hh
            have hs3 : (s2 == 0) = false := beq_eq_false_iff_ne.mpr hs2
            have hs4 : (s2 != 0) = true := bne_iff_ne.mpr hs2
            cases hh
            clear hs2
            go_wp2
            try rw [Exit.noGoto_ret]
            go_ret2
            exact ⟨rfl, _, HT3.out, HB3.out⟩
    · obtain rfl : a = rows.length := by omega
      have hal1 := hal.out
      rw [List.drop_of_length_le (Nat.le_refl _), table_leadAt] at hal1
      obtain rfl := Option.some.inj hal1
      have hh := HH.out
      rw [table_leadTo, if_pos rfl] at hh
      cases hh
      clear hal hal1 hlt
      go_wp2
      try rw [Exit.noGoto_ret]
      go_ret2
      exact ⟨rfl, _, HT.out, Below.refl _ _⟩
theorem tinfo33 : (Try.prog.info? 33).map (fun i => (i.zero, i.size, i.bytes)) = some (some (.slice none 0 0), 1, 24) := by kernel_rfl
theorem tinfo2 : (Try.prog.info? 2).map (fun i => (i.zero, i.size, i.bytes)) = some (some (.int .i64 0), 1, 8) := by kernel_rfl
theorem tinfo2s : (Try.prog.info? 2).map (·.size) = some 1 := by kernel_rfl
def red_clear (k : Nat) (p c : Int) : Nat → List (List Int) → Int → Option (List (List Int) × Int)
  | 0, rows, _ => some (rows, 0)
  | d + 1, rows, i => if i = p then red_clear k p c d rows (i + 1) else if 0 ≤ c ∧ c < ((rd_L1 rows i).length : Int) then (if rd (rd_L1 rows i) c = 0 then red_clear k p c d rows (i + 1) else
      (table_clear.f k rows i p c).bind fun r => if r.2 = 0 then red_clear k p c d r.1 (i + 1) else some r) else none
def red_cols (k : Nat) : Nat → List (List Int) → List Int → Int → Option ((List (List Int) × List Int) × Int)
  | 0, rows, cols, _ => some ((rows, cols), 0)
  | d + 1, rows, cols, c => if cols.length = rows.length then some ((rows, cols), 0) else
      (table_lead.f k rows cols c).bind fun r => if r.2.2 = 0 then (if r.2.1 = true then (red_clear k ((r.1.2.length : Int) - 1) c r.1.1.length r.1.1 0).bind fun s => if s.2 = 0 then red_cols k d s.1 r.1.2 (c + 1) else some ((s.1, r.1.2), s.2) else red_cols k d r.1.1 r.1.2 (c + 1)) else some (r.1, r.2.2)
def matrix_reduce.f (k : Nat) (a : List (List Int)) : Option ((List (List Int) × List Int) × Int) :=
  if 0 < a.length ∧ a.length ≤ 1000000 ∧ ∀ r ∈ a, r.length ≤ 1000000 then (red_cols k (rd_L1 a 0).length a [] 0).bind fun r => if r.2 = 0 then (if r.1.2.length ≤ r.1.1.length then some ((r.1.1.take r.1.2.length, r.1.2), 0) else none) else some (([], []), r.2) else none
theorem rd_L1_mem {l : List (List Int)} {i : Nat} (h : i < l.length) : rd_L1 l (i : Int) ∈ l := by
  have : rd_L1 l (i : Int) = l[i] := by simp [rd_L1, List.getD_eq_getElem?_getD, h]
  rw [this]
  exact List.getElem_mem h
theorem take_L1 {l : List (List Int)} {i : Nat} (h : i < l.length) : l.take (i + 1) = l.take i ++ [rd_L1 l (i : Int)] := by
  have : rd_L1 l (i : Int) = l[i] := by simp [rd_L1, List.getD_eq_getElem?_getD, h]
  rw [this, List.take_succ_eq_append_getElem h]
theorem table_clear_len {k : Nat} {rows rows' : List (List Int)} {i p c e : Int} (h : table_clear.f k rows i p c = some (rows', e)) : rows'.length = rows.length := by
  unfold table_clear.f at h
  split at h
  case isFalse => cases h
  obtain ⟨g, _, h⟩ := Option.bind_eq_some_iff.mp h
  split at h
  · cases h; rfl
  split at h
  · cases h; rfl
  split at h
  · cases h
  obtain ⟨r, _, h⟩ := Option.bind_eq_some_iff.mp h
  split at h
  · cases h; rfl
  obtain ⟨s, _, h⟩ := Option.bind_eq_some_iff.mp h
  cases h
  simp
theorem table_lead_len {k : Nat} {rows rows' : List (List Int)} {cols cols' : List Int} {c e : Int} {f : Bool} (h : table_lead.f k rows cols c = some ((rows', cols'), f, e)) : rows'.length = rows.length ∧ cols'.length ≤ rows.length + 1 ∧ (f = true → 0 < cols'.length) := by
  unfold table_lead.f at h
  split at h
  case isFalse => cases h
  rename_i h0
  obtain ⟨_, _, h01⟩ := h0
  refine ⟨?_, ?_, ?_⟩ <;> (
    obtain ⟨at1, _, h⟩ := Option.bind_eq_some_iff.mp h
    unfold table_leadTo at h
    split at h
    · cases h; (first | (simp; done) | (simp; omega) | omega)
    obtain ⟨s, _, h⟩ := Option.bind_eq_some_iff.mp h
    split at h
    · split at h
      · split at h
        · obtain ⟨q, _, h⟩ := Option.bind_eq_some_iff.mp h
          split at h
          · cases h; (first | (simp; done) | (simp; omega) | omega)
          · cases h; (first | (simp; done) | (simp; omega) | omega)
        · cases h; (first | (simp; done) | (simp; omega) | omega)
      · cases h
    · cases h; (first | (simp; done) | (simp; omega) | omega))
theorem TB.rowsTurn {w w1 : World} {base g : Nat} {cols : List Int} {rows rows' : List (List Int)} {cv : Value} {A : Option Addr} {n cc : Nat} {v1 : Value} (h : TB w base g cols rows cv (.slice A n cc)) (ho : Kd.R (Kd.slice 2 (Kd.int .i64)) 33 w1 base (fun _ => True) v1 rows')
    (hg : w.grownBy w1 (Value.slice A n cc).ownBlock) : TB (w1.setCell ⟨g, 1, none⟩ v1) base g cols rows' cv v1 := by
  have hne : some g ≠ (Value.slice A n cc).ownBlock := Kd.R_ne h.row h.blk (by decide)
  have hb1 : w1.heap[g]? = some (.cells #[cv, .slice A n cc] 48 (0, 0)) := (hg.block g h.lt hne).trans h.blk
  have hcol : Kd.R (Kd.int .i64) 3 w1 base (fun _ => True) cv cols := Kd.R_over' h.col (Kd.R_typed h.row) (by intro q hq; simp [Kd.int, Kd.scalar] at hq; omega) hg
  refine ⟨?_, h.bas, Kd.R_set hcol hb1 (by intro q hq; simp [Kd.int, Kd.scalar] at hq; omega) _ _, Kd.R_set ho hb1 (by intro q hq; simp [Kd.slice, Kd.int, Kd.scalar] at hq; omega) _ _⟩
  have := heap_setCell_same w1 g 1 _ _ v1 hb1
  rw [this]
  rfl
theorem copy_all (ys : List Int) : ys.take (min ys.length (List.replicate ys.length (0 : Int)).length) ++ (List.replicate ys.length (0 : Int)).drop (min ys.length (List.replicate ys.length (0 : Int)).length) = ys := by simp
theorem TB.cut {w : World} {base g : Nat} {cols : List Int} {rows : List (List Int)} {cv : Value} {A : Option Addr} {n cc : Nat} (h : TB w base g cols rows cv (.slice A n cc)) {m : Nat} (hm : m ≤ rows.length) :
    TB (w.setCell ⟨g, 1, none⟩ (.slice A m cc)) base g cols (rows.take m) cv (.slice A m cc) := by
  refine ⟨?_, h.bas, Kd.R_set h.col h.blk (by intro q hq; simp [Kd.int, Kd.scalar] at hq; omega) _ _, Kd.R_set (Kd.R_take h.row hm) h.blk (by intro q hq; simp [Kd.slice, Kd.int, Kd.scalar] at hq; omega) _ _⟩
  have := heap_setCell_same w g 1 _ _ (.slice A m cc) h.blk
  rw [this]
  rfl
theorem cut_run (A : Option Addr) (n c m : Nat) (hm : m ≤ n) (hc : n ≤ c) : ∀ W : World, (Instr.slice 22 (.slice A n c) none (some (.int .i64 (m : Int))) none).run Try.prog W = .ok (.slice A m c) W := by
  obtain ⟨i0, hi, hz⟩ := Option.map_eq_some_iff.1 tinfo33
  simp only [Prod.mk.injEq] at hz
  have := (print_take_int (k := .i64) 22 33 Try.underlying22 hi hz.2.1 A c (List.replicate n 0) (m : Int) (by omega) (by simp; omega) (by simp; omega)).1
  intro W
  have h1 := this W
  simp only [List.length_replicate, Int.toNat_natCast, List.length_take, Nat.min_eq_left hm] at h1
  exact h1
theorem TB.start (w : World) : TB (w.alloc (.cells #[.slice none 0 0, .slice none 0 0] 48)) w.heap.size w.heap.size [] [] (.slice none 0 0) (.slice none 0 0) :=
  ⟨heap_alloc_new w _, Nat.le_refl _, Kd.R_nil _ _ _ _ _, Kd.R_nil _ _ _ _ _⟩
set_option maxHeartbeats 8000000 in
set_option maxRecDepth 100000 in
theorem matrix_reduce.calls (k : Nat) (A0 : Option Addr) (c0 : Nat) (l0 : List (List Int)) (rows' : List (List Int)) (cols' : List Int) (e : Int) (w : World) (hr0 : Kd.C (Kd.slice 2 (Kd.int .i64)) w A0 l0.length l0) (hc0 : l0.length ≤ c0) (h : matrix_reduce.f k l0 = some ((rows', cols'), e)) :
    Calls Try.prog 26 #[.slice A0 l0.length c0] w fun e' w' => ∃ p, e' = .returned (.tuple #[p, .int .i64 e]) ∧ Below w.heap.size w w' ∧ (e = 0 → ∃ cv rv, p = .pointer (some ⟨w.heap.size, 0, none⟩) ∧ TB w' w.heap.size w.heap.size cols' rows' cv rv) := by
  unfold matrix_reduce.f at h
  split at h
  case isFalse => cases h
  rename_i hb
  obtain ⟨hr0', hr1, hrl⟩ := hb
  obtain ⟨⟨⟨rows1, cols1⟩, e1⟩, hgo, h⟩ := Option.bind_eq_some_iff.mp h
  obtain ⟨ad0, A1, c1, ead, hx0, hl0, hin0⟩ := at_L1 hr0 0 (by omega) (by omega)
  cases ead
  rw [show ((0 : Int)).toNat = 0 from rfl, Addr.add_zero'] at hx0
  have HR := Aside0.mk hr0
  have HC := Aside0.mk hc0
  have HGO := Aside0.mk hgo
  have HH := Aside0.mk h
  have HRL := Aside0.mk hrl
  have HR1 := Aside0.mk hr1
  have HX0 := Aside0.mk hx0
  have hlen0 : (0 : Int) < (l0.length : Int) := by omega
  clear hr0 hc0 hgo h hrl hr1 hl0 hin0 hx0
  go_enter Try.func26, Try.ntmps26
  go_wp2
  go_step3
  go_wp2
  go_loopw [18] (fun s18 W => ∃ (i : Nat) (cv rv : Value), i ≤ l0.length ∧ s18 = .int .i64 (i : Int) ∧ Aside0 (TB W w.heap.size w.heap.size [] (l0.take i) cv rv) ∧ Aside0 (Below w.heap.size w W)) (fun s18 _ => l0.length - (intOf s18).toNat)
  case atStart => exact ⟨0, _, _, Nat.zero_le _, rfl, ⟨TB.start w⟩, ⟨below_alloc (Below.refl _ _) _⟩⟩
  case round =>
    obtain ⟨i, cv, rv, hi, rfl, HT, HB⟩ := hrel
    by_cases hlt : i < l0.length
    · have hlt1 : (i : Int) < (l0.length : Int) := by omega
      have hd1 : decide ((i : Int) < (l0.length : Int)) = true := decide_eq_true hlt1
      obtain ⟨ad, Ai, ci, ead, hx, hl, hin⟩ := at_L1 HR.out (i : Int) (by omega) hlt1
      cases ead
      rw [Int.toNat_natCast] at hx
      have hbx := World.block_lt_of_cell? _ _ hx
      replace hx := (HB.out.cell hbx).trans hx
      have hrow : (rd_L1 l0 (i : Int)).length ≤ 1000000 := HRL.out _ (rd_L1_mem hlt)
      have HROW := Aside0.mk hrow
      have HIN := Aside0.mk hin
      have HL := Aside0.mk hl
      have hTs : l0.take (i + 1) = l0.take i ++ [rd_L1 l0 (i : Int)] := take_L1 hlt
      have HTS := Aside0.mk hTs
      have hR1 := HR1.out
      obtain ⟨Ar, cr, rfl⟩ := Kd.R_slice HT.out.row
      have hcell := HT.out.c1
      have hgl : w.heap.size < wr.heap.size := HT.out.lt
      have hle : 0 ≤ ((rd_L1 l0 (i : Int)).length : Int) := by omega
      have hlti : (l0.take i).length = i := by simp; omega
      rw [hlti] at hcell
      have HLTI := Aside0.mk hlti
      clear hin hl hTs hbx hrow hlti
      go_wp2_with (first
        | ((with_reducible refine gate_dst (N := 24) rfl ?_); refine Kd.R_make (Kd.int .i64) (w0 := w) w.heap.size 2 rfl (N := 24) rfl 33 _ _ rfl ((rd_L1 l0 (i : Int)).length : Int) rfl rfl Try.underlying33 (.int .i64 0) 8 tinfo2 rfl (by decide) (by omega) 0 (ok := fun _ => True) (okp := fun _ => True) rfl (fun _ hk => hk) trivial (by omega) (by have := HROW.out; simp; omega) HB.out HB.out.size ?_; intro v1 w1 ho1 hb1 hg1 hat1;
           simp only [Int.toNat_natCast] at ho1; obtain ⟨A1v, c1v, rfl⟩ := Kd.R_slice ho1; rw [List.length_replicate] at ho1 hat1; have HO1 := Aside0.mk ho1; have HB1 := Aside0.mk hb1; have HAT1 := Aside0.mk hat1; have HBW1 := Aside0.mk (Below.grown (Below.refl wr.heap.size wr) hg1 (Nat.le_refl _) (by intro k hk; cases hk)); clear hcell ho1 hb1 hg1 hat1)
        | ((with_reducible refine gate_builtin (b := .copy) (xs := #[.tmp 25, .tmp 26]) rfl ?_); refine Kd.R_copy (0 : Int) (w0 := w) w.heap.size rfl (.tmp 25) (.tmp 26) 33 33 2 rfl Try.underlying33 tinfo2s (.slice A1v (rd_L1 l0 (i : Int)).length c1v) (List.replicate (rd_L1 l0 (i : Int)).length 0) (rd_L1 l0 (i : Int)) Ai _ ci (fun _ => True) rfl rfl HO1.out (Kd.C_below HIN.out HB1.out) HB1.out HB1.out.size ?_; intro w2 ho2 hb2 hg2;
           have HBW2 := Aside0.mk (HBW1.out.grown hg2 HBW1.out.size (by intro k hk; obtain ⟨b, e1, e2⟩ := HAT1.out; rw [e1] at hk; cases hk; exact e2)); have HT2 := Aside0.mk (HT.out.below HBW2.out); have HO2 : Aside0 (Kd.R (Kd.int .i64) 2 w2 w.heap.size (fun _ => True) (.slice A1v (rd_L1 l0 (i : Int)).length c1v) (rd_L1 l0 (i : Int))) := ⟨by rw [copy_all] at ho2; exact ho2⟩; have HB2 := Aside0.mk hb2; have hcell2 := HT2.out.c1; rw [HLTI.out] at hcell2; clear ho2 hb2 hg2)
        | ((with_reducible refine gate_builtin (b := .append) (xs := #[.tmp 32, .tmp 34]) rfl ?_); at_builtin; refine Kd.R_append (Kd.slice 2 (Kd.int .i64)) (w0 := w) w.heap.size rfl (.tmp 32) (.tmp 34) 22 33 (.slice none 0 0) 24 rfl Try.underlying22 tinfo33 rfl (by decide) (by omega) (.slice Ar i cr) (l0.take i) (rd_L1 l0 (i : Int)) [.slice A1v (rd_L1 l0 (i : Int)).length c1v] (fun _ => True) (fun k => True ∧ some k ≠ (Value.slice Ar i cr).ownBlock) rfl rfl ?aP (fun _ hk => hk) ?aF ?aO ?aB ?aS ?aL ?_; (case aP => exact ⟨_, rfl, Kd.R_apart' HO2.out (by have := Kd.R_typed HT2.out.row; rw [HLTI.out] at this; exact this) (by intro q hq; simp [Kd.int, Kd.scalar] at hq; omega)⟩); (case aB => exact HB2.out); (case aF => exact (fun _ _ => trivial)); (case aO => have := HT2.out.row; rw [HLTI.out] at this; exact this); (case aS => exact HB2.out.size); (case aL => rw [HLTI.out]; omega);
           intro v3 w3 ho hb hg hat; obtain ⟨A3, c3, rfl⟩ := Kd.R_slice ho; have hb3 : w3.heap[w.heap.size]? = some (.cells #[cv, .slice Ar i cr] 48 (0, 0)) := (by have h9 := (hg.block w.heap.size HT2.out.lt (by have h8 := Kd.R_ne HT2.out.row HT2.out.blk (by decide); rw [HLTI.out] at h8; exact h8)).trans HT2.out.blk; rw [HLTI.out] at h9; exact h9); have hx3 : w3.cell? ⟨w.heap.size, 1, none⟩ = some (.slice Ar i cr) := (by rw [cell_of_row w3 _ _ _ 48 (0, 0) hb3]; rfl); have hfz : w3.frozen? ⟨w.heap.size, 1, none⟩ = false := blk_frozen hb3 _; have HO := Aside0.mk ho; have HB3 := Aside0.mk hb; have HGR := Aside0.mk hg; clear ho hb hg hat hb3 hcell2))
      go_roundw
      case measure => simp [intOf]; omega
      case rel =>
        have hT3 := TB.rowsTurn (A := Ar) (n := i) (cc := cr) (w := w2) (by have := HT2.out; rw [HLTI.out] at this; exact this) HO.out HGR.out
        rw [← HTS.out] at hT3
        have hl4 : (l0.take (i + 1)).length = i + 1 := by simp; omega
        rw [hl4] at hT3
        exact ⟨i + 1, cv, _, by omega, by go_num, ⟨hT3⟩, ⟨HB3.out.setCell (Nat.le_refl _) _⟩⟩
    · obtain rfl : i = l0.length := by omega
      have hT := HT.out
      rw [List.take_length] at hT
      have HT0 := Aside0.mk hT
      have hx0 := HX0.out
      replace hx0 := (HB.out.cell (World.block_lt_of_cell? _ _ hx0)).trans hx0
      have hz0 : (0 : Int) ≤ 0 := Int.le_refl _
      clear hT HT hlt
      go_wp2
      go_step3
      go_wp2
      clear hx0 hz0
      go_loopw [43] (fun s43 W => ∃ (c : Nat) (rows : List (List Int)) (cols : List Int) (cv rv : Value), c ≤ (rd_L1 l0 0).length ∧ s43 = .int .i64 (c : Int) ∧ Aside0 (rows.length = l0.length) ∧ Aside0 (red_cols k ((rd_L1 l0 0).length - c) rows cols (c : Int) = some ((rows1, cols1), e1)) ∧ Aside0 (TB W w.heap.size w.heap.size cols rows cv rv) ∧ Aside0 (Below w.heap.size w W)) (fun s43 _ => (rd_L1 l0 0).length - (intOf s43).toNat)
      case atStart => exact ⟨0, l0, [], _, _, Nat.zero_le _, rfl, ⟨rfl⟩, HGO, HT0, HB⟩
      case round =>
        clear HT0 HB
        obtain ⟨c, rows, cols, cv, rv, hc, rfl, HLN, HGO, HT, HB⟩ := hrel
        obtain ⟨Ac, cc, rfl⟩ := Kd.R_slice HT.out.col
        obtain ⟨Ar, cr, rfl⟩ := Kd.R_slice HT.out.row
        have hc0 := HT.out.c0
        have hc1 := HT.out.c1
        by_cases hlt : c < (rd_L1 l0 0).length
        · have hlt1 : (c : Int) < ((rd_L1 l0 0).length : Int) := by omega
          have hd1 : decide ((c : Int) < ((rd_L1 l0 0).length : Int)) = true := decide_eq_true hlt1
          have hgo := HGO.out
          rw [show (rd_L1 l0 0).length - c = ((rd_L1 l0 0).length - (c + 1)) + 1 by omega, red_cols] at hgo
          by_cases hfull : cols.length = rows.length
          · rw [if_pos hfull] at hgo
            have hf1 : ((cols.length : Int) == (rows.length : Int)) = true := beq_iff_eq.mpr (by omega)
            have HFULL := Aside0.mk hfull
            clear hfull
            cases hgo
            go_wp2
            go_quiet ((go_at_call 27; refine Calls.quiet_of_same (pivots_rank.calls w.heap.size Ac _ cc _ hc0)))
            go_wp2
            generalize hwq : World.drewN _ _ = wq
            have hTq : TB wq w.heap.size w.heap.size cols1 rows1 (.slice Ac cols1.length cc) (.slice Ar rows1.length cr) := by rw [← hwq]; exact HT.out.below (pw_below_drewN (Below.refl _ _) _)
            have hBq : Below w.heap.size w wq := by rw [← hwq]; exact pw_below_drewN HB.out _
            have HTQ := Aside0.mk hTq
            have HBQ := Aside0.mk hBq
            have hq0 := hTq.c0
            have hq1 := hTq.c1
            have hqf : wq.frozen? ⟨w.heap.size, 1, none⟩ = false := blk_frozen hTq.blk _
            have hH := HH.out
            simp only [if_true] at hH
            have hle2 : cols1.length ≤ rows1.length := by rw [HFULL.out]; exact Nat.le_refl _
            have hsl := cut_run Ar rows1.length cr cols1.length hle2 (Kd.R_reads' hTq.row).2.1
            rw [if_pos hle2] at hH
            cases hH
            have HLE := Aside0.mk hle2
            clear hwq hTq hBq hc0 hc1 HT HB HGO hle2
            go_region_with ((go_at_call 27; refine (pivots_rank.calls w.heap.size Ac _ cc _ (by assumption)).mono ?_; rintro e5 w5 ⟨rfl, rfl⟩))
            all_goals go_wp2
            all_goals (try rw [Exit.noGoto_ret])
            all_goals go_ret2
            all_goals exact ⟨_, rfl, below_drew (HBQ.out.setCell (Nat.le_refl _) _), fun _ => ⟨_, _, rfl, (HTQ.out.cut HLE.out).below (below_drew (Below.refl _ _))⟩⟩
          · rw [if_neg hfull] at hgo
            have hf1 : ((cols.length : Int) == (rows.length : Int)) = false := beq_eq_false_iff_ne.mpr (by omega)
            obtain ⟨⟨⟨rows2, cols2⟩, found, e2⟩, hlead, hgo⟩ := Option.bind_eq_some_iff.mp hgo
            have HLEAD := Aside0.mk hlead
            obtain ⟨hln2, hpos2, hcp2⟩ := table_lead_len hlead
            have HLN2 : Aside0 (rows2.length = l0.length) := ⟨by rw [hln2]; exact HLN.out⟩
            have HGO2 := Aside0.mk hgo
            have HCP := Aside0.mk hcp2
            have HPOS := Aside0.mk hpos2
            clear hfull hgo hlead hln2 hpos2 hcp2
            go_wp2
            go_quiet ((go_at_call 27; refine Calls.quiet_of_same (pivots_rank.calls w.heap.size Ac _ cc _ hc0)))
            go_wp2_with (fail)
            refine (table_lead.calls k (c : Int) w.heap.size w.heap.size cols rows _ _ rows2 cols2 found e2 _ (HT.out.below (pw_below_drewN (Below.refl _ _) _)) HLEAD.out).mono ?_
            rintro e3 w3 ⟨rfl, cv3, hT3, hB3⟩
            obtain ⟨Ac3, cc3, rfl⟩ := Kd.R_slice hT3.col
            have HT3 := Aside0.mk hT3
            have HB3 : Aside0 (Below w.heap.size w w3) := ⟨(pw_below_drewN HB.out _).trans hB3⟩
            have hc03 := hT3.c0
            have hc13 := hT3.c1
            clear hT3 hB3 hc0 hc1 HT HB HGO HLEAD
            by_cases he2 : e2 = 0
            · subst he2
              cases found
              · have hgo : red_cols k ((rd_L1 l0 0).length - (c + 1)) rows2 cols2 ((c : Int) + 1) = some ((rows1, cols1), e1) := by simpa using HGO2.out
                have HG := Aside0.mk hgo
                clear hgo HGO2
                have hlenb : (rd_L1 l0 0).length ≤ 1000000 := HRL.out _ (rd_L1_mem (i := 0) (by omega))
                go_wp2
                go_roundw
                case measure => simp [intOf]; omega
                case rel => exact ⟨c + 1, rows2, cols2, _, _, by omega, by go_num, HLN2, ⟨by rw [show ((c + 1 : Nat) : Int) = (c : Int) + 1 by omega]; exact HG.out⟩, HT3, HB3⟩
              · obtain ⟨⟨rows3, e3⟩, hcl, hgo⟩ : ∃ q, red_clear k ((cols2.length : Int) - 1) c rows2.length rows2 0 = some q ∧ (if q.2 = 0 then red_cols k ((rd_L1 l0 0).length - (c + 1)) q.1 cols2 ((c : Int) + 1) else some ((q.1, cols2), q.2)) = some ((rows1, cols1), e1) := by
                  have := HGO2.out
                  simp only [if_true] at this
                  exact Option.bind_eq_some_iff.mp this
                have HCL := Aside0.mk hcl
                have HG := Aside0.mk hgo
                have hcp := HCP.out rfl
                have hub : cols2.length ≤ 1000001 := by have := HPOS.out; have := HLN.out; have := HR1.out; omega
                have hln2 : rows2.length ≤ 1000000 := by have := HLN2.out; have := HR1.out; omega
                clear hgo hcl HGO2
                go_wp2_with (fail)
                refine (pivots_rank.calls w.heap.size Ac3 _ cc3 _ hc03).mono ?_
                rintro e5 w5 ⟨rfl, hw⟩
                have hw := hw.symm
                subst hw
                obtain ⟨Ar3, cr3, hrv3⟩ := Kd.R_slice HT3.out.row
                rw [hrv3] at hc13
                go_wp2
                clear hc03 hc13 hf1 hd1
                go_loopw [77] (fun s77 W => ∃ (i : Nat) (rowsq : List (List Int)) (cvq rvq : Value), i ≤ rows2.length ∧ s77 = .int .i64 (i : Int) ∧ Aside0 (rowsq.length = rows2.length) ∧ Aside0 (red_clear k ((cols2.length : Int) - 1) c (rows2.length - i) rowsq (i : Int) = some (rows3, e3)) ∧ Aside0 (TB W w.heap.size w.heap.size cols2 rowsq cvq rvq) ∧ Aside0 (Below w.heap.size w W)) (fun s77 _ => rows2.length - (intOf s77).toNat)
                case atStart => exact ⟨0, rows2, _, _, Nat.zero_le _, rfl, ⟨rfl⟩, HCL, HT3, HB3⟩
                case round =>
                  clear HT3 HB3 HCL hrv3
                  obtain ⟨i, rowsq, cvq, rvq, hi, rfl, HLQ, HCQ, HTQ, HBQ⟩ := hrel
                  by_cases hit : i < rows2.length
                  · have hit1 : (i : Int) < (rows2.length : Int) := by omega
                    have hdi : decide ((i : Int) < (rows2.length : Int)) = true := decide_eq_true hit1
                    have hcq := HCQ.out
                    rw [show rows2.length - i = (rows2.length - (i + 1)) + 1 by omega, red_clear] at hcq
                    have hlq : rowsq.length = rows2.length := HLQ.out
                    by_cases hip : (i : Int) = (cols2.length : Int) - 1
                    · rw [if_pos hip] at hcq
                      have hip1 : ((i : Int) == (cols2.length : Int) - 1) = true := beq_iff_eq.mpr hip
                      have HCQ2 := Aside0.mk hcq
                      clear hcq HCQ hip
                      go_wp2
                      go_roundw
                      case measure => simp [intOf]; omega
                      case rel => exact ⟨i + 1, rowsq, _, _, by omega, by go_num, HLQ, ⟨by rw [show ((i + 1 : Nat) : Int) = (i : Int) + 1 by omega]; exact HCQ2.out⟩, HTQ, HBQ⟩
                    · rw [if_neg hip] at hcq
                      have hip1 : ((i : Int) == (cols2.length : Int) - 1) = false := beq_eq_false_iff_ne.mpr hip
                      by_cases hcc : 0 ≤ (c : Int) ∧ (c : Int) < ((rd_L1 rowsq (i : Int)).length : Int)
                      case neg => rw [if_neg hcc] at hcq; cases hcq
                      rw [if_pos hcc] at hcq
                      obtain ⟨hcc0, hcc1⟩ := hcc
                      obtain ⟨grq, crq, rfl, _, _, _⟩ := Kd.R_form HTQ.out.row (by omega)
                      obtain ⟨_, _, hCq⟩ := Kd.R_reads' HTQ.out.row
                      have hq1 := HTQ.out.c1
                      obtain ⟨ad, Aa, ca, ead, hx, hl, hin⟩ := at_L1 hCq (i : Int) (by omega) (by omega)
                      cases ead
                      (first | simp only [add_plain] at hx | simp only [add_at] at hx | simp only [Addr.add, Nat.zero_add] at hx)
                      rw [Int.toNat_natCast] at hx
                      obtain ⟨a1, ea1, hx1⟩ := Kd.at_int hin (c : Int) hcc0 hcc1
                      cases ea1
                      rw [Int.toNat_natCast] at hx1
                      have hiq : (i : Int) < (rowsq.length : Int) := by omega
                      by_cases hz : rd (rd_L1 rowsq (i : Int)) (c : Int) = 0
                      · rw [if_pos hz] at hcq
                        have hz1 : (rd (rd_L1 rowsq (i : Int)) (c : Int) == 0) = true := beq_iff_eq.mpr hz
                        have HCQ2 := Aside0.mk hcq
                        clear hcq HCQ hip hz hl hin hCq
                        go_wp2
                        go_roundw
                        case measure => simp [intOf]; omega
                        case rel => exact ⟨i + 1, rowsq, _, _, by omega, by go_num, HLQ, ⟨by rw [show ((i + 1 : Nat) : Int) = (i : Int) + 1 by omega]; exact HCQ2.out⟩, HTQ, HBQ⟩
                      · rw [if_neg hz] at hcq
                        have hz1 : (rd (rd_L1 rowsq (i : Int)) (c : Int) == 0) = false := beq_eq_false_iff_ne.mpr hz
                        obtain ⟨⟨rows5, e5⟩, hclr, hcq⟩ := Option.bind_eq_some_iff.mp hcq
                        have HCLR := Aside0.mk hclr
                        have HCQ2 := Aside0.mk hcq
                        have HL5 : Aside0 (rows5.length = rows2.length) := ⟨by rw [table_clear_len hclr]; exact hlq⟩
                        clear hcq HCQ hip hz hl hin hCq hclr
                        go_wp2_with (fail)
                        refine (table_clear.calls k (i : Int) ((cols2.length : Int) - 1) (c : Int) w.heap.size w.heap.size cols2 rowsq _ _ rows5 e5 _ HTQ.out HCLR.out).mono ?_
                        rintro e7 w7 ⟨rfl, hT7, hB7⟩
                        have HT7 := Aside0.mk hT7
                        have HB7 : Aside0 (Below w.heap.size w w7) := ⟨HBQ.out.trans hB7⟩
                        clear hT7 hB7 HTQ HBQ hx hx1 hq1
                        by_cases he5 : e5 = 0
                        · subst he5
                          have HCQ3 : Aside0 (red_clear k ((cols2.length : Int) - 1) c (rows2.length - (i + 1)) rows5 ((i : Int) + 1) = some (rows3, e3)) := ⟨by simpa using HCQ2.out⟩
                          clear HCQ2
                          go_wp2
                          go_roundw
                          case measure => simp [intOf]; omega
                          case rel => exact ⟨i + 1, rows5, _, _, by omega, by go_num, HL5, ⟨by rw [show ((i + 1 : Nat) : Int) = (i : Int) + 1 by omega]; exact HCQ3.out⟩, HT7, HB7⟩
                        · have he6 : (e5 == 0) = false := beq_eq_false_iff_ne.mpr he5
                          have he7 : (e5 != 0) = true := bne_iff_ne.mpr he5
                          have hH := HH.out
                          have hcq := HCQ2.out
                          rw [if_neg he5] at hcq
                          have hg := HG.out
                          cases hcq
                          rw [if_neg he5] at hg
                          cases hg
                          rw [if_neg he5] at hH
                          cases hH
                          clear HCQ2 HG HH
                          go_wp2
                          try rw [Exit.noGoto_ret]
                          go_ret2
                          exact ⟨_, rfl, HB7.out, fun h0 => absurd h0 he5⟩
                  · obtain rfl : i = rows2.length := by omega
                    have hcq := HCQ.out
                    rw [Nat.sub_self, red_clear] at hcq
                    cases hcq
                    have HG2 : Aside0 (red_cols k ((rd_L1 l0 0).length - (c + 1)) rows3 cols2 ((c : Int) + 1) = some ((rows1, cols1), e1)) := ⟨by simpa using HG.out⟩
                    have hlenb : (rd_L1 l0 0).length ≤ 1000000 := HRL.out _ (rd_L1_mem (i := 0) (by omega))
                    have HLQ2 : Aside0 (rows3.length = l0.length) := ⟨by have := HLQ.out; have := HLN2.out; omega⟩
                    clear HCQ HG hit
                    go_wp2
                    go_roundw
                    case measure => simp [intOf]; omega
                    case rel => exact ⟨c + 1, rows3, cols2, _, _, by omega, by go_num, HLQ2, ⟨by rw [show ((c + 1 : Nat) : Int) = (c : Int) + 1 by omega]; exact HG2.out⟩, HTQ, HBQ⟩
            · have hgo := HGO2.out
              rw [if_neg he2] at hgo
              have he3 : (e2 == 0) = false := beq_eq_false_iff_ne.mpr he2
              have he4 : (e2 != 0) = true := bne_iff_ne.mpr he2
              have hH := HH.out
              clear HGO2 
              cases hgo
              rw [if_neg he2] at hH
              cases hH
              go_wp2
              try rw [Exit.noGoto_ret]
              go_ret2
              exact ⟨_, rfl, HB3.out, fun h0 => absurd h0 he2⟩
        · have hce : c = (rd_L1 l0 0).length := by omega
          subst hce
          have hgo := HGO.out
          rw [Nat.sub_self, red_cols] at hgo
          cases hgo
          have hH := HH.out
          simp only [if_true] at hH
          by_cases hle2 : cols1.length ≤ rows1.length
          case neg => rw [if_neg hle2] at hH; cases hH
          have HLE := Aside0.mk hle2
          have hsl := cut_run Ar rows1.length cr cols1.length hle2 (Kd.R_reads' HT.out.row).2.1
          have hqf : wr.frozen? ⟨w.heap.size, 1, none⟩ = false := blk_frozen HT.out.blk _
          rw [if_pos hle2] at hH
          cases hH
          clear HGO hle2 hlt
          go_wp2
          go_region_with ((go_at_call 27; refine (pivots_rank.calls w.heap.size Ac _ cc _ (by assumption)).mono ?_; rintro e5 w5 ⟨rfl, rfl⟩))
          all_goals go_wp2
          all_goals (try rw [Exit.noGoto_ret])
          all_goals go_ret2
          all_goals exact ⟨_, rfl, below_drew (HB.out.setCell (Nat.le_refl _) _), fun _ => ⟨_, _, rfl, (HT.out.cut HLE.out).below (below_drew (Below.refl _ _))⟩⟩
theorem table_clear.mono (rows : List (List Int)) (i p c : Int) (k : Nat) : LeO (table_clear.f k rows i p c) (table_clear.f (k + 1) rows i p c) := by
  unfold table_clear.f
  refine LeO.ite ?_ (LeO.none _)
  refine LeO.bind (LeO.refl _) (fun g => LeO.ite (LeO.refl _) (LeO.ite (LeO.refl _) (LeO.ite (LeO.none _) (LeO.bind (LeO.refl _) (fun r => LeO.ite (LeO.refl _) (LeO.bind (vector_Prim.mono _ _) (fun _ => LeO.refl _)))))))
theorem table_lead.mono (rows : List (List Int)) (cols : List Int) (c : Int) (k : Nat) : LeO (table_lead.f k rows cols c) (table_lead.f (k + 1) rows cols c) := by
  unfold table_lead.f table_leadTo
  refine LeO.ite (LeO.bind (LeO.refl _) (fun a => LeO.ite (LeO.refl _) (LeO.bind (vector_Prim.mono _ _) (fun _ => LeO.refl _)))) (LeO.none _)
theorem red_clear.mono (p c : Int) (k : Nat) : ∀ (d : Nat) (rows : List (List Int)) (i : Int), LeO (red_clear k p c d rows i) (red_clear (k + 1) p c d rows i)
  | 0, _, _ => LeO.refl _
  | d + 1, rows, i => by
    rw [red_clear, red_clear]
    exact LeO.ite (red_clear.mono p c k d _ _) (LeO.ite (LeO.ite (red_clear.mono p c k d _ _) (LeO.bind (table_clear.mono _ _ _ _ _) (fun r => LeO.ite (red_clear.mono p c k d _ _) (LeO.refl _)))) (LeO.none _))
theorem red_cols.mono (k : Nat) : ∀ (d : Nat) (rows : List (List Int)) (cols : List Int) (c : Int), LeO (red_cols k d rows cols c) (red_cols (k + 1) d rows cols c)
  | 0, _, _, _ => LeO.refl _
  | d + 1, rows, cols, c => by
    rw [red_cols, red_cols]
    exact LeO.ite (LeO.refl _) (LeO.bind (table_lead.mono _ _ _ _) (fun r => LeO.ite (LeO.ite (LeO.bind (red_clear.mono _ _ k _ _ _) (fun s => LeO.ite (red_cols.mono k d _ _ _) (LeO.refl _))) (red_cols.mono k d _ _ _)) (LeO.refl _)))
theorem matrix_reduce.mono (a : List (List Int)) (k : Nat) : LeO (matrix_reduce.f k a) (matrix_reduce.f (k + 1) a) := by
  unfold matrix_reduce.f
  exact LeO.ite (LeO.bind (red_cols.mono k _ _ _ _) (fun _ => LeO.refl _)) (LeO.none _)
theorem reduce_bad {k : Nat} {a : List (List Int)} {rows : List (List Int)} {cols : List Int} {e : Int} (h : matrix_reduce.f k a = some ((rows, cols), e)) (he : e ≠ 0) : rows = [] ∧ cols = [] := by
  unfold matrix_reduce.f at h
  split at h
  case isFalse => cases h
  obtain ⟨r, _, h⟩ := Option.bind_eq_some_iff.mp h
  split at h
  · split at h
    · cases h; exact absurd rfl he
    · cases h
  · cases h; exact ⟨rfl, rfl⟩

end Go.Proofs.Ytckefohfahphpaa.Z
