/- What the functions that TransformComplements calls compute: printed out of the interpreter's normal forms (wip/vi/vigen.py) and proved. -/
import Derived.Test.YtlfhhfjlflccgaaDoorVTransformComplements0
import Derived.Test.YtlfhhfjlflccgaaDoorProg
set_option linter.unusedVariables false
set_option linter.unusedSimpArgs false
set_option maxRecDepth 100000
set_option maxHeartbeats 4000000
noncomputable section
namespace Go.VI
open Go Go.Proofs
theorem beq0 {x : Int} : (x == 0) = true ↔ x = 0 := by simp
theorem sEq_iff {x y : BA} : sEq x y = true ↔ x = y := by
 unfold sEq
 simp only [beq_iff_eq]
 exact ⟨fun h => ByteArray.ext (Array.ext' h), fun h => by rw [h]⟩
structure ArcsOk (np : Int) (l : List (Int × Int)) : Prop where
 rg : ∀ a ∈ l, (0 ≤ a.1 ∧ a.1 < np) ∧ 1 ≤ a.2 ∧ a.2 ≤ 99
 up : l.Pairwise fun a b => a.1 < b.1
theorem arcsE_iff {np : Int} : ∀ (l : List (Int × Int)) (prev : Option Int), arcsE np prev l = 0 ↔ ArcsOk np l ∧ ∀ q, prev = some q → ∀ a ∈ l, q < a.1
 | [], prev => by
  simp only [arcsE, true_iff]
  exact ⟨⟨fun a h => (by cases h), List.Pairwise.nil⟩, fun q _ a h => by cases h⟩
 | a :: l, prev => by
  have e0 : arcsE np prev (a :: l) = cond (decide (a.1 < 0) || decide (np ≤ a.1)) (7 : Int) (cond (match prev with | some q => decide (a.1 ≤ q) | none => false) (8 : Int) (cond (decide (a.2 < 1) || decide (99 < a.2)) (9 : Int) (arcsE np (some a.1) l))) := by cases prev <;> rfl
  rw [e0]
  have ih := arcsE_iff (np := np) l (some a.1)
  cases h1 : (decide (a.1 < 0) || decide (np ≤ a.1))
  ·
   simp only [Bool.or_eq_false_iff, decide_eq_false_iff_not, Int.not_lt, Int.not_le] at h1
   cases h2 : (match prev with | some q => decide (a.1 ≤ q) | none => false)
   ·
    cases h3 : (decide (a.2 < 1) || decide (99 < a.2))
    ·
     simp only [Bool.or_eq_false_iff, decide_eq_false_iff_not, Int.not_lt] at h3
     simp only [cond_false]
     rw [ih]
     constructor
     ·
      rintro ⟨⟨h4, h5⟩, h6⟩
      have h7 := h6 a.1 rfl
      refine ⟨⟨fun b hb => ?_, List.pairwise_cons.2 ⟨h7, h5⟩⟩, fun q hq b hb => ?_⟩
      ·
       rcases List.mem_cons.1 hb with rfl | hb
       ·
        exact ⟨h1, h3⟩
       ·
        exact h4 b hb
      ·
       subst hq
       simp only [decide_eq_false_iff_not, Int.not_le] at h2
       rcases List.mem_cons.1 hb with rfl | hb
       ·
        exact h2
       ·
        have := h7 b hb; omega
     ·
      rintro ⟨⟨h4, h5⟩, h6⟩
      exact ⟨⟨fun b hb => h4 b (by simp [hb]), (List.pairwise_cons.1 h5).2⟩, fun q hq b hb => by cases hq; exact (List.pairwise_cons.1 h5).1 b hb⟩
    ·
     simp only [cond_true, cond_false]
     constructor
     ·
      intro h; cases h
     ·
      rintro ⟨⟨h4, h5⟩, h6⟩
      have := (h4 a (by simp)).2
      simp only [Bool.or_eq_true, decide_eq_true_eq] at h3
      omega
   ·
    simp only [cond_true, cond_false]
    constructor
    ·
     intro h; cases h
    ·
     rintro ⟨_, h6⟩
     cases prev with
     | none => cases h2
     | some q =>
      have := h6 q rfl a (by simp)
      simp only [decide_eq_true_eq] at h2
      omega
  ·
   simp only [cond_true]
   constructor
   ·
    intro h; cases h
   ·
    rintro ⟨⟨h4, h5⟩, h6⟩
    have := (h4 a (by simp)).1
    simp only [Bool.or_eq_true, decide_eq_true_eq] at h1
    omega
theorem arcsE_ok {np : Int} {l : List (Int × Int)} : arcsE np none l = 0 ↔ ArcsOk np l := by
 rw [arcsE_iff]
 exact ⟨fun h => h.1, fun h => ⟨h, fun q hq => by cases hq⟩⟩
theorem asc_len : ∀ (l : List (Int × Int)) (lo hi : Int), l.Pairwise (fun a b => a.1 < b.1) → (∀ a ∈ l, lo ≤ a.1 ∧ a.1 < hi) → lo ≤ hi → (l.length : Int) ≤ hi - lo
 | [], lo, hi, _, _, h => by simp; omega
 | a :: l, lo, hi, hp, hr, h => by
  have h1 := hr a (by simp)
  have := asc_len l (a.1 + 1) hi (List.pairwise_cons.1 hp).2 (fun b hb => ⟨by have := (List.pairwise_cons.1 hp).1 b hb; omega, (hr b (by simp [hb])).2⟩) (by omega)
  simp only [List.length_cons]
  omega
theorem ArcsOk.len {np : Int} {l : List (Int × Int)} (h : ArcsOk np l) (h0 : 0 ≤ np) : (l.length : Int) ≤ np := by
 have := asc_len l 0 np h.up (fun a ha => (h.rg a ha).1) h0
 omega
structure TransOk (np : Int) (t : TransT) : Prop where
 name : nameOk t.1 = true
 prio : 0 ≤ t.2.2.2.2 ∧ t.2.2.2.2 ≤ 9
 pre : ArcsOk np t.2.1
 post : ArcsOk np t.2.2.1
 inh : ArcsOk np t.2.2.2.1
theorem transE_ok {np : Int} {t : TransT} : transE t np = 0 ↔ (0 ≤ t.2.2.2.2 ∧ t.2.2.2.2 ≤ 9) ∧ ArcsOk np t.2.1 ∧ ArcsOk np t.2.2.1 ∧ ArcsOk np t.2.2.2.1 := by
 unfold transE
 rw [← arcsE_ok, ← arcsE_ok, ← arcsE_ok]
 cases h1 : (decide (t.2.2.2.2 < 0) || decide (9 < t.2.2.2.2))
 ·
  simp only [Bool.or_eq_false_iff, decide_eq_false_iff_not, Int.not_lt] at h1
  simp only [cond_false]
  cases h2 : (arcsE np none t.2.1 == 0)
  ·
   simp only [beq_eq_false_iff_ne, ne_eq] at h2
   simp only [cond_false]
   exact ⟨fun h => absurd h h2, fun h => absurd h.2.1 h2⟩
  ·
   rw [beq0] at h2
   cases h3 : (arcsE np none t.2.2.1 == 0)
   ·
    simp only [beq_eq_false_iff_ne, ne_eq] at h3
    simp only [cond_false, cond_true]
    exact ⟨fun h => absurd h h3, fun h => absurd h.2.2.1 h3⟩
   ·
    rw [beq0] at h3
    simp only [cond_true]
    exact ⟨fun h => ⟨h1, h2, h3, h⟩, fun h => h.2.2.2⟩
 ·
  simp only [cond_true]
  simp only [Bool.or_eq_true, decide_eq_true_eq] at h1
  constructor
  ·
   intro h; cases h
  ·
   rintro ⟨h2, _⟩; omega
structure PlaceOk (p : PlaceT) : Prop where
 name : nameOk p.1 = true
 cap : 0 ≤ p.2.2 ∧ p.2.2 ≤ 1048576
 init : 0 ≤ p.2.1 ∧ p.2.1 ≤ 1048576 ∧ (p.2.2 = 0 ∨ p.2.1 ≤ p.2.2)
theorem placeE_ok {p : PlaceT} : placeE p = 0 ↔ (0 ≤ p.2.2 ∧ p.2.2 ≤ 1048576) ∧ 0 ≤ p.2.1 ∧ p.2.1 ≤ 1048576 ∧ (p.2.2 = 0 ∨ p.2.1 ≤ p.2.2) := by
 unfold placeE
 cases h1 : (decide (p.2.2 < 0) || decide (1048576 < p.2.2))
 ·
  simp only [Bool.or_eq_false_iff, decide_eq_false_iff_not, Int.not_lt] at h1
  simp only [cond_false]
  cases h2 : ((decide (p.2.1 < 0) || decide (1048576 < p.2.1)) || (!(p.2.2 == 0) && decide (p.2.2 < p.2.1)))
  ·
   simp only [Bool.or_eq_false_iff, decide_eq_false_iff_not, Int.not_lt, Bool.and_eq_false_iff, Bool.not_eq_false', beq0] at h2
   simp only [cond_false, true_iff]
   exact ⟨h1, h2.1.1, h2.1.2, h2.2⟩
  ·
   simp only [Bool.or_eq_true, decide_eq_true_eq, Bool.and_eq_true, Bool.not_eq_true', beq_eq_false_iff_ne, ne_eq] at h2
   simp only [cond_true]
   constructor
   ·
    intro h; cases h
   ·
    rintro ⟨_, h3, h4, h5⟩; omega
 ·
  simp only [Bool.or_eq_true, decide_eq_true_eq] at h1
  simp only [cond_true]
  constructor
  ·
   intro h; cases h
  ·
   rintro ⟨h2, _⟩; omega
theorem addE_ok {names : List BA} {s : BA} : addE names s = 0 ↔ nameOk s = true ∧ s ∉ names := by
 unfold addE
 cases h1 : nameOk s
 ·
  simp
 ·
  cases h2 : names.any fun o => sEq o s
  ·
   simp only [List.any_eq_false, sEq_iff] at h2
   simp only [cond_true, cond_false, true_and, true_iff]
   exact fun h => h2 s h rfl
  ·
   simp only [List.any_eq_true, sEq_iff] at h2
   obtain ⟨o, h3, rfl⟩ := h2
   simp [h3]
theorem placesE_ok : ∀ (l : List PlaceT) (names : List BA) (i : Int), (placesE names i l = none ↔ (∀ p ∈ l, PlaceOk p) ∧ (l.map (·.1)).Nodup ∧ ∀ p ∈ l, p.1 ∉ names) ∧ ∀ r, placesE names i l = some r → r.1 ≠ 0
 | [], names, i => by simp [placesE]
 | p :: l, names, i => by
  rw [placesE]
  obtain ⟨ih, ih2⟩ := placesE_ok l (names ++ [p.1]) (i + 1)
  cases h1 : (addE names p.1 == 0)
  ·
   simp only [cond_false, beq_eq_false_iff_ne, ne_eq] at h1 ⊢
   refine ⟨⟨fun h => (by cases h), fun h => ?_⟩, fun r hr => (by cases hr; exact h1)⟩
   exact absurd (addE_ok.2 ⟨(h.1 p (by simp)).name, h.2.2 p (by simp)⟩) h1
  ·
   rw [beq0] at h1
   have h1' := addE_ok.1 h1
   cases h2 : (placeE p == 0)
   ·
    simp only [cond_false, cond_true, beq_eq_false_iff_ne, ne_eq] at h2 ⊢
    refine ⟨⟨fun h => (by cases h), fun h => ?_⟩, fun r hr => (by cases hr; exact h2)⟩
    have h3 := h.1 p (by simp)
    exact absurd (placeE_ok.2 ⟨h3.cap, h3.init⟩) h2
   ·
    rw [beq0] at h2
    have h2' := placeE_ok.1 h2
    simp only [cond_true]
    refine ⟨?_, ih2⟩
    rw [ih]
    constructor
    ·
     rintro ⟨a1, a2, a3⟩
     refine ⟨fun q hq => ?_, ?_, fun q hq => ?_⟩
     ·
      rcases List.mem_cons.1 hq with rfl | hq
      ·
       exact ⟨h1'.1, h2'.1, h2'.2⟩
      ·
       exact a1 q hq
     ·
      rw [List.map_cons, List.nodup_cons]
      refine ⟨fun hm => ?_, a2⟩
      obtain ⟨q, hq, he⟩ := List.mem_map.1 hm
      exact a3 q hq (by rw [he]; simp)
     ·
      rcases List.mem_cons.1 hq with rfl | hq
      ·
       exact h1'.2
      ·
       exact fun hm => a3 q hq (by simp [hm])
    ·
     rintro ⟨a1, a2, a3⟩
     rw [List.map_cons, List.nodup_cons] at a2
     refine ⟨fun q hq => a1 q (by simp [hq]), a2.2, fun q hq hm => ?_⟩
     rcases List.mem_append.1 hm with hm | hm
     ·
      exact a3 q (by simp [hq]) hm
     ·
      exact a2.1 (List.mem_map.2 ⟨q, hq, by simpa using hm⟩)
theorem transesE_ok {np : Int} : ∀ (l : List TransT) (names : List BA) (i : Int), (transesE np names i l = none ↔ (∀ p ∈ l, TransOk np p) ∧ (l.map (·.1)).Nodup ∧ ∀ p ∈ l, p.1 ∉ names) ∧ ∀ r, transesE np names i l = some r → r.1 ≠ 0
 | [], names, i => by simp [transesE]
 | p :: l, names, i => by
  rw [transesE]
  obtain ⟨ih, ih2⟩ := transesE_ok (np := np) l (names ++ [p.1]) (i + 1)
  cases h1 : (addE names p.1 == 0)
  ·
   simp only [cond_false, beq_eq_false_iff_ne, ne_eq] at h1 ⊢
   refine ⟨⟨fun h => (by cases h), fun h => ?_⟩, fun r hr => (by cases hr; exact h1)⟩
   exact absurd (addE_ok.2 ⟨(h.1 p (by simp)).name, h.2.2 p (by simp)⟩) h1
  ·
   rw [beq0] at h1
   have h1' := addE_ok.1 h1
   cases h2 : (transE p np == 0)
   ·
    simp only [cond_false, cond_true, beq_eq_false_iff_ne, ne_eq] at h2 ⊢
    refine ⟨⟨fun h => (by cases h), fun h => ?_⟩, fun r hr => (by cases hr; exact h2)⟩
    have h3 := h.1 p (by simp)
    exact absurd (transE_ok.2 ⟨h3.prio, h3.pre, h3.post, h3.inh⟩) h2
   ·
    rw [beq0] at h2
    have h2' := transE_ok.1 h2
    simp only [cond_true]
    refine ⟨?_, ih2⟩
    rw [ih]
    constructor
    ·
     rintro ⟨a1, a2, a3⟩
     refine ⟨fun q hq => ?_, ?_, fun q hq => ?_⟩
     ·
      rcases List.mem_cons.1 hq with rfl | hq
      ·
       exact ⟨h1'.1, h2'.1, h2'.2.1, h2'.2.2.1, h2'.2.2.2⟩
      ·
       exact a1 q hq
     ·
      rw [List.map_cons, List.nodup_cons]
      refine ⟨fun hm => ?_, a2⟩
      obtain ⟨q, hq, he⟩ := List.mem_map.1 hm
      exact a3 q hq (by rw [he]; simp)
     ·
      rcases List.mem_cons.1 hq with rfl | hq
      ·
       exact h1'.2
      ·
       exact fun hm => a3 q hq (by simp [hm])
    ·
     rintro ⟨a1, a2, a3⟩
     rw [List.map_cons, List.nodup_cons] at a2
     refine ⟨fun q hq => a1 q (by simp [hq]), a2.2, fun q hq hm => ?_⟩
     rcases List.mem_append.1 hm with hm | hm
     ·
      exact a3 q (by simp [hq]) hm
     ·
      exact a2.1 (List.mem_map.2 ⟨q, hq, by simpa using hm⟩)
structure ValidN (n : NetT) : Prop where
 name : nameOk n.1 = true
 np : 1 ≤ n.2.1.length ∧ n.2.1.length ≤ 24
 nt : n.2.2.length ≤ 24
 place : ∀ p ∈ n.2.1, PlaceOk p
 trans : ∀ t ∈ n.2.2, TransOk (n.2.1.length : Int) t
 pnames : (n.2.1.map (·.1)).Nodup
 tnames : (n.2.2.map (·.1)).Nodup
 apart : ∀ t ∈ n.2.2, t.1 ∉ n.2.1.map (·.1)
theorem checkN_ok {n : NetT} : (checkN n).1 = 0 ↔ ValidN n := by
 unfold checkN
 cases h1 : nameOk n.1
 ·
  simp only [cond_false]
  exact ⟨fun h => (by cases h), fun h => (by rw [h.name] at h1; cases h1)⟩
 ·
  simp only [cond_true]
  cases h2 : (decide (n.2.1.length < 1) || decide (24 < n.2.1.length) || decide (24 < n.2.2.length))
  ·
   simp only [Bool.or_eq_false_iff, decide_eq_false_iff_not, Nat.not_lt] at h2
   simp only [cond_false]
   obtain ⟨a1, a2⟩ := placesE_ok n.2.1 [] 0
   cases h3 : placesE [] 0 n.2.1 with
   | some r =>
    refine ⟨fun h => absurd h (a2 r h3), fun h => ?_⟩
    rw [a1.2 ⟨h.place, h.pnames, fun _ _ hm => by cases hm⟩] at h3
    cases h3
   | none =>
    obtain ⟨b1, b2⟩ := transesE_ok (np := (n.2.1.length : Int)) n.2.2 (n.2.1.map (·.1)) 0
    have a3 := a1.1 h3
    cases h4 : transesE (n.2.1.length : Int) (n.2.1.map (·.1)) 0 n.2.2 with
    | some r =>
     refine ⟨fun h => absurd h (b2 r h4), fun h => ?_⟩
     rw [b1.2 ⟨h.trans, h.tnames, h.apart⟩] at h4
     cases h4
    | none =>
     have b3 := b1.1 h4
     exact ⟨fun _ => ⟨h1, ⟨by omega, h2.1.2⟩, h2.2, a3.1, b3.1, a3.2.1, b3.2.1, b3.2.2⟩, fun _ => rfl⟩
  ·
   simp only [cond_true]
   refine ⟨fun h => (by cases h), fun h => ?_⟩
   simp only [Bool.or_eq_true, decide_eq_true_eq] at h2
   have := h.np; have := h.nt
   omega
theorem checkN_t {n : NetT} : ((checkN n).1 == 0) = true ↔ ValidN n := by rw [beq0, checkN_ok]
end Go.VI
namespace Go.VI
open Go Go.Proofs
theorem ble1 {α : Type} (acc : List α) (h : acc.length + 1 ≤ 1073741824) : ((acc.length + 1).ble mxl) = true := Nat.ble_eq_true_of_le h
theorem ble0 {n : Nat} (h : n ≤ 1073741824) : n.ble mxl = true := Nat.ble_eq_true_of_le h
structure BigT (t : TransT) : Prop where
 pre : bigL t.2.1 = true
 post : bigL t.2.2.1 = true
 inh : bigL t.2.2.2.1 = true
theorem ArcsOk.short {np : Nat} {l : List (Int × Int)} (h : ArcsOk (np : Int) l) (hn : np ≤ 24) : l.length ≤ 24 := by
 have := h.len (by omega)
 omega
theorem bigL_of {α : Type} {l : List α} (h : l.length ≤ 1073741824) : bigL l = true := decide_eq_true h
end Go.VI
namespace Go.VI
open Go Go.Proofs
theorem bndL_mem : ∀ {l : List PlaceT} {j a : Int}, a ∈ bndL j l → j ≤ a ∧ a < j + l.length
 | [], _, _, h => by simp [bndL] at h
 | p :: l, j, a, h => by
  rw [bndL] at h
  simp only [List.length_cons]
  have go : a ∈ bndL (j + 1) l → j ≤ a ∧ a < j + ((l.length + 1 : Nat) : Int) := fun h => by have := bndL_mem h; omega
  cases hd : decide (0 < p.2.2)
  ·
   rw [hd] at h; exact go h
  ·
   rw [hd] at h
   rcases List.mem_cons.1 h with rfl | h
   ·
    omega
   ·
    exact go h
theorem bndL_len : ∀ (l : List PlaceT) (j : Int), (bndL j l).length ≤ l.length
 | [], _ => Nat.le_refl _
 | p :: l, j => by
  rw [bndL]
  have := bndL_len l (j + 1)
  cases decide (0 < p.2.2)
  ·
   simp only [cond_false, List.length_cons]; omega
  ·
   simp only [cond_true, List.length_cons]; omega
theorem imax_max (a b : Int) : imax a b = max a b := by
 unfold imax
 by_cases h : b > a
 ·
  rw [decide_eq_true h, cond_true]; omega
 ·
  rw [decide_eq_false h, cond_false]; omega
theorem dig_len (n : Int) : (digB n).data.toList.length ≤ 2 := by
 unfold digB
 cases decide (n < 10) <;> simp
theorem cat_ok (n : Int) : decide ((ByteArray.mk #[95]).data.toList.length + (digB n).data.toList.length ≤ 1099511627776) = true := by
 have := dig_len n
 have e : (ByteArray.mk #[95]).data.toList.length = 1 := rfl
 rw [e]
 exact decide_eq_true (by omega)
theorem dig_pre {n : Int} (h : 0 ≤ n ∧ n < 100) : (decide (0 ≤ n) && decide (n < 100)) = true := by simp; omega
theorem weightS_or : ∀ {l : List (Int × Int)} {p : Int}, (∃ a ∈ l, weightS l p = a.2) ∨ weightS l p = 0
 | [], p => .inr rfl
 | a :: l, p => by
  rw [weightS]
  cases a.1 == p
  ·
   rcases weightS_or (l := l) (p := p) with ⟨b, hb, h⟩ | h
   ·
    exact .inl ⟨b, List.mem_cons_of_mem _ hb, h⟩
   ·
    exact .inr h
  ·
   exact .inl ⟨a, by simp, rfl⟩
theorem ArcsOk.wt {np : Int} {l : List (Int × Int)} (h : ArcsOk np l) (p : Int) : 0 ≤ weightS l p ∧ weightS l p ≤ 99 := by
 rcases weightS_or (l := l) (p := p) with ⟨a, ha, e⟩ | e
 ·
  have := (h.rg a ha).2
  rw [e]; omega
 ·
  omega
theorem pos_cap {p : PlaceT} (h : 0 ≤ p.2.2) : decide (0 < p.2.2) = !(p.2.2 == 0) := by
 by_cases e : p.2.2 = 0
 ·
  rw [e]; rfl
 ·
  rw [beq_eq_false_iff_ne.2 e, decide_eq_true (by omega)]; rfl
theorem firstI_any {α : Type} {f : α → Bool} : ∀ (l : List α) (i : Int), 0 ≤ i → decide (0 ≤ firstI f i l) = l.any f
 | [], i, _ => rfl
 | x :: l, i, h => by
  rw [firstI, List.any_cons]
  cases f x
  ·
   exact firstI_any l (i + 1) (by omega)
  ·
   simp [h]
theorem known_iff {n : NetT} {s : BA} (h : ((checkN n).1 == 0) = true) : knownN n s = (decide (0 ≤ placeI n s) || decide (0 ≤ transI n s)) := by
 unfold placeI transI knownN
 rw [h, cond_true, cond_true, firstI_any _ _ (by omega), firstI_any _ _ (by omega)]
theorem known_iff2 {n : NetT} {s : BA} (h : ((checkN n).1 == 0) = true) : knownN n s = (decide (0 ≤ net_Place.spec n s) || decide (0 ≤ net_Trans.spec n s)) := known_iff h
def over99 (l : List (Int × Int)) : Bool := l.any fun a => decide (99 < a.2)
def badT (t : TransT) (a i : Int) (ps : List PlaceT) : Bool := over99 (compPre t a i ps) || over99 (compPost t a i ps)
theorem over99_app (l m : List (Int × Int)) : over99 (l ++ m) = (over99 l || over99 m) := List.any_append
theorem ArcsOk.small {np : Int} {l : List (Int × Int)} (h : ArcsOk np l) : over99 l = false := by
 unfold over99
 rw [List.any_eq_false]
 intro a ha
 have := (h.rg a ha).2.2
 simp; omega
theorem bad_comp {n : NetT} {t : TransT} (h : TransOk (n.2.1.length : Int) t) : (over99 (compT n t).2.1 || over99 (compT n t).2.2.1) = badT t (n.2.1.length : Int) 0 n.2.1 := by
 unfold compT badT
 simp only [over99_app, h.pre.small, h.post.small, Bool.false_or]
theorem bigW_comp {n : NetT} : ∀ {l : List TransT}, (∀ t ∈ l, TransOk (n.2.1.length : Int) t) → bigW (l.map (compT n)) = l.any fun t => badT t (n.2.1.length : Int) 0 n.2.1
 | [], _ => rfl
 | t :: l, h => by
  rw [List.map_cons, List.any_cons, ← bigW_comp fun u hu => h u (by simp [hu]), ← bad_comp (h t (by simp))]
  rfl
theorem comp_len (t : TransT) : ∀ (ps : List PlaceT) (a i : Int), (compPre t a i ps).length ≤ ps.length ∧ (compPost t a i ps).length ≤ ps.length
 | [], _, _ => ⟨Nat.le_refl _, Nat.le_refl _⟩
 | p :: ps, a, i => by
  have h1 := comp_len t ps a (i + 1)
  have h2 := comp_len t ps (a + 1) (i + 1)
  rw [compPre, compPost]
  simp only [List.length_cons]
  cases p.2.2 == 0
  ·
   simp only [cond_false]
   constructor
   ·
    cases decide (0 < compK t i p.2.2) <;> simp only [cond_true, cond_false, List.length_cons] <;> omega
   ·
    cases decide (compD t i < compK t i p.2.2) <;> simp only [cond_true, cond_false, List.length_cons] <;> omega
  ·
   simp only [cond_true]; omega
theorem compK_rg {t : TransT} {np : Int} (h : TransOk np t) {i c : Int} (hc : 0 ≤ c ∧ c ≤ 1048576) : 0 ≤ compK t i c ∧ compK t i c ≤ 1048577 ∧ -99 ≤ compD t i ∧ compD t i ≤ 99 ∧ compD t i ≤ compK t i c := by
 have h1 := h.pre.wt i
 have h2 := h.post.wt i
 have h3 := h.inh.wt i
 unfold compK compD
 by_cases h0 : 0 < weightS t.2.2.2.1 i
 ·
  rw [decide_eq_true h0, cond_true]; omega
 ·
  rw [decide_eq_false h0, cond_false]; omega
theorem bad_cons {t : TransT} {a i : Int} {p : PlaceT} {ps : List PlaceT} (hp : (p.2.2 == 0) = false) (hk : 0 ≤ compK t i p.2.2) : badT t a i (p :: ps) = (decide (99 < compK t i p.2.2) || (decide (99 < compK t i p.2.2 - compD t i) || badT t (a + 1) (i + 1) ps)) := by
 unfold badT
 rw [compPre, compPost, hp, cond_false, cond_false]
 have e1 : over99 (cond (decide (0 < compK t i p.2.2)) ((a, compK t i p.2.2) :: compPre t (a + 1) (i + 1) ps) (compPre t (a + 1) (i + 1) ps)) = (decide (99 < compK t i p.2.2) || over99 (compPre t (a + 1) (i + 1) ps)) := by
  by_cases h : 0 < compK t i p.2.2
  ·
   rw [decide_eq_true h]; rfl
  ·
   rw [decide_eq_false h, decide_eq_false (show ¬ 99 < compK t i p.2.2 by omega)]; rfl
 have e2 : over99 (cond (decide (compD t i < compK t i p.2.2)) ((a, compK t i p.2.2 - compD t i) :: compPost t (a + 1) (i + 1) ps) (compPost t (a + 1) (i + 1) ps)) = (decide (99 < compK t i p.2.2 - compD t i) || over99 (compPost t (a + 1) (i + 1) ps)) := by
  by_cases h : compD t i < compK t i p.2.2
  ·
   rw [decide_eq_true h]; rfl
  ·
   rw [decide_eq_false h, decide_eq_false (show ¬ 99 < compK t i p.2.2 - compD t i by omega)]; rfl
 rw [e1, e2]
 cases decide (99 < compK t i p.2.2) <;> cases decide (99 < compK t i p.2.2 - compD t i) <;> cases over99 (compPre t (a + 1) (i + 1) ps) <;> rfl
theorem mayE_ok {n : NetT} (h : (mayE n == 0) = true) : ValidN n ∧ n.2.1.length + (bndL 0 n.2.1).length ≤ 24 := by
 unfold mayE at h
 cases hc : (checkN n).1 == 0
 ·
  rw [hc, cond_false] at h
  rw [h] at hc; cases hc
 ·
  rw [hc, cond_true] at h
  refine ⟨checkN_t.1 hc, ?_⟩
  cases hi : inhE n
  ·
   rw [hi, cond_false] at h
   by_cases h2 : 24 < n.2.1.length + (bndL 0 n.2.1).length
   ·
    rw [decide_eq_true h2, cond_true] at h; cases h
   ·
    omega
  ·
   rw [hi, cond_true] at h; cases h
theorem mayE_ne {n : NetT} (h : (mayE n == 0) = false) : cmE n = (noNet, mayE n) := by
 unfold cmE; rw [h, cond_false]
theorem cmE_ok {n : NetT} (h : ((cmE n).2 == 0) = true) : ValidN n ∧ n.2.1.length + (bndL 0 n.2.1).length ≤ 24 := by
 unfold cmE at h
 cases hm : mayE n == 0
 ·
  rw [hm, cond_false] at h
  rw [h] at hm; cases hm
 ·
  exact mayE_ok hm
end Go.VI
namespace Go.VI
open Go Go.Proofs
namespace tf_checkComplement
def an34 : Ann := [(5, [1, 22, 23, 24], [1, 2]), (8, [1, 22, 23, 24, 29, 30, 31], [1, 2, 22, 23, 24]), (16, [1, 8, 49, 50, 51], [1, 8]), (24, [1, 64, 65, 66], [2])]
def L0.sh : Sh := { sl := [(1, SV.a (SA.fx (Atom.box 0 0))), (22, SV.a (SA.d (K.str.pr (((K.int IntKind.i64).pr (K.int IntKind.i64)).st.sl.pr (((K.int IntKind.i64).pr (K.int IntKind.i64)).st.sl.pr (((K.int IntKind.i64).pr (K.int IntKind.i64)).st.sl.pr (K.int IntKind.i64))))).st.sl)), (23, SV.a (SA.d (K.int IntKind.i64))), (24, SV.a (SA.d (K.int IntKind.i64))), (29, SV.a (SA.d ((K.int IntKind.i64).pr (K.int IntKind.i64)).st.sl)), (30, SV.a (SA.d (K.int IntKind.i64))), (31, SV.a (SA.d (K.int IntKind.i64)))], os := [(0, SO.box [SA.d K.str, SA.d (K.str.pr ((K.int IntKind.i64).pr (K.int IntKind.i64))).st.sl, SA.d (K.str.pr (((K.int IntKind.i64).pr (K.int IntKind.i64)).st.sl.pr (((K.int IntKind.i64).pr (K.int IntKind.i64)).st.sl.pr (((K.int IntKind.i64).pr (K.int IntKind.i64)).st.sl.pr (K.int IntKind.i64))))).st.sl])], nx := 1 }
def L0.x0 : Sh := { sl := [(1, SV.a (SA.fx (Atom.box 0 0))), (2, SV.a (SA.d (K.int IntKind.i64))), (22, SV.a (SA.d (K.str.pr (((K.int IntKind.i64).pr (K.int IntKind.i64)).st.sl.pr (((K.int IntKind.i64).pr (K.int IntKind.i64)).st.sl.pr (((K.int IntKind.i64).pr (K.int IntKind.i64)).st.sl.pr (K.int IntKind.i64))))).st.sl)), (23, SV.a (SA.d (K.int IntKind.i64))), (24, SV.a (SA.d (K.int IntKind.i64)))], os := [(0, SO.box [SA.d K.str, SA.d (K.str.pr ((K.int IntKind.i64).pr (K.int IntKind.i64))).st.sl, SA.d (K.str.pr (((K.int IntKind.i64).pr (K.int IntKind.i64)).st.sl.pr (((K.int IntKind.i64).pr (K.int IntKind.i64)).st.sl.pr (((K.int IntKind.i64).pr (K.int IntKind.i64)).st.sl.pr (K.int IntKind.i64))))).st.sl])], nx := 1 }
def L0.x1 : Sh := { sl := [(1, SV.a (SA.fx (Atom.box 0 0))), (2, SV.j), (22, SV.a (SA.d (K.str.pr (((K.int IntKind.i64).pr (K.int IntKind.i64)).st.sl.pr (((K.int IntKind.i64).pr (K.int IntKind.i64)).st.sl.pr (((K.int IntKind.i64).pr (K.int IntKind.i64)).st.sl.pr (K.int IntKind.i64))))).st.sl)), (23, SV.a (SA.d (K.int IntKind.i64))), (24, SV.a (SA.d (K.int IntKind.i64)))], os := [(0, SO.box [SA.d K.str, SA.d (K.str.pr ((K.int IntKind.i64).pr (K.int IntKind.i64))).st.sl, SA.d (K.str.pr (((K.int IntKind.i64).pr (K.int IntKind.i64)).st.sl.pr (((K.int IntKind.i64).pr (K.int IntKind.i64)).st.sl.pr (((K.int IntKind.i64).pr (K.int IntKind.i64)).st.sl.pr (K.int IntKind.i64))))).st.sl])], nx := 1 }
def L0.st {α : Type} (N : Nat) (x9 : (List (Int × Int))) (x10 : Int) (x13 : (List (BA × Int × Int))) (φ : (Int → Option α)) (x11 : Int) (k0 : (Int → Option α)) (k1 : Option α) : Option α :=
 cond (decide (x11 < x10)) (cond (decide (0 ≤ x11) && decide (x11 < (↑x9.length : Int))) (cond (decide (0 ≤ (x9.getD x11.toNat ((0 : Int), (0 : Int))).fst) && decide ((x9.getD x11.toNat ((0 : Int), (0 : Int))).fst < (↑x13.length : Int))) (cond ((x13.getD (Int.toNat (x9.getD x11.toNat ((0 : Int), (0 : Int))).fst) (eBA, 0, 0)).snd.snd == 0) (k0 (12)) (φ (IntKind.i64.wrap (x11 + 1)))) (none)) (none)) (k1 )
def L0.f {α : Type} (N : Nat) (c3 : (List (Int × Int))) (c4 : Int) (c6 : (List (BA × Int × Int))) : Nat → Int → (Int → Option α) → Option α → Option α
 | 0, _, _, _ => none
 | n + 1, d0, k0, k1 => L0.st N c3 c4 c6 (fun e0 => L0.f N c3 c4 c6 n e0 k0 k1) d0 k0 k1
def L0.up (d : L0.sh.T) (e0 : Int) : L0.sh.T := (((), (d.1.2.1, (d.1.2.2.1, (d.1.2.2.2.1, (d.1.2.2.2.2.1, (d.1.2.2.2.2.2.1, (e0, ()))))))), ((d.2.1.1, (d.2.1.2.1, (d.2.1.2.2.1, ()))), ()))
def L0.k0 {α : Type} (d : L0.sh.T) (K : Cont α) : (Int → Option α) := fun y0 => K (Exit.ret) (L0.x0.enc (((), (y0, (d.1.2.1, (d.1.2.2.1, (d.1.2.2.2.1, ()))))), ((d.2.1.1, (d.2.1.2.1, (d.2.1.2.2.1, ()))), ())))
def L0.k1 {α : Type} (d : L0.sh.T) (K : Cont α) : Option α := K (Exit.exit 2) (L0.x1.enc (((), ((), (d.1.2.1, (d.1.2.2.1, (d.1.2.2.2.1, ()))))), ((d.2.1.1, (d.2.1.2.1, (d.2.1.2.2.1, ()))), ())))
def L0.F {α : Type} (N : Nat) (d : L0.sh.T) (K : Cont α) : Option α := L0.f N d.1.2.2.2.2.1 d.1.2.2.2.2.2.1 d.2.1.2.1 N d.1.2.2.2.2.2.2.1 (L0.k0 d K) (L0.k1 d K)
def L1.sh : Sh := { sl := [(1, SV.a (SA.fx (Atom.box 0 0))), (22, SV.a (SA.d (K.str.pr (((K.int IntKind.i64).pr (K.int IntKind.i64)).st.sl.pr (((K.int IntKind.i64).pr (K.int IntKind.i64)).st.sl.pr (((K.int IntKind.i64).pr (K.int IntKind.i64)).st.sl.pr (K.int IntKind.i64))))).st.sl)), (23, SV.a (SA.d (K.int IntKind.i64))), (24, SV.a (SA.d (K.int IntKind.i64)))], os := [(0, SO.box [SA.d K.str, SA.d (K.str.pr ((K.int IntKind.i64).pr (K.int IntKind.i64))).st.sl, SA.d (K.str.pr (((K.int IntKind.i64).pr (K.int IntKind.i64)).st.sl.pr (((K.int IntKind.i64).pr (K.int IntKind.i64)).st.sl.pr (((K.int IntKind.i64).pr (K.int IntKind.i64)).st.sl.pr (K.int IntKind.i64))))).st.sl])], nx := 1 }
def L1.x0 : Sh := { sl := [(1, SV.a (SA.fx (Atom.box 0 0))), (2, SV.a (SA.d (K.int IntKind.i64)))], os := [(0, SO.box [SA.d K.str, SA.d (K.str.pr ((K.int IntKind.i64).pr (K.int IntKind.i64))).st.sl, SA.d (K.str.pr (((K.int IntKind.i64).pr (K.int IntKind.i64)).st.sl.pr (((K.int IntKind.i64).pr (K.int IntKind.i64)).st.sl.pr (((K.int IntKind.i64).pr (K.int IntKind.i64)).st.sl.pr (K.int IntKind.i64))))).st.sl])], nx := 1 }
def L1.x1 : Sh := { sl := [(1, SV.a (SA.fx (Atom.box 0 0))), (2, SV.j)], os := [(0, SO.box [SA.d K.str, SA.d (K.str.pr ((K.int IntKind.i64).pr (K.int IntKind.i64))).st.sl, SA.d (K.str.pr (((K.int IntKind.i64).pr (K.int IntKind.i64)).st.sl.pr (((K.int IntKind.i64).pr (K.int IntKind.i64)).st.sl.pr (((K.int IntKind.i64).pr (K.int IntKind.i64)).st.sl.pr (K.int IntKind.i64))))).st.sl])], nx := 1 }
def L1.st {α : Type} (N : Nat) (x0 : (List (BA × List (Int × Int) × List (Int × Int) × List (Int × Int) × Int))) (x1 : Int) (x4 : (List (BA × Int × Int))) (φ : (Int → Option α)) (x2 : Int) (k0 : (Int → Option α)) (k1 : Option α) : Option α :=
 cond (decide (x2 < x1)) (cond (decide (0 ≤ x2) && decide (x2 < (↑x0.length : Int))) (L0.f N ((x0.getD x2.toNat (eBA, [], [], [], 0)).snd.snd.snd.fst) ((↑(List.length (x0.getD x2.toNat (eBA, [], [], [], 0)).snd.snd.snd.fst) : Int)) (x4) N (0) (fun x15 => k0 (x15)) (φ (IntKind.i64.wrap (x2 + 1)))) (none)) (k1 )
def L1.f {α : Type} (N : Nat) (c0 : (List (BA × List (Int × Int) × List (Int × Int) × List (Int × Int) × Int))) (c1 : Int) (c3 : (List (BA × Int × Int))) : Nat → Int → (Int → Option α) → Option α → Option α
 | 0, _, _, _ => none
 | n + 1, d0, k0, k1 => L1.st N c0 c1 c3 (fun e0 => L1.f N c0 c1 c3 n e0 k0 k1) d0 k0 k1
def L1.up (d : L1.sh.T) (e0 : Int) : L1.sh.T := (((), (d.1.2.1, (d.1.2.2.1, (e0, ())))), ((d.2.1.1, (d.2.1.2.1, (d.2.1.2.2.1, ()))), ()))
def L1.k0 {α : Type} (d : L1.sh.T) (K : Cont α) : (Int → Option α) := fun y0 => K (Exit.ret) (L1.x0.enc (((), (y0, ())), ((d.2.1.1, (d.2.1.2.1, (d.2.1.2.2.1, ()))), ())))
def L1.k1 {α : Type} (d : L1.sh.T) (K : Cont α) : Option α := K (Exit.exit 0) (L1.x1.enc (((), ((), ())), ((d.2.1.1, (d.2.1.2.1, (d.2.1.2.2.1, ()))), ())))
def L1.F {α : Type} (N : Nat) (d : L1.sh.T) (K : Cont α) : Option α := L1.f N d.1.2.1 d.1.2.2.1 d.2.1.2.1 N d.1.2.2.2.1 (L1.k0 d K) (L1.k1 d K)
def L2.sh : Sh := { sl := [(1, SV.a (SA.fx (Atom.box 0 0))), (8, SV.a (SA.d (K.int IntKind.i64))), (49, SV.a (SA.d (K.str.pr ((K.int IntKind.i64).pr (K.int IntKind.i64))).st.sl)), (50, SV.a (SA.d (K.int IntKind.i64))), (51, SV.a (SA.d (K.int IntKind.i64)))], os := [(0, SO.box [SA.d K.str, SA.d (K.str.pr ((K.int IntKind.i64).pr (K.int IntKind.i64))).st.sl, SA.d (K.str.pr (((K.int IntKind.i64).pr (K.int IntKind.i64)).st.sl.pr (((K.int IntKind.i64).pr (K.int IntKind.i64)).st.sl.pr (((K.int IntKind.i64).pr (K.int IntKind.i64)).st.sl.pr (K.int IntKind.i64))))).st.sl])], nx := 1 }
def L2.x0 : Sh := { sl := [(1, SV.a (SA.fx (Atom.box 0 0))), (8, SV.a (SA.d (K.int IntKind.i64)))], os := [(0, SO.box [SA.d K.str, SA.d (K.str.pr ((K.int IntKind.i64).pr (K.int IntKind.i64))).st.sl, SA.d (K.str.pr (((K.int IntKind.i64).pr (K.int IntKind.i64)).st.sl.pr (((K.int IntKind.i64).pr (K.int IntKind.i64)).st.sl.pr (((K.int IntKind.i64).pr (K.int IntKind.i64)).st.sl.pr (K.int IntKind.i64))))).st.sl])], nx := 1 }
def L2.st {α : Type} (N : Nat) (x18 : (List (BA × Int × Int))) (x19 : Int) (φ : (Int → Int → Option α)) (x17 : Int) (x20 : Int) (k0 : (Int → Option α)) : Option α :=
 cond (decide (x20 < x19)) (cond (decide (0 ≤ x20) && decide (x20 < (↑x18.length : Int))) (cond ((x18.getD x20.toNat (eBA, 0, 0)).snd.snd != 0) (φ (IntKind.i64.wrap (x17 + 1)) (IntKind.i64.wrap (x20 + 1))) (φ (x17) (IntKind.i64.wrap (x20 + 1)))) (none)) (k0 (x17))
def L2.f {α : Type} (N : Nat) (c0 : (List (BA × Int × Int))) (c1 : Int) : Nat → Int → Int → (Int → Option α) → Option α
 | 0, _, _, _ => none
 | n + 1, d0, d1, k0 => L2.st N c0 c1 (fun e0 e1 => L2.f N c0 c1 n e0 e1 k0) d0 d1 k0
def L2.up (d : L2.sh.T) (e0 : Int) (e1 : Int) : L2.sh.T := (((), (e0, (d.1.2.2.1, (d.1.2.2.2.1, (e1, ()))))), ((d.2.1.1, (d.2.1.2.1, (d.2.1.2.2.1, ()))), ()))
def L2.k0 {α : Type} (d : L2.sh.T) (K : Cont α) : (Int → Option α) := fun y0 => K (Exit.exit 4) (L2.x0.enc (((), (y0, ())), ((d.2.1.1, (d.2.1.2.1, (d.2.1.2.2.1, ()))), ())))
def L2.F {α : Type} (N : Nat) (d : L2.sh.T) (K : Cont α) : Option α := L2.f N d.1.2.2.1 d.1.2.2.2.1 N d.1.2.1 d.1.2.2.2.2.1 (L2.k0 d K)
def L3.sh : Sh := { sl := [(1, SV.a (SA.fx (Atom.box 0 0))), (64, SV.a (SA.d (K.str.pr ((K.int IntKind.i64).pr (K.int IntKind.i64))).st.sl)), (65, SV.a (SA.d (K.int IntKind.i64))), (66, SV.a (SA.d (K.int IntKind.i64)))], os := [(0, SO.box [SA.d K.str, SA.d (K.str.pr ((K.int IntKind.i64).pr (K.int IntKind.i64))).st.sl, SA.d (K.str.pr (((K.int IntKind.i64).pr (K.int IntKind.i64)).st.sl.pr (((K.int IntKind.i64).pr (K.int IntKind.i64)).st.sl.pr (((K.int IntKind.i64).pr (K.int IntKind.i64)).st.sl.pr (K.int IntKind.i64))))).st.sl])], nx := 1 }
def L3.x0 : Sh := { sl := [(2, SV.a (SA.d (K.int IntKind.i64)))], os := [], nx := 0 }
def L3.x1 : Sh := { sl := [(2, SV.j)], os := [], nx := 0 }
def L3.st {α : Type} (N : Nat) (x25 : (List (BA × Int × Int))) (x26 : Int) (x28 : BA) (x29 : (List (BA × Int × Int))) (x30 : (List (BA × List (Int × Int) × List (Int × Int) × List (Int × Int) × Int))) (φ : (Int → Option α)) (x27 : Int) (k0 : (Int → Option α)) (k1 : Option α) : Option α :=
 cond (decide (x27 < x26)) (cond (decide (0 ≤ x27) && decide (x27 < (↑x25.length : Int))) (cond (strconv_Itoa.pre x27) (cond (decide ((ByteArray.mk (#[95])).data.toList.length + (strconv_Itoa.spec x27).data.toList.length ≤ 1099511627776)) (cond ((x25.getD x27.toNat (eBA, 0, 0)).snd.snd != 0) (cond (decide (0 ≤ (net_Place.spec (x28, x29, x30) (sCat (ByteArray.mk (#[95])) (strconv_Itoa.spec x27))))) (k0 (6)) (cond (decide (0 ≤ (net_Trans.spec (x28, x29, x30) (sCat (ByteArray.mk (#[95])) (strconv_Itoa.spec x27))))) (k0 (6)) (φ (IntKind.i64.wrap (x27 + 1))))) (φ (IntKind.i64.wrap (x27 + 1)))) (none)) (none)) (none)) (k1 )
def L3.f {α : Type} (N : Nat) (c0 : (List (BA × Int × Int))) (c1 : Int) (c2 : BA) (c3 : (List (BA × Int × Int))) (c4 : (List (BA × List (Int × Int) × List (Int × Int) × List (Int × Int) × Int))) : Nat → Int → (Int → Option α) → Option α → Option α
 | 0, _, _, _ => none
 | n + 1, d0, k0, k1 => L3.st N c0 c1 c2 c3 c4 (fun e0 => L3.f N c0 c1 c2 c3 c4 n e0 k0 k1) d0 k0 k1
def L3.up (d : L3.sh.T) (e0 : Int) : L3.sh.T := (((), (d.1.2.1, (d.1.2.2.1, (e0, ())))), ((d.2.1.1, (d.2.1.2.1, (d.2.1.2.2.1, ()))), ()))
def L3.k0 {α : Type} (d : L3.sh.T) (K : Cont α) : (Int → Option α) := fun y0 => K (Exit.ret) (L3.x0.enc ((y0, ()), ()))
def L3.k1 {α : Type} (d : L3.sh.T) (K : Cont α) : Option α := K (Exit.exit 6) (L3.x1.enc (((), ()), ()))
def L3.F {α : Type} (N : Nat) (d : L3.sh.T) (K : Cont α) : Option α := L3.f N d.1.2.1 d.1.2.2.1 d.2.1.1 d.2.1.2.1 d.2.1.2.2.1 N d.1.2.2.2.1 (L3.k0 d K) (L3.k1 d K)
def ents34 {α : Type} (N : Nat) : List (SmE α) := [⟨0, 50, 8, [⟨L0.sh, L0.F N⟩]⟩, ⟨0, 50, 5, [⟨L1.sh, L1.F N⟩]⟩, ⟨0, 50, 16, [⟨L2.sh, L2.F N⟩]⟩, ⟨0, 50, 24, [⟨L3.sh, L3.F N⟩]⟩]
def C (N : Nat) : Ctx := ⟨tys, [(39, strconv_Itoa.fent), (53, net_Check.fent), (62, net_Place.fent), (63, net_Trans.fent)], [], N⟩
def L0.B {α : Type} (N : Nat) : Env → Cont α → Option α := evC tys 90 0 (evCall (C N) 50) (evCallQ (C N)) N an34 (smL (ents34 N) 0 50) (loopOf 8 Tryd.f34)
theorem L0.r {α : Type} (N : Nat) (φ : Env → Option α) (K : Cont α) (d : L0.sh.T) : L0.B N (L0.sh.enc d) (contL φ K (Env.norm 0 [1, 22, 23, 24, 29, 30, 31]) (Env.norm 0 [1, 2, 22, 23, 24])) = L0.st N d.1.2.2.2.2.1 d.1.2.2.2.2.2.1 d.2.1.2.1 (fun e0 => φ (L0.sh.enc (L0.up d e0))) d.1.2.2.2.2.2.2.1 (L0.k0 d K) (L0.k1 d K) := by kernel_rfl
theorem L0.e {α : Type} (N : Nat) : ∀ (n : Nat) (d : L0.sh.T) (K : Cont α), evL (L0.B N) (Env.norm 0 [1, 22, 23, 24, 29, 30, 31]) (Env.norm 0 [1, 2, 22, 23, 24]) n (L0.sh.enc d) K = L0.f N d.1.2.2.2.2.1 d.1.2.2.2.2.2.1 d.2.1.2.1 n d.1.2.2.2.2.2.2.1 (L0.k0 d K) (L0.k1 d K)
 | 0, d, K => rfl
 | n + 1, d, K => evL_contL.trans ((L0.r N _ K d).trans (congrArg (fun φ => L0.st N d.1.2.2.2.2.1 d.1.2.2.2.2.2.1 d.2.1.2.1 φ d.1.2.2.2.2.2.2.1 (L0.k0 d K) (L0.k1 d K)) (funext fun e0 => L0.e N n (L0.up d e0) K)))
def L1.B {α : Type} (N : Nat) : Env → Cont α → Option α := evC tys 90 0 (evCall (C N) 50) (evCallQ (C N)) N an34 (smL (ents34 N) 0 50) (loopOf 5 Tryd.f34)
theorem L1.r {α : Type} (N : Nat) (φ : Env → Option α) (K : Cont α) (d : L1.sh.T) : L1.B N (L1.sh.enc d) (contL φ K (Env.norm 0 [1, 22, 23, 24]) (Env.norm 0 [1, 2])) = L1.st N d.1.2.1 d.1.2.2.1 d.2.1.2.1 (fun e0 => φ (L1.sh.enc (L1.up d e0))) d.1.2.2.2.1 (L1.k0 d K) (L1.k1 d K) := by kernel_rfl
theorem L1.e {α : Type} (N : Nat) : ∀ (n : Nat) (d : L1.sh.T) (K : Cont α), evL (L1.B N) (Env.norm 0 [1, 22, 23, 24]) (Env.norm 0 [1, 2]) n (L1.sh.enc d) K = L1.f N d.1.2.1 d.1.2.2.1 d.2.1.2.1 n d.1.2.2.2.1 (L1.k0 d K) (L1.k1 d K)
 | 0, d, K => rfl
 | n + 1, d, K => evL_contL.trans ((L1.r N _ K d).trans (congrArg (fun φ => L1.st N d.1.2.1 d.1.2.2.1 d.2.1.2.1 φ d.1.2.2.2.1 (L1.k0 d K) (L1.k1 d K)) (funext fun e0 => L1.e N n (L1.up d e0) K)))
def L2.B {α : Type} (N : Nat) : Env → Cont α → Option α := evC tys 90 0 (evCall (C N) 50) (evCallQ (C N)) N an34 (smL (ents34 N) 0 50) (loopOf 16 Tryd.f34)
theorem L2.r {α : Type} (N : Nat) (φ : Env → Option α) (K : Cont α) (d : L2.sh.T) : L2.B N (L2.sh.enc d) (contL φ K (Env.norm 0 [1, 8, 49, 50, 51]) (Env.norm 0 [1, 8])) = L2.st N d.1.2.2.1 d.1.2.2.2.1 (fun e0 e1 => φ (L2.sh.enc (L2.up d e0 e1))) d.1.2.1 d.1.2.2.2.2.1 (L2.k0 d K) := by kernel_rfl
theorem L2.e {α : Type} (N : Nat) : ∀ (n : Nat) (d : L2.sh.T) (K : Cont α), evL (L2.B N) (Env.norm 0 [1, 8, 49, 50, 51]) (Env.norm 0 [1, 8]) n (L2.sh.enc d) K = L2.f N d.1.2.2.1 d.1.2.2.2.1 n d.1.2.1 d.1.2.2.2.2.1 (L2.k0 d K)
 | 0, d, K => rfl
 | n + 1, d, K => evL_contL.trans ((L2.r N _ K d).trans (congrArg (fun φ => L2.st N d.1.2.2.1 d.1.2.2.2.1 φ d.1.2.1 d.1.2.2.2.2.1 (L2.k0 d K)) (funext fun e0 => funext fun e1 => L2.e N n (L2.up d e0 e1) K)))
def L3.B {α : Type} (N : Nat) : Env → Cont α → Option α := evC tys 90 0 (evCall (C N) 50) (evCallQ (C N)) N an34 (smL (ents34 N) 0 50) (loopOf 24 Tryd.f34)
theorem L3.r {α : Type} (N : Nat) (φ : Env → Option α) (K : Cont α) (d : L3.sh.T) : L3.B N (L3.sh.enc d) (contL φ K (Env.norm 0 [1, 64, 65, 66]) (Env.norm 0 [2])) = L3.st N d.1.2.1 d.1.2.2.1 d.2.1.1 d.2.1.2.1 d.2.1.2.2.1 (fun e0 => φ (L3.sh.enc (L3.up d e0))) d.1.2.2.2.1 (L3.k0 d K) (L3.k1 d K) := by kernel_rfl
theorem L3.e {α : Type} (N : Nat) : ∀ (n : Nat) (d : L3.sh.T) (K : Cont α), evL (L3.B N) (Env.norm 0 [1, 64, 65, 66]) (Env.norm 0 [2]) n (L3.sh.enc d) K = L3.f N d.1.2.1 d.1.2.2.1 d.2.1.1 d.2.1.2.1 d.2.1.2.2.1 n d.1.2.2.2.1 (L3.k0 d K) (L3.k1 d K)
 | 0, d, K => rfl
 | n + 1, d, K => evL_contL.trans ((L3.r N _ K d).trans (congrArg (fun φ => L3.st N d.1.2.1 d.1.2.2.1 d.2.1.1 d.2.1.2.1 d.2.1.2.2.1 φ d.1.2.2.2.1 (L3.k0 d K) (L3.k1 d K)) (funext fun e0 => L3.e N n (L3.up d e0) K)))
theorem ents34_ok {α : Type} (N : Nat) : AllP (EntOk (C N) Tryd.f34 an34 (ents34 (α := α) N)) (ents34 N) := ⟨entOk_of (b0 := loopOf 8 Tryd.f34) (li0 := [1, 22, 23, 24, 29, 30, 31]) (lx0 := [1, 2, 22, 23, 24]) (by kernel_rfl) (by kernel_rfl) ⟨fun d K => L0.e N N d K, trivial⟩, entOk_of (b0 := loopOf 5 Tryd.f34) (li0 := [1, 22, 23, 24]) (lx0 := [1, 2]) (by kernel_rfl) (by kernel_rfl) ⟨fun d K => L1.e N N d K, trivial⟩, entOk_of (b0 := loopOf 16 Tryd.f34) (li0 := [1, 8, 49, 50, 51]) (lx0 := [1, 8]) (by kernel_rfl) (by kernel_rfl) ⟨fun d K => L2.e N N d K, trivial⟩, entOk_of (b0 := loopOf 24 Tryd.f34) (li0 := [1, 64, 65, 66]) (lx0 := [2]) (by kernel_rfl) (by kernel_rfl) ⟨fun d K => L3.e N N d K, trivial⟩, trivial⟩
def g {α : Type} (N : Nat) (a0 : BA × List (BA × Int × Int) × List (BA × List (Int × Int) × List (Int × Int) × List (Int × Int) × Int)) (kr : (Int → Option α)) : Option α :=
 cond ((net_Check.spec a0).fst != 0) (kr ((net_Check.spec a0).fst)) (L1.f N (a0.snd.snd) ((↑(List.length a0.snd.snd) : Int)) (a0.snd.fst) N (0) (fun x16 => kr (x16)) (L2.f N (a0.snd.fst) ((↑(List.length a0.snd.fst) : Int)) N ((↑(List.length a0.snd.fst) : Int)) (0) (fun x24 => cond (decide (24 < x24)) (kr (2)) (L3.f N (a0.snd.fst) ((↑(List.length a0.snd.fst) : Int)) (a0.fst) (a0.snd.fst) (a0.snd.snd) N (0) (fun x31 => kr (x31)) (kr (0))))))
theorem eq (N : Nat) (a0 : BA × List (BA × Int × Int) × List (BA × List (Int × Int) × List (Int × Int) × List (Int × Int) × Int)) : evF (C N) 50 Tryd.f34 an34 (smL (ents34 N) 0 50) [((.int .i64 : K), false)] [⟨.st (.pr (.str) (.pr (.sl (.st (.pr (.str) (.pr (.int .i64) (.int .i64))))) (.sl (.st (.pr (.str) (.pr (.sl (.st (.pr (.int .i64) (.int .i64)))) (.pr (.sl (.st (.pr (.int .i64) (.int .i64)))) (.pr (.sl (.st (.pr (.int .i64) (.int .i64)))) (.int .i64))))))))), a0⟩] = g N a0 (fun r0 => some [.dat (K.int IntKind.i64) r0]) := by kernel_rfl
theorem ctxOk (N : Nat) : CtxOk P (C N) := ctxOk_of tysOk mixedOk ⟨strconv_Itoa.ok, net_Check.ok, net_Place.ok, net_Trans.ok, trivial⟩ trivial
theorem calls (N : Nat) (a0 : BA × List (BA × Int × Int) × List (BA × List (Int × Int) × List (Int × Int) × List (Int × Int) × Int)) {rs : List Rs} (h : g N a0 (fun r0 => some [.dat (K.int IntKind.i64) r0]) = some rs) : CallsTo P 34 [⟨.st (.pr (.str) (.pr (.sl (.st (.pr (.str) (.pr (.int .i64) (.int .i64))))) (.sl (.st (.pr (.str) (.pr (.sl (.st (.pr (.int .i64) (.int .i64)))) (.pr (.sl (.st (.pr (.int .i64) (.int .i64)))) (.pr (.sl (.st (.pr (.int .i64) (.int .i64)))) (.int .i64))))))))), a0⟩] rs := evF_calls' (ctxOk N) (by rfl) (ents34_ok N) ((eq N a0).trans h)
def L0.l {α : Type} (N : Nat) (x9 : (List (Int × Int))) (x13 : (List (BA × Int × Int))) (k0 : (Int → Option α)) (k1 : Option α) : List (Int × Int) → Int → Option α
 | [], x11 => k1 
 | x :: l, x11 => (cond (decide (0 ≤ x.fst) && decide (x.fst < (↑x13.length : Int))) (cond ((x13.getD (Int.toNat x.fst) (eBA, 0, 0)).snd.snd == 0) (k0 (12)) (L0.l N x9 x13 k0 k1 l (x11 + 1))) (none))
theorem L0.rng {α : Type} {N : Nat} (x9 : (List (Int × Int))) (x13 : (List (BA × Int × Int))) (hl : x9.length ≤ maxLen) (k0 : (Int → Option α)) (k1 : Option α) : ∀ (n j : Nat), x9.length < n + j → j ≤ x9.length → L0.f N x9 (x9.length : Int) x13 n (j : Int) k0 k1 = L0.l N x9 x13 k0 k1 (x9.drop j) (j : Int) :=
 rng0 x9 hl (fun n i => L0.f N x9 (x9.length : Int) x13 n i k0 k1) (fun l i => L0.l N x9 x13 k0 k1 l i) (fun n j hj h ih => by simp only [L0.f, L0.st, L0.l, h.a, h.b, h.c, h.d, h.e, Bool.true_and, Bool.and_true, Bool.and_self, cond_true, ih] <;> rfl) (fun n j h => by simp only [L0.f, L0.st, L0.l, h, cond_false])
def L1.l {α : Type} (N : Nat) (x0 : (List (BA × List (Int × Int) × List (Int × Int) × List (Int × Int) × Int))) (x4 : (List (BA × Int × Int))) (k0 : (Int → Option α)) (k1 : Option α) : List (BA × List (Int × Int) × List (Int × Int) × List (Int × Int) × Int) → Int → Option α
 | [], x2 => k1 
 | x :: l, x2 => (L0.f N (x.snd.snd.snd.fst) ((↑(List.length x.snd.snd.snd.fst) : Int)) (x4) N (0) (fun x15 => k0 (x15)) (L1.l N x0 x4 k0 k1 l (x2 + 1)))
theorem L1.rng {α : Type} {N : Nat} (x0 : (List (BA × List (Int × Int) × List (Int × Int) × List (Int × Int) × Int))) (x4 : (List (BA × Int × Int))) (hl : x0.length ≤ maxLen) (k0 : (Int → Option α)) (k1 : Option α) : ∀ (n j : Nat), x0.length < n + j → j ≤ x0.length → L1.f N x0 (x0.length : Int) x4 n (j : Int) k0 k1 = L1.l N x0 x4 k0 k1 (x0.drop j) (j : Int) :=
 rng0 x0 hl (fun n i => L1.f N x0 (x0.length : Int) x4 n i k0 k1) (fun l i => L1.l N x0 x4 k0 k1 l i) (fun n j hj h ih => by simp only [L1.f, L1.st, L1.l, h.a, h.b, h.c, h.d, h.e, Bool.true_and, Bool.and_true, Bool.and_self, cond_true, ih] <;> rfl) (fun n j h => by simp only [L1.f, L1.st, L1.l, h, cond_false])
def L2.l {α : Type} (N : Nat) (x18 : (List (BA × Int × Int))) (k0 : (Int → Option α)) : List (BA × Int × Int) → Int → Int → Option α
 | [], x20, x17 => k0 (x17)
 | x :: l, x20, x17 => (cond (x.snd.snd != 0) (L2.l N x18 k0 l (x20 + 1) (IntKind.i64.wrap (x17 + 1))) (L2.l N x18 k0 l (x20 + 1) (x17)))
theorem L2.rng {α : Type} {N : Nat} (x18 : (List (BA × Int × Int))) (hl : x18.length ≤ maxLen) (k0 : (Int → Option α)) : ∀ (n j : Nat) (x17 : Int), x18.length < n + j → j ≤ x18.length → L2.f N x18 (x18.length : Int) n x17 (j : Int) k0 = L2.l N x18 k0 (x18.drop j) (j : Int) x17 :=
 rng1 x18 hl (fun n i x17 => L2.f N x18 (x18.length : Int) n x17 i k0) (fun l i x17 => L2.l N x18 k0 l i x17) (fun n j hj h ih x17 => by simp only [L2.f, L2.st, L2.l, h.a, h.b, h.c, h.d, h.e, Bool.true_and, Bool.and_true, Bool.and_self, cond_true, ih] <;> rfl) (fun n j h x17 => by simp only [L2.f, L2.st, L2.l, h, cond_false])
def L3.l {α : Type} (N : Nat) (x25 : (List (BA × Int × Int))) (x28 : BA) (x29 : (List (BA × Int × Int))) (x30 : (List (BA × List (Int × Int) × List (Int × Int) × List (Int × Int) × Int))) (k0 : (Int → Option α)) (k1 : Option α) : List (BA × Int × Int) → Int → Option α
 | [], x27 => k1 
 | x :: l, x27 => (cond (strconv_Itoa.pre x27) (cond (decide ((ByteArray.mk (#[95])).data.toList.length + (strconv_Itoa.spec x27).data.toList.length ≤ 1099511627776)) (cond (x.snd.snd != 0) (cond (decide (0 ≤ (net_Place.spec (x28, x29, x30) (sCat (ByteArray.mk (#[95])) (strconv_Itoa.spec x27))))) (k0 (6)) (cond (decide (0 ≤ (net_Trans.spec (x28, x29, x30) (sCat (ByteArray.mk (#[95])) (strconv_Itoa.spec x27))))) (k0 (6)) (L3.l N x25 x28 x29 x30 k0 k1 l (x27 + 1)))) (L3.l N x25 x28 x29 x30 k0 k1 l (x27 + 1))) (none)) (none))
theorem L3.rng {α : Type} {N : Nat} (x25 : (List (BA × Int × Int))) (x28 : BA) (x29 : (List (BA × Int × Int))) (x30 : (List (BA × List (Int × Int) × List (Int × Int) × List (Int × Int) × Int))) (hl : x25.length ≤ maxLen) (k0 : (Int → Option α)) (k1 : Option α) : ∀ (n j : Nat), x25.length < n + j → j ≤ x25.length → L3.f N x25 (x25.length : Int) x28 x29 x30 n (j : Int) k0 k1 = L3.l N x25 x28 x29 x30 k0 k1 (x25.drop j) (j : Int) :=
 rng0 x25 hl (fun n i => L3.f N x25 (x25.length : Int) x28 x29 x30 n i k0 k1) (fun l i => L3.l N x25 x28 x29 x30 k0 k1 l i) (fun n j hj h ih => by simp only [L3.f, L3.st, L3.l, h.a, h.b, h.c, h.d, h.e, Bool.true_and, Bool.and_true, Bool.and_self, cond_true, ih] <;> rfl) (fun n j h => by simp only [L3.f, L3.st, L3.l, h, cond_false])
end tf_checkComplement
theorem tf_checkComplement.L0.law {α : Type} {N : Nat} (x9 : (List (Int × Int))) (x13 : (List (BA × Int × Int))) (k0 : (Int → Option α)) (k1 : Option α) : ∀ (l : List (Int × Int)) (j : Int), (∀ a ∈ l, 0 ≤ a.1 ∧ a.1 < (x13.length : Int)) → tf_checkComplement.L0.l N x9 x13 k0 k1 l j = cond (l.any fun a => (x13.getD (Int.toNat a.1) (eBA, 0, 0)).2.2 == 0) (k0 12) k1
 | [], j, _ => rfl
 | x :: l, j, h => by
  have h0 := h x (by simp)
  rw [tf_checkComplement.L0.l, decide_eq_true h0.1, decide_eq_true h0.2, List.any_cons, tf_checkComplement.L0.law _ _ _ _ l _ fun a ha => h a (by simp [ha])]
  cases (x13.getD (Int.toNat x.1) (eBA, 0, 0)).2.2 == 0 <;> rfl
theorem tf_checkComplement.L1.law {α : Type} {N : Nat} (hN : 18446744073709551616 ≤ N) (x0 : (List (BA × List (Int × Int) × List (Int × Int) × List (Int × Int) × Int))) (x4 : (List (BA × Int × Int))) (k0 : (Int → Option α)) (k1 : Option α) (hx : x4.length ≤ 24) : ∀ (l : List TransT) (j : Int), (∀ t ∈ l, ArcsOk (x4.length : Int) t.2.2.2.1) → tf_checkComplement.L1.l N x0 x4 k0 k1 l j = cond (l.any fun t => t.2.2.2.1.any fun a => (x4.getD (Int.toNat a.1) (eBA, 0, 0)).2.2 == 0) (k0 12) k1
 | [], j, _ => rfl
 | x :: l, j, h => by
  have h0 := h x (by simp)
  have hw : x.2.2.2.1.length ≤ maxLen := by have := h0.short hx; unfold maxLen; omega
  rw [tf_checkComplement.L1.l]
  refine (tf_checkComplement.L0.rng (N := N) _ _ (hw) _ _ N 0  (by have := le_fuel (hw) hN; omega) (Nat.zero_le _)).trans ?_
  refine (tf_checkComplement.L0.law _ _ _ _ _ _ (by simpa using fun a b ha => (h0.rg (a, b) ha).1)).trans ?_
  rw [List.drop_zero, tf_checkComplement.L1.law hN _ _ _ _ hx l _ fun t ht => h t (by simp [ht]), List.any_cons]
  cases (x.2.2.2.1.any _) <;> rfl
theorem tf_checkComplement.L2.law {α : Type} {N : Nat} (x18 : (List (BA × Int × Int))) (k0 : (Int → Option α)) : ∀ (l : List PlaceT) (j c : Int), 0 ≤ c → c + l.length ≤ 1000 → (∀ p ∈ l, 0 ≤ p.2.2) → tf_checkComplement.L2.l N x18 k0 l j c = k0 (c + (bndL j l).length)
 | [], j, c, _, _, _ => by rw [tf_checkComplement.L2.l, bndL]; simp
 | x :: l, j, c, h0, h1, h2 => by
  simp only [List.length_cons] at h1
  rw [tf_checkComplement.L2.l, bndL, pos_cap (h2 x (by simp))]
  simp only [bne]
  cases x.2.2 == 0
  ·
   simp only [Bool.not_false, cond_true]
   rw [wrap_i64 (inI_i64.2 (by omega)), tf_checkComplement.L2.law _ _ l _ _ (by omega) (by omega) fun p hp => h2 p (by simp [hp])]
   congr 1
   simp only [List.length_cons]
   omega
  ·
   simp only [Bool.not_true, cond_false]
   exact tf_checkComplement.L2.law _ _ l _ _ (by omega) (by omega) fun p hp => h2 p (by simp [hp])
theorem tf_checkComplement.L3.law {α : Type} {N : Nat} (x25 : (List (BA × Int × Int))) (x28 : BA) (x29 : (List (BA × Int × Int))) (x30 : (List (BA × List (Int × Int) × List (Int × Int) × List (Int × Int) × Int))) (k0 : (Int → Option α)) (k1 : Option α) (hc : ((checkN (x28, x29, x30)).1 == 0) = true) : ∀ (l : List PlaceT) (j : Int), 0 ≤ j → j + l.length ≤ 100 → (∀ p ∈ l, 0 ≤ p.2.2) → tf_checkComplement.L3.l N x25 x28 x29 x30 k0 k1 l j = cond ((bndL j l).any fun i => knownN (x28, x29, x30) (cmName i)) (k0 6) k1
 | [], j, _, _, _ => rfl
 | x :: l, j, h0, h1, h2 => by
  simp only [List.length_cons] at h1
  rw [tf_checkComplement.L3.l, bndL, pos_cap (h2 x (by simp)), show strconv_Itoa.pre j = true from dig_pre (by omega), show decide ((ByteArray.mk (#[95])).data.toList.length + (strconv_Itoa.spec j).data.toList.length ≤ 1099511627776) = true from cat_ok j]
  simp only [cond_true, bne]
  rw [tf_checkComplement.L3.law _ _ _ _ _ _ hc l _ (by omega) (by omega) fun p hp => h2 p (by simp [hp])]
  cases x.2.2 == 0
  ·
   simp only [Bool.not_false, cond_true, List.any_cons]
   rw [show cmName j = sCat (ByteArray.mk #[95]) (strconv_Itoa.spec j) from rfl, known_iff2 hc]
   cases decide (0 ≤ net_Place.spec (x28, x29, x30) (sCat (ByteArray.mk #[95]) (strconv_Itoa.spec j)))
   ·
    cases decide (0 ≤ net_Trans.spec (x28, x29, x30) (sCat (ByteArray.mk #[95]) (strconv_Itoa.spec j))) <;> rfl
   ·
    rfl
  ·
   rfl
theorem tf_checkComplement.law {α : Type} {N : Nat} (hN : 18446744073709551616 ≤ N) (a0 : BA × (List (BA × Int × Int)) × List (BA × (List (Int × Int)) × (List (Int × Int)) × (List (Int × Int)) × Int)) (w0 : K.wf (.st (.pr (.str) (.pr (.sl (.st (.pr (.str) (.pr (.int .i64) (.int .i64))))) (.sl (.st (.pr (.str) (.pr (.sl (.st (.pr (.int .i64) (.int .i64)))) (.pr (.sl (.st (.pr (.int .i64) (.int .i64)))) (.pr (.sl (.st (.pr (.int .i64) (.int .i64)))) (.int .i64)))))))))) a0) (kr : (Int → Option α)) : tf_checkComplement.g N a0 kr = kr (tf_checkComplement.spec a0) := by
 unfold tf_checkComplement.g tf_checkComplement.spec mayE
 simp only [net_Check.spec, bne]
 cases hc : (checkN a0).1 == 0
 ·
  rfl
 have hv := checkN_t.1 hc
 have hnp := hv.np
 simp only [Bool.not_true, cond_false, cond_true]
 refine (tf_checkComplement.L1.rng (N := N) _ _ (w0.2.2.1) _ _ N 0  (by have := le_fuel (w0.2.2.1) hN; omega) (Nat.zero_le _)).trans ?_
 refine (tf_checkComplement.L1.law hN _ _ _ _ hnp.2 _ _ (by simpa using fun t ht => (hv.trans t ht).inh)).trans ?_
 rw [List.drop_zero]
 unfold inhE
 cases (a0.2.2.any _)
 ·
  simp only [cond_false]
  have hl := bndL_len a0.2.1 0
  have hcap : ∀ p ∈ a0.2.1, 0 ≤ p.2.2 := fun p hp => (hv.place p hp).cap.1
  refine (tf_checkComplement.L2.rng (N := N) _ (w0.2.1.1) _ N 0 _ (by have := le_fuel (w0.2.1.1) hN; omega) (Nat.zero_le _)).trans ?_
  refine (tf_checkComplement.L2.law _ _ _ _ _ (by omega) (by simp; omega) (by simpa using hcap)).trans ?_
  rw [List.drop_zero, show ((0 : Nat) : Int) = 0 from rfl, show decide ((24 : Int) < ((a0.2.1.length : Nat) : Int) + (((bndL 0 a0.2.1).length : Nat) : Int)) = decide (24 < a0.2.1.length + (bndL 0 a0.2.1).length) by rw [decide_eq_decide]; omega]
  cases decide (24 < a0.2.1.length + (bndL 0 a0.2.1).length)
  ·
   simp only [cond_false]
   refine (tf_checkComplement.L3.rng (N := N) _ _ _ _ (w0.2.1.1) _ _ N 0  (by have := le_fuel (w0.2.1.1) hN; omega) (Nat.zero_le _)).trans ?_
   refine (tf_checkComplement.L3.law _ _ _ _ _ _ hc _ _ (by omega) (by simp; omega) (by simpa using hcap)).trans ?_
   rw [List.drop_zero, show ((0 : Nat) : Int) = 0 from rfl]
   cases (List.any (bndL 0 a0.2.1) _) <;> rfl
  ·
   rfl
 ·
  rfl
theorem tf_checkComplement.ok : FentOk P 34 tf_checkComplement.fent := fentOk_of (by kernel_rfl) fun ds hk => by
 obtain ⟨a0, l0, rfl, h0⟩ := ds_cons hk
 obtain rfl := ds0 h0
 exact ⟨true, [.dat (.int .i64) (tf_checkComplement.spec a0)], fun h hw => tf_checkComplement.calls 18446744073709551616 a0 (tf_checkComplement.law (Nat.le_refl _) a0 hw.1 _), fun α k => rfl⟩
end Go.VI
namespace Go.VI
open Go Go.Proofs
namespace tf_Complement_1
def an36 : Ann := []
def ents36 {α : Type} (N : Nat) : List (SmE α) := []
def C (N : Nat) : Ctx := ⟨tys, [], [], N⟩
theorem ents36_ok {α : Type} (N : Nat) : AllP (EntOk (C N) Tryd.f36 an36 (ents36 (α := α) N)) (ents36 N) := trivial
def g {α : Type} (N : Nat) (a0 : Int) (a1 : BA × Int × Int) (kr : ((BA × Int × Int) → Option α)) : Option α :=
 kr ((a1.fst, a1.snd.fst, 0))
theorem eq (N : Nat) (a0 : Int) (a1 : BA × Int × Int) : evF (C N) 50 Tryd.f36 an36 (smL (ents36 N) 0 50) [((.st (.pr (.str) (.pr (.int .i64) (.int .i64))) : K), false)] [⟨.int .i64, a0⟩, ⟨.st (.pr (.str) (.pr (.int .i64) (.int .i64))), a1⟩] = g N a0 a1 (fun r0 => some [.dat ((K.str.pr ((K.int IntKind.i64).pr (K.int IntKind.i64))).st) r0]) := by kernel_rfl
theorem ctxOk (N : Nat) : CtxOk P (C N) := ctxOk_of tysOk mixedOk trivial trivial
theorem calls (N : Nat) (a0 : Int) (a1 : BA × Int × Int) {rs : List Rs} (h : g N a0 a1 (fun r0 => some [.dat ((K.str.pr ((K.int IntKind.i64).pr (K.int IntKind.i64))).st) r0]) = some rs) : CallsTo P 36 [⟨.int .i64, a0⟩, ⟨.st (.pr (.str) (.pr (.int .i64) (.int .i64))), a1⟩] rs := evF_calls' (ctxOk N) (by rfl) (ents36_ok N) ((eq N a0 a1).trans h)
end tf_Complement_1
theorem tf_Complement_1.law {α : Type} {N : Nat} (hN : 18446744073709551616 ≤ N) (a0 : Int) (a1 : BA × Int × Int) (w0 : K.wf (.int .i64) a0) (w1 : K.wf (.st (.pr (.str) (.pr (.int .i64) (.int .i64)))) a1) (kr : ((BA × Int × Int) → Option α)) : tf_Complement_1.g N a0 a1 kr = kr (tf_Complement_1.spec a0 a1) := by
 rfl
theorem tf_Complement_1.ok : FentOk P 36 tf_Complement_1.fent := fentOk_of (by kernel_rfl) fun ds hk => by
 obtain ⟨a0, l0, rfl, h0⟩ := ds_cons hk
 obtain ⟨a1, l1, rfl, h1⟩ := ds_cons h0
 obtain rfl := ds0 h1
 exact ⟨true, [.dat (.st (.pr (.str) (.pr (.int .i64) (.int .i64)))) (tf_Complement_1.spec a0 a1)], fun h hw => tf_Complement_1.calls 18446744073709551616 a0 a1 (tf_Complement_1.law (Nat.le_refl _) a0 a1 hw.1 hw.2.1 _), fun α k => rfl⟩
end Go.VI
namespace Go.VI
open Go Go.Proofs
namespace tf_clone
def an72 : Ann := []
def ents72 {α : Type} (N : Nat) : List (SmE α) := []
def C (N : Nat) : Ctx := ⟨tys, [], [], N⟩
theorem ents72_ok {α : Type} (N : Nat) : AllP (EntOk (C N) Tryd.f72 an72 (ents72 (α := α) N)) (ents72 N) := trivial
def g {α : Type} (N : Nat) (a0 : List (Int × Int)) (kr : ((List (Int × Int)) → Option α)) : Option α :=
 cond (decide (0 ≤ (↑a0.length : Int)) && decide ((↑a0.length : Int) ≤ (↑a0.length : Int)) && decide ((↑a0.length : Int) ≤ 1073741824)) (kr (List.take 0 (List.replicate (↑a0.length : Int).toNat ((0 : Int), (0 : Int))) ++ List.take (List.replicate (↑a0.length : Int).toNat ((0 : Int), (0 : Int))).length a0 ++ List.drop (0 + min a0.length (List.replicate (↑a0.length : Int).toNat ((0 : Int), (0 : Int))).length) (List.replicate (↑a0.length : Int).toNat ((0 : Int), (0 : Int))))) (none)
theorem eq (N : Nat) (a0 : List (Int × Int)) : evF (C N) 50 Tryd.f72 an72 (smL (ents72 N) 0 50) [(((.st (.pr (.int .i64) (.int .i64))) : K), true)] [⟨.sl (.st (.pr (.int .i64) (.int .i64))), a0⟩] = g N a0 (fun r0 => some [.own (((K.int IntKind.i64).pr (K.int IntKind.i64)).st) r0]) := by kernel_rfl
theorem ctxOk (N : Nat) : CtxOk P (C N) := ctxOk_of tysOk mixedOk trivial trivial
theorem calls (N : Nat) (a0 : List (Int × Int)) {rs : List Rs} (h : g N a0 (fun r0 => some [.own (((K.int IntKind.i64).pr (K.int IntKind.i64)).st) r0]) = some rs) : CallsTo P 72 [⟨.sl (.st (.pr (.int .i64) (.int .i64))), a0⟩] rs := evF_calls' (ctxOk N) (by rfl) (ents72_ok N) ((eq N a0).trans h)
end tf_clone
theorem tf_clone.law {α : Type} {N : Nat} (hN : 18446744073709551616 ≤ N) (a0 : List (Int × Int)) (w0 : K.wf (.sl (.st (.pr (.int .i64) (.int .i64)))) a0) (hp : tf_clone.pre a0 = true) (kr : ((List (Int × Int)) → Option α)) : tf_clone.g N a0 kr = kr (tf_clone.spec a0) := by
 have hp' : a0.length ≤ 1073741824 := of_decide_eq_true hp
 unfold tf_clone.g tf_clone.spec
 have e : (decide (0 ≤ (a0.length : Int)) && decide ((a0.length : Int) ≤ (a0.length : Int)) && decide ((a0.length : Int) ≤ 1073741824)) = true := by simp; omega
 rw [e, cond_true]
 congr 1
 simp
theorem tf_clone.ok : FentOk P 72 tf_clone.fent := fentOk_of (by kernel_rfl) fun ds hk => by
 obtain ⟨a0, l0, rfl, h0⟩ := ds_cons hk
 obtain rfl := ds0 h0
 exact ⟨tf_clone.pre a0, [.own (.st (.pr (.int .i64) (.int .i64))) (tf_clone.spec a0)], fun h hw => tf_clone.calls 18446744073709551616 a0 (tf_clone.law (Nat.le_refl _) a0 hw.1 h _), fun α k => rfl⟩
end Go.VI
namespace Go.VI
open Go Go.Proofs
namespace tf_weight
def an38 : Ann := [(2, [1, 7, 8, 9], [4])]
def L0.sh : Sh := { sl := [(1, SV.a (SA.d (K.int IntKind.i64))), (7, SV.a (SA.d ((K.int IntKind.i64).pr (K.int IntKind.i64)).st.sl)), (8, SV.a (SA.d (K.int IntKind.i64))), (9, SV.a (SA.d (K.int IntKind.i64)))], os := [], nx := 0 }
def L0.x0 : Sh := { sl := [(4, SV.a (SA.d (K.int IntKind.i64)))], os := [], nx := 0 }
def L0.x1 : Sh := { sl := [(4, SV.j)], os := [], nx := 0 }
def L0.st {α : Type} (N : Nat) (x0 : Int) (x1 : (List (Int × Int))) (x2 : Int) (φ : (Int → Option α)) (x3 : Int) (k0 : (Int → Option α)) (k1 : Option α) : Option α :=
 cond (decide (x3 < x2)) (cond (decide (0 ≤ x3) && decide (x3 < (↑x1.length : Int))) (cond ((x1.getD x3.toNat ((0 : Int), (0 : Int))).fst == x0) (k0 ((x1.getD x3.toNat ((0 : Int), (0 : Int))).snd)) (φ (IntKind.i64.wrap (x3 + 1)))) (none)) (k1 )
def L0.f {α : Type} (N : Nat) (c0 : Int) (c1 : (List (Int × Int))) (c2 : Int) : Nat → Int → (Int → Option α) → Option α → Option α
 | 0, _, _, _ => none
 | n + 1, d0, k0, k1 => L0.st N c0 c1 c2 (fun e0 => L0.f N c0 c1 c2 n e0 k0 k1) d0 k0 k1
def L0.up (d : L0.sh.T) (e0 : Int) : L0.sh.T := ((d.1.1, (d.1.2.1, (d.1.2.2.1, (e0, ())))), ())
def L0.k0 {α : Type} (d : L0.sh.T) (K : Cont α) : (Int → Option α) := fun y0 => K (Exit.ret) (L0.x0.enc ((y0, ()), ()))
def L0.k1 {α : Type} (d : L0.sh.T) (K : Cont α) : Option α := K (Exit.exit 0) (L0.x1.enc (((), ()), ()))
def L0.F {α : Type} (N : Nat) (d : L0.sh.T) (K : Cont α) : Option α := L0.f N d.1.1 d.1.2.1 d.1.2.2.1 N d.1.2.2.2.1 (L0.k0 d K) (L0.k1 d K)
def ents38 {α : Type} (N : Nat) : List (SmE α) := [⟨0, 50, 2, [⟨L0.sh, L0.F N⟩]⟩]
def C (N : Nat) : Ctx := ⟨tys, [], [], N⟩
def L0.B {α : Type} (N : Nat) : Env → Cont α → Option α := evC tys 20 0 (evCall (C N) 50) (evCallQ (C N)) N an38 (smL (ents38 N) 0 50) (loopOf 2 Tryd.f38)
theorem L0.r {α : Type} (N : Nat) (φ : Env → Option α) (K : Cont α) (d : L0.sh.T) : L0.B N (L0.sh.enc d) (contL φ K (Env.norm 0 [1, 7, 8, 9]) (Env.norm 0 [4])) = L0.st N d.1.1 d.1.2.1 d.1.2.2.1 (fun e0 => φ (L0.sh.enc (L0.up d e0))) d.1.2.2.2.1 (L0.k0 d K) (L0.k1 d K) := by kernel_rfl
theorem L0.e {α : Type} (N : Nat) : ∀ (n : Nat) (d : L0.sh.T) (K : Cont α), evL (L0.B N) (Env.norm 0 [1, 7, 8, 9]) (Env.norm 0 [4]) n (L0.sh.enc d) K = L0.f N d.1.1 d.1.2.1 d.1.2.2.1 n d.1.2.2.2.1 (L0.k0 d K) (L0.k1 d K)
 | 0, d, K => rfl
 | n + 1, d, K => evL_contL.trans ((L0.r N _ K d).trans (congrArg (fun φ => L0.st N d.1.1 d.1.2.1 d.1.2.2.1 φ d.1.2.2.2.1 (L0.k0 d K) (L0.k1 d K)) (funext fun e0 => L0.e N n (L0.up d e0) K)))
theorem ents38_ok {α : Type} (N : Nat) : AllP (EntOk (C N) Tryd.f38 an38 (ents38 (α := α) N)) (ents38 N) := ⟨entOk_of (b0 := loopOf 2 Tryd.f38) (li0 := [1, 7, 8, 9]) (lx0 := [4]) (by kernel_rfl) (by kernel_rfl) ⟨fun d K => L0.e N N d K, trivial⟩, trivial⟩
def g {α : Type} (N : Nat) (a0 : List (Int × Int)) (a1 : Int) (kr : (Int → Option α)) : Option α :=
 L0.f N (a1) (a0) ((↑a0.length : Int)) N (0) (fun x4 => kr (x4)) (kr (0))
theorem eq (N : Nat) (a0 : List (Int × Int)) (a1 : Int) : evF (C N) 50 Tryd.f38 an38 (smL (ents38 N) 0 50) [((.int .i64 : K), false)] [⟨.sl (.st (.pr (.int .i64) (.int .i64))), a0⟩, ⟨.int .i64, a1⟩] = g N a0 a1 (fun r0 => some [.dat (K.int IntKind.i64) r0]) := by kernel_rfl
theorem ctxOk (N : Nat) : CtxOk P (C N) := ctxOk_of tysOk mixedOk trivial trivial
theorem calls (N : Nat) (a0 : List (Int × Int)) (a1 : Int) {rs : List Rs} (h : g N a0 a1 (fun r0 => some [.dat (K.int IntKind.i64) r0]) = some rs) : CallsTo P 38 [⟨.sl (.st (.pr (.int .i64) (.int .i64))), a0⟩, ⟨.int .i64, a1⟩] rs := evF_calls' (ctxOk N) (by rfl) (ents38_ok N) ((eq N a0 a1).trans h)
def L0.l {α : Type} (N : Nat) (x0 : Int) (x1 : (List (Int × Int))) (k0 : (Int → Option α)) (k1 : Option α) : List (Int × Int) → Int → Option α
 | [], x3 => k1 
 | x :: l, x3 => (cond (x.fst == x0) (k0 (x.snd)) (L0.l N x0 x1 k0 k1 l (x3 + 1)))
theorem L0.rng {α : Type} {N : Nat} (x0 : Int) (x1 : (List (Int × Int))) (hl : x1.length ≤ maxLen) (k0 : (Int → Option α)) (k1 : Option α) : ∀ (n j : Nat), x1.length < n + j → j ≤ x1.length → L0.f N x0 x1 (x1.length : Int) n (j : Int) k0 k1 = L0.l N x0 x1 k0 k1 (x1.drop j) (j : Int) :=
 rng0 x1 hl (fun n i => L0.f N x0 x1 (x1.length : Int) n i k0 k1) (fun l i => L0.l N x0 x1 k0 k1 l i) (fun n j hj h ih => by simp only [L0.f, L0.st, L0.l, h.a, h.b, h.c, h.d, h.e, Bool.true_and, Bool.and_true, Bool.and_self, cond_true, ih] <;> rfl) (fun n j h => by simp only [L0.f, L0.st, L0.l, h, cond_false])
end tf_weight
theorem tf_weight.L0.law {α : Type} {N : Nat} (x0 : Int) (x1 : (List (Int × Int))) (k0 : (Int → Option α)) (k1 : Option α) : ∀ l j, tf_weight.L0.l N x0 x1 k0 k1 l j = match l.find? (fun a => a.1 == x0) with | some a => k0 a.2 | none => k1
 | [], j => rfl
 | x :: l, j => by
  rw [tf_weight.L0.l, tf_weight.L0.law, List.find?_cons]
  cases (x.1 == x0) <;> rfl
theorem weightS_find (p : Int) : ∀ l : List (Int × Int), weightS l p = match l.find? (fun a => a.1 == p) with | some a => a.2 | none => 0
 | [] => rfl
 | x :: l => by
  rw [weightS, weightS_find p l, List.find?_cons]
  cases (x.1 == p) <;> rfl
theorem tf_weight.law {α : Type} {N : Nat} (hN : 18446744073709551616 ≤ N) (a0 : List (Int × Int)) (a1 : Int) (w0 : K.wf (.sl (.st (.pr (.int .i64) (.int .i64)))) a0) (w1 : K.wf (.int .i64) a1) (kr : (Int → Option α)) : tf_weight.g N a0 a1 kr = kr (tf_weight.spec a0 a1) := by
 unfold tf_weight.g tf_weight.spec
 refine (tf_weight.L0.rng (N := N) _ _ (w0.1) _ _ N 0  (by have := le_fuel (w0.1) hN; omega) (Nat.zero_le _)).trans ?_
 rw [List.drop_zero, tf_weight.L0.law, weightS_find]
 cases List.find? _ a0 <;> rfl
theorem tf_weight.ok : FentOk P 38 tf_weight.fent := fentOk_of (by kernel_rfl) fun ds hk => by
 obtain ⟨a0, l0, rfl, h0⟩ := ds_cons hk
 obtain ⟨a1, l1, rfl, h1⟩ := ds_cons h0
 obtain rfl := ds0 h1
 exact ⟨true, [.dat (.int .i64) (tf_weight.spec a0 a1)], fun h hw => tf_weight.calls 18446744073709551616 a0 a1 (tf_weight.law (Nat.le_refl _) a0 a1 hw.1 hw.2.1 _), fun α k => rfl⟩
end Go.VI
namespace Go.VI
open Go Go.Proofs
namespace tf_Complement
def an13 : Ann := [(6, [2, 5, 24, 25, 26], [2, 5]), (12, [2, 5, 50, 51, 52], [2, 3, 5]), (15, [2, 5, 50, 51, 52, 60, 61, 62], [2, 3, 5, 50, 51, 52]), (18, [2, 5, 50, 51, 52, 60, 61, 62, 66, 67, 68], [2, 3, 5, 50, 51, 52, 60, 61, 62])]
def an35 : Ann := [(3, [1, 2, 3, 6, 7, 16, 17, 18], [2, 3, 6, 7]), (8, [2, 6, 7, 34, 35, 36], [6, 7])]
def an37 : Ann := [(3, [2, 3, 4, 14, 15, 16, 2047, 2046], [2, 3, 2047, 2046])]
def L0.sh : Sh := { sl := [(1, SV.a (SA.fx (Atom.fn 36 []))), (2, SV.a (SA.fx (Atom.fn 37 [0]))), (3, SV.a (SA.fx (Atom.box 2 0))), (6, SV.a (SA.fx (Atom.box 3 0))), (7, SV.a (SA.fx (Atom.box 4 0))), (16, SV.a (SA.d (K.str.pr ((K.int IntKind.i64).pr (K.int IntKind.i64))).st.sl)), (17, SV.a (SA.d (K.int IntKind.i64))), (18, SV.a (SA.d (K.int IntKind.i64)))], os := [(2, SO.box [SA.d K.str, SA.d (K.str.pr ((K.int IntKind.i64).pr (K.int IntKind.i64))).st.sl, SA.d (K.str.pr (((K.int IntKind.i64).pr (K.int IntKind.i64)).st.sl.pr (((K.int IntKind.i64).pr (K.int IntKind.i64)).st.sl.pr (((K.int IntKind.i64).pr (K.int IntKind.i64)).st.sl.pr (K.int IntKind.i64))))).st.sl]), (3, SO.box [SA.d K.str, SA.fx (Atom.sl 7 0 none), SA.fx (Atom.sl 8 0 none)]), (4, SO.box [SA.d K.str, SA.fx (Atom.sl 9 0 none), SA.fx (Atom.sl 10 0 none)]), (5, SO.row (K.str.pr ((K.int IntKind.i64).pr (K.int IntKind.i64))).st 0), (6, SO.row (K.str.pr (((K.int IntKind.i64).pr (K.int IntKind.i64)).st.sl.pr (((K.int IntKind.i64).pr (K.int IntKind.i64)).st.sl.pr (((K.int IntKind.i64).pr (K.int IntKind.i64)).st.sl.pr (K.int IntKind.i64))))).st 0), (7, SO.row (K.str.pr ((K.int IntKind.i64).pr (K.int IntKind.i64))).st 0), (8, SO.row (K.str.pr (((K.int IntKind.i64).pr (K.int IntKind.i64)).st.sl.pr (((K.int IntKind.i64).pr (K.int IntKind.i64)).st.sl.pr (((K.int IntKind.i64).pr (K.int IntKind.i64)).st.sl.pr (K.int IntKind.i64))))).st 0), (9, SO.row (K.str.pr ((K.int IntKind.i64).pr (K.int IntKind.i64))).st 0), (10, SO.row (K.str.pr (((K.int IntKind.i64).pr (K.int IntKind.i64)).st.sl.pr (((K.int IntKind.i64).pr (K.int IntKind.i64)).st.sl.pr (((K.int IntKind.i64).pr (K.int IntKind.i64)).st.sl.pr (K.int IntKind.i64))))).st 0), (1, SO.box [SA.d K.str, SA.fx (Atom.sl 5 0 none), SA.fx (Atom.sl 6 0 none)]), (0, SO.box [SA.d K.str, SA.d (K.str.pr ((K.int IntKind.i64).pr (K.int IntKind.i64))).st.sl, SA.d (K.str.pr (((K.int IntKind.i64).pr (K.int IntKind.i64)).st.sl.pr (((K.int IntKind.i64).pr (K.int IntKind.i64)).st.sl.pr (((K.int IntKind.i64).pr (K.int IntKind.i64)).st.sl.pr (K.int IntKind.i64))))).st.sl])], nx := 11 }
def L0.x0 : Sh := { sl := [(2, SV.a (SA.fx (Atom.fn 37 [0]))), (3, SV.a (SA.fx (Atom.box 2 0))), (6, SV.a (SA.fx (Atom.box 3 0))), (7, SV.a (SA.fx (Atom.box 4 0)))], os := [(2, SO.box [SA.d K.str, SA.d (K.str.pr ((K.int IntKind.i64).pr (K.int IntKind.i64))).st.sl, SA.d (K.str.pr (((K.int IntKind.i64).pr (K.int IntKind.i64)).st.sl.pr (((K.int IntKind.i64).pr (K.int IntKind.i64)).st.sl.pr (((K.int IntKind.i64).pr (K.int IntKind.i64)).st.sl.pr (K.int IntKind.i64))))).st.sl]), (3, SO.box [SA.d K.str, SA.fx (Atom.sl 7 0 none), SA.fx (Atom.sl 8 0 none)]), (4, SO.box [SA.d K.str, SA.fx (Atom.sl 9 0 none), SA.fx (Atom.sl 10 0 none)]), (5, SO.row (K.str.pr ((K.int IntKind.i64).pr (K.int IntKind.i64))).st 0), (6, SO.row (K.str.pr (((K.int IntKind.i64).pr (K.int IntKind.i64)).st.sl.pr (((K.int IntKind.i64).pr (K.int IntKind.i64)).st.sl.pr (((K.int IntKind.i64).pr (K.int IntKind.i64)).st.sl.pr (K.int IntKind.i64))))).st 0), (7, SO.row (K.str.pr ((K.int IntKind.i64).pr (K.int IntKind.i64))).st 0), (8, SO.row (K.str.pr (((K.int IntKind.i64).pr (K.int IntKind.i64)).st.sl.pr (((K.int IntKind.i64).pr (K.int IntKind.i64)).st.sl.pr (((K.int IntKind.i64).pr (K.int IntKind.i64)).st.sl.pr (K.int IntKind.i64))))).st 0), (9, SO.row (K.str.pr ((K.int IntKind.i64).pr (K.int IntKind.i64))).st 0), (10, SO.row (K.str.pr (((K.int IntKind.i64).pr (K.int IntKind.i64)).st.sl.pr (((K.int IntKind.i64).pr (K.int IntKind.i64)).st.sl.pr (((K.int IntKind.i64).pr (K.int IntKind.i64)).st.sl.pr (K.int IntKind.i64))))).st 0), (1, SO.box [SA.d K.str, SA.fx (Atom.sl 5 0 none), SA.fx (Atom.sl 6 0 none)]), (0, SO.box [SA.d K.str, SA.d (K.str.pr ((K.int IntKind.i64).pr (K.int IntKind.i64))).st.sl, SA.d (K.str.pr (((K.int IntKind.i64).pr (K.int IntKind.i64)).st.sl.pr (((K.int IntKind.i64).pr (K.int IntKind.i64)).st.sl.pr (((K.int IntKind.i64).pr (K.int IntKind.i64)).st.sl.pr (K.int IntKind.i64))))).st.sl])], nx := 11 }
def L0.st {α : Type} (N : Nat) (x0 : (List (BA × Int × Int))) (x1 : Int) (φ : (Int → (List (BA × Int × Int)) → Option α)) (x2 : Int) (x12 : (List (BA × Int × Int))) (k0 : ((List (BA × Int × Int)) → Option α)) : Option α :=
 cond (decide (x2 < x1)) (cond (decide (0 ≤ x2) && decide (x2 < (↑x0.length : Int))) (cond ((x12.length + 1).ble mxl) (cond ((x12.length + 1).ble mxl) (φ (IntKind.i64.wrap (x2 + 1)) (x12 ++ [(tf_Complement_1.spec x2 (x0.getD x2.toNat (eBA, 0, 0)))])) (none)) (none)) (none)) (k0 (x12))
def L0.f {α : Type} (N : Nat) (c0 : (List (BA × Int × Int))) (c1 : Int) : Nat → Int → (List (BA × Int × Int)) → ((List (BA × Int × Int)) → Option α) → Option α
 | 0, _, _, _ => none
 | n + 1, d0, d1, k0 => L0.st N c0 c1 (fun e0 e1 => L0.f N c0 c1 n e0 e1 k0) d0 d1 k0
def L0.up (d : L0.sh.T) (e0 : Int) (e1 : (List (BA × Int × Int))) : L0.sh.T := (((), ((), ((), ((), ((), (d.1.2.2.2.2.2.1, (d.1.2.2.2.2.2.2.1, (e0, ())))))))), ((d.2.1.1, (d.2.1.2.1, (d.2.1.2.2.1, ()))), ((d.2.2.1.1, ((), ((), ()))), ((d.2.2.2.1.1, ((), ((), ()))), (d.2.2.2.2.1, (d.2.2.2.2.2.1, (d.2.2.2.2.2.2.1, (d.2.2.2.2.2.2.2.1, (e1, (d.2.2.2.2.2.2.2.2.2.1, ((d.2.2.2.2.2.2.2.2.2.2.1.1, ((), ((), ()))), ((d.2.2.2.2.2.2.2.2.2.2.2.1.1, (d.2.2.2.2.2.2.2.2.2.2.2.1.2.1, (d.2.2.2.2.2.2.2.2.2.2.2.1.2.2.1, ()))), ()))))))))))))
def L0.k0 {α : Type} (d : L0.sh.T) (K : Cont α) : ((List (BA × Int × Int)) → Option α) := fun y0 => K (Exit.exit 0) (L0.x0.enc (((), ((), ((), ((), ())))), ((d.2.1.1, (d.2.1.2.1, (d.2.1.2.2.1, ()))), ((d.2.2.1.1, ((), ((), ()))), ((d.2.2.2.1.1, ((), ((), ()))), (d.2.2.2.2.1, (d.2.2.2.2.2.1, (d.2.2.2.2.2.2.1, (d.2.2.2.2.2.2.2.1, (y0, (d.2.2.2.2.2.2.2.2.2.1, ((d.2.2.2.2.2.2.2.2.2.2.1.1, ((), ((), ()))), ((d.2.2.2.2.2.2.2.2.2.2.2.1.1, (d.2.2.2.2.2.2.2.2.2.2.2.1.2.1, (d.2.2.2.2.2.2.2.2.2.2.2.1.2.2.1, ()))), ())))))))))))))
def L0.F {α : Type} (N : Nat) (d : L0.sh.T) (K : Cont α) : Option α := L0.f N d.1.2.2.2.2.2.1 d.1.2.2.2.2.2.2.1 N d.1.2.2.2.2.2.2.2.1 d.2.2.2.2.2.2.2.2.1 (L0.k0 d K)
def L1.sh : Sh := { sl := [(2, SV.a (SA.fx (Atom.box 14 0))), (3, SV.a (SA.fx (Atom.box 15 0))), (4, SV.a (SA.d (K.int IntKind.i64))), (14, SV.a (SA.d (K.str.pr ((K.int IntKind.i64).pr (K.int IntKind.i64))).st.sl)), (15, SV.a (SA.d (K.int IntKind.i64))), (16, SV.a (SA.d (K.int IntKind.i64))), (2047, SV.j), (2046, SV.j)], os := [(14, SO.box [SA.d K.str, SA.fx (Atom.sl 11 14 none), SA.fx (Atom.sl 12 14 none), SA.fx (Atom.sl 13 14 none), SA.d (K.int IntKind.i64)]), (15, SO.box [SA.d K.str, SA.fx (Atom.sl 16 0 none), SA.fx (Atom.sl 17 0 none), SA.fx (Atom.sl 18 0 none), SA.d (K.int IntKind.i64)]), (16, SO.row ((K.int IntKind.i64).pr (K.int IntKind.i64)).st 0), (17, SO.row ((K.int IntKind.i64).pr (K.int IntKind.i64)).st 0), (18, SO.row ((K.int IntKind.i64).pr (K.int IntKind.i64)).st 0), (13, SO.row ((K.int IntKind.i64).pr (K.int IntKind.i64)).st 14), (12, SO.row ((K.int IntKind.i64).pr (K.int IntKind.i64)).st 14), (11, SO.row ((K.int IntKind.i64).pr (K.int IntKind.i64)).st 14), (10, SO.box [SA.d K.str, SA.fx Atom.junk, SA.fx Atom.junk, SA.fx Atom.junk, SA.d (K.int IntKind.i64)]), (2, SO.box [SA.d K.str, SA.fx (Atom.sl 6 0 none), SA.fx (Atom.sl 7 0 none)]), (3, SO.box [SA.d K.str, SA.fx (Atom.sl 8 0 none), SA.fx (Atom.sl 9 0 none)]), (4, SO.row (K.str.pr ((K.int IntKind.i64).pr (K.int IntKind.i64))).st 0), (5, SO.row (K.str.pr (((K.int IntKind.i64).pr (K.int IntKind.i64)).st.sl.pr (((K.int IntKind.i64).pr (K.int IntKind.i64)).st.sl.pr (((K.int IntKind.i64).pr (K.int IntKind.i64)).st.sl.pr (K.int IntKind.i64))))).st 0), (6, SO.row (K.str.pr ((K.int IntKind.i64).pr (K.int IntKind.i64))).st 0), (7, SO.row (K.str.pr (((K.int IntKind.i64).pr (K.int IntKind.i64)).st.sl.pr (((K.int IntKind.i64).pr (K.int IntKind.i64)).st.sl.pr (((K.int IntKind.i64).pr (K.int IntKind.i64)).st.sl.pr (K.int IntKind.i64))))).st 0), (8, SO.row (K.str.pr ((K.int IntKind.i64).pr (K.int IntKind.i64))).st 0), (9, SO.row (K.str.pr (((K.int IntKind.i64).pr (K.int IntKind.i64)).st.sl.pr (((K.int IntKind.i64).pr (K.int IntKind.i64)).st.sl.pr (((K.int IntKind.i64).pr (K.int IntKind.i64)).st.sl.pr (K.int IntKind.i64))))).st 0), (1, SO.box [SA.d K.str, SA.fx (Atom.sl 4 0 none), SA.fx (Atom.sl 5 0 none)]), (0, SO.box [SA.d K.str, SA.d (K.str.pr ((K.int IntKind.i64).pr (K.int IntKind.i64))).st.sl, SA.d (K.str.pr (((K.int IntKind.i64).pr (K.int IntKind.i64)).st.sl.pr (((K.int IntKind.i64).pr (K.int IntKind.i64)).st.sl.pr (((K.int IntKind.i64).pr (K.int IntKind.i64)).st.sl.pr (K.int IntKind.i64))))).st.sl])], nx := 20 }
def L1.x0 : Sh := { sl := [(2, SV.a (SA.fx (Atom.box 14 0))), (3, SV.a (SA.fx (Atom.box 15 0))), (2047, SV.j), (2046, SV.j)], os := [(14, SO.box [SA.d K.str, SA.fx (Atom.sl 11 14 none), SA.fx (Atom.sl 12 14 none), SA.fx (Atom.sl 13 14 none), SA.d (K.int IntKind.i64)]), (15, SO.box [SA.d K.str, SA.fx (Atom.sl 16 0 none), SA.fx (Atom.sl 17 0 none), SA.fx (Atom.sl 18 0 none), SA.d (K.int IntKind.i64)]), (16, SO.row ((K.int IntKind.i64).pr (K.int IntKind.i64)).st 0), (17, SO.row ((K.int IntKind.i64).pr (K.int IntKind.i64)).st 0), (18, SO.row ((K.int IntKind.i64).pr (K.int IntKind.i64)).st 0), (13, SO.row ((K.int IntKind.i64).pr (K.int IntKind.i64)).st 14), (12, SO.row ((K.int IntKind.i64).pr (K.int IntKind.i64)).st 14), (11, SO.row ((K.int IntKind.i64).pr (K.int IntKind.i64)).st 14), (10, SO.box [SA.d K.str, SA.fx Atom.junk, SA.fx Atom.junk, SA.fx Atom.junk, SA.d (K.int IntKind.i64)]), (2, SO.box [SA.d K.str, SA.fx (Atom.sl 6 0 none), SA.fx (Atom.sl 7 0 none)]), (3, SO.box [SA.d K.str, SA.fx (Atom.sl 8 0 none), SA.fx (Atom.sl 9 0 none)]), (4, SO.row (K.str.pr ((K.int IntKind.i64).pr (K.int IntKind.i64))).st 0), (5, SO.row (K.str.pr (((K.int IntKind.i64).pr (K.int IntKind.i64)).st.sl.pr (((K.int IntKind.i64).pr (K.int IntKind.i64)).st.sl.pr (((K.int IntKind.i64).pr (K.int IntKind.i64)).st.sl.pr (K.int IntKind.i64))))).st 0), (6, SO.row (K.str.pr ((K.int IntKind.i64).pr (K.int IntKind.i64))).st 0), (7, SO.row (K.str.pr (((K.int IntKind.i64).pr (K.int IntKind.i64)).st.sl.pr (((K.int IntKind.i64).pr (K.int IntKind.i64)).st.sl.pr (((K.int IntKind.i64).pr (K.int IntKind.i64)).st.sl.pr (K.int IntKind.i64))))).st 0), (8, SO.row (K.str.pr ((K.int IntKind.i64).pr (K.int IntKind.i64))).st 0), (9, SO.row (K.str.pr (((K.int IntKind.i64).pr (K.int IntKind.i64)).st.sl.pr (((K.int IntKind.i64).pr (K.int IntKind.i64)).st.sl.pr (((K.int IntKind.i64).pr (K.int IntKind.i64)).st.sl.pr (K.int IntKind.i64))))).st 0), (1, SO.box [SA.d K.str, SA.fx (Atom.sl 4 0 none), SA.fx (Atom.sl 5 0 none)]), (0, SO.box [SA.d K.str, SA.d (K.str.pr ((K.int IntKind.i64).pr (K.int IntKind.i64))).st.sl, SA.d (K.str.pr (((K.int IntKind.i64).pr (K.int IntKind.i64)).st.sl.pr (((K.int IntKind.i64).pr (K.int IntKind.i64)).st.sl.pr (((K.int IntKind.i64).pr (K.int IntKind.i64)).st.sl.pr (K.int IntKind.i64))))).st.sl])], nx := 20 }
def L1.st {α : Type} (N : Nat) (x35 : (List (BA × Int × Int))) (x36 : Int) (x45 : (List (Int × Int))) (φ : (Int → Int → (List (Int × Int)) → (List (Int × Int)) → Option α)) (x34 : Int) (x37 : Int) (x46 : (List (Int × Int))) (x47 : (List (Int × Int))) (k0 : ((List (Int × Int)) → (List (Int × Int)) → Option α)) : Option α :=
 cond (decide (x37 < x36)) (cond (decide (0 ≤ x37) && decide (x37 < (↑x35.length : Int))) (cond ((x35.getD x37.toNat (eBA, 0, 0)).snd.snd == 0) (φ (x34) (IntKind.i64.wrap (x37 + 1)) (x46) (x47)) (lt (tf_weight.spec x46 x37) fun v11 => lt (tf_weight.spec x47 x37) fun v12 => lt (tf_weight.spec x45 x37) fun v13 => cond (decide (0 < v13)) (cond (decide (0 < imax (imax 0 (IntKind.i64.wrap (v11 - v12))) (IntKind.i64.wrap (IntKind.i64.wrap ((x35.getD x37.toNat (eBA, 0, 0)).snd.snd - v13) + 1)))) (cond ((x47.length + 1).ble mxl) (cond (decide (IntKind.i64.wrap (v11 - v12) < imax (imax 0 (IntKind.i64.wrap (v11 - v12))) (IntKind.i64.wrap (IntKind.i64.wrap ((x35.getD x37.toNat (eBA, 0, 0)).snd.snd - v13) + 1)))) (cond ((x46.length + 1).ble mxl) (φ (IntKind.i64.wrap (x34 + 1)) (IntKind.i64.wrap (x37 + 1)) (x46 ++ [(x34, IntKind.i64.wrap (imax (imax 0 (IntKind.i64.wrap (v11 - v12))) (IntKind.i64.wrap (IntKind.i64.wrap ((x35.getD x37.toNat (eBA, 0, 0)).snd.snd - v13) + 1)) - IntKind.i64.wrap (v11 - v12)))]) (x47 ++ [(x34, imax (imax 0 (IntKind.i64.wrap (v11 - v12))) (IntKind.i64.wrap (IntKind.i64.wrap ((x35.getD x37.toNat (eBA, 0, 0)).snd.snd - v13) + 1)))])) (none)) (φ (IntKind.i64.wrap (x34 + 1)) (IntKind.i64.wrap (x37 + 1)) (x46) (x47 ++ [(x34, imax (imax 0 (IntKind.i64.wrap (v11 - v12))) (IntKind.i64.wrap (IntKind.i64.wrap ((x35.getD x37.toNat (eBA, 0, 0)).snd.snd - v13) + 1)))]))) (none)) (cond (decide (IntKind.i64.wrap (v11 - v12) < imax (imax 0 (IntKind.i64.wrap (v11 - v12))) (IntKind.i64.wrap (IntKind.i64.wrap ((x35.getD x37.toNat (eBA, 0, 0)).snd.snd - v13) + 1)))) (cond ((x46.length + 1).ble mxl) (φ (IntKind.i64.wrap (x34 + 1)) (IntKind.i64.wrap (x37 + 1)) (x46 ++ [(x34, IntKind.i64.wrap (imax (imax 0 (IntKind.i64.wrap (v11 - v12))) (IntKind.i64.wrap (IntKind.i64.wrap ((x35.getD x37.toNat (eBA, 0, 0)).snd.snd - v13) + 1)) - IntKind.i64.wrap (v11 - v12)))]) (x47)) (none)) (φ (IntKind.i64.wrap (x34 + 1)) (IntKind.i64.wrap (x37 + 1)) (x46) (x47)))) (cond (decide (0 < imax 0 (IntKind.i64.wrap (v11 - v12)))) (cond ((x47.length + 1).ble mxl) (cond (decide (IntKind.i64.wrap (v11 - v12) < imax 0 (IntKind.i64.wrap (v11 - v12)))) (cond ((x46.length + 1).ble mxl) (φ (IntKind.i64.wrap (x34 + 1)) (IntKind.i64.wrap (x37 + 1)) (x46 ++ [(x34, IntKind.i64.wrap (imax 0 (IntKind.i64.wrap (v11 - v12)) - IntKind.i64.wrap (v11 - v12)))]) (x47 ++ [(x34, imax 0 (IntKind.i64.wrap (v11 - v12)))])) (none)) (φ (IntKind.i64.wrap (x34 + 1)) (IntKind.i64.wrap (x37 + 1)) (x46) (x47 ++ [(x34, imax 0 (IntKind.i64.wrap (v11 - v12)))]))) (none)) (cond (decide (IntKind.i64.wrap (v11 - v12) < imax 0 (IntKind.i64.wrap (v11 - v12)))) (cond ((x46.length + 1).ble mxl) (φ (IntKind.i64.wrap (x34 + 1)) (IntKind.i64.wrap (x37 + 1)) (x46 ++ [(x34, IntKind.i64.wrap (imax 0 (IntKind.i64.wrap (v11 - v12)) - IntKind.i64.wrap (v11 - v12)))]) (x47)) (none)) (φ (IntKind.i64.wrap (x34 + 1)) (IntKind.i64.wrap (x37 + 1)) (x46) (x47)))))) (none)) (k0 (x46) (x47))
def L1.f {α : Type} (N : Nat) (c0 : (List (BA × Int × Int))) (c1 : Int) (c9 : (List (Int × Int))) : Nat → Int → Int → (List (Int × Int)) → (List (Int × Int)) → ((List (Int × Int)) → (List (Int × Int)) → Option α) → Option α
 | 0, _, _, _, _, _ => none
 | n + 1, d0, d1, d2, d3, k0 => L1.st N c0 c1 c9 (fun e0 e1 e2 e3 => L1.f N c0 c1 c9 n e0 e1 e2 e3 k0) d0 d1 d2 d3 k0
def L1.up (d : L1.sh.T) (e0 : Int) (e1 : Int) (e2 : (List (Int × Int))) (e3 : (List (Int × Int))) : L1.sh.T := (((), ((), (e0, (d.1.2.2.2.1, (d.1.2.2.2.2.1, (e1, ((), ((), ())))))))), ((d.2.1.1, ((), ((), ((), (d.2.1.2.2.2.2.1, ()))))), ((d.2.2.1.1, ((), ((), ((), (d.2.2.1.2.2.2.2.1, ()))))), (d.2.2.2.1, (d.2.2.2.2.1, (d.2.2.2.2.2.1, (d.2.2.2.2.2.2.1, (e2, (e3, ((d.2.2.2.2.2.2.2.2.2.1.1, ((), ((), ((), (d.2.2.2.2.2.2.2.2.2.1.2.2.2.2.1, ()))))), ((d.2.2.2.2.2.2.2.2.2.2.1.1, ((), ((), ()))), ((d.2.2.2.2.2.2.2.2.2.2.2.1.1, ((), ((), ()))), (d.2.2.2.2.2.2.2.2.2.2.2.2.1, (d.2.2.2.2.2.2.2.2.2.2.2.2.2.1, (d.2.2.2.2.2.2.2.2.2.2.2.2.2.2.1, (d.2.2.2.2.2.2.2.2.2.2.2.2.2.2.2.1, (d.2.2.2.2.2.2.2.2.2.2.2.2.2.2.2.2.1, (d.2.2.2.2.2.2.2.2.2.2.2.2.2.2.2.2.2.1, ((d.2.2.2.2.2.2.2.2.2.2.2.2.2.2.2.2.2.2.1.1, ((), ((), ()))), ((d.2.2.2.2.2.2.2.2.2.2.2.2.2.2.2.2.2.2.2.1.1, (d.2.2.2.2.2.2.2.2.2.2.2.2.2.2.2.2.2.2.2.1.2.1, (d.2.2.2.2.2.2.2.2.2.2.2.2.2.2.2.2.2.2.2.1.2.2.1, ()))), ()))))))))))))))))))))
def L1.k0 {α : Type} (d : L1.sh.T) (K : Cont α) : ((List (Int × Int)) → (List (Int × Int)) → Option α) := fun y0 y1 => K (Exit.exit 0) (L1.x0.enc (((), ((), ((), ((), ())))), ((d.2.1.1, ((), ((), ((), (d.2.1.2.2.2.2.1, ()))))), ((d.2.2.1.1, ((), ((), ((), (d.2.2.1.2.2.2.2.1, ()))))), (d.2.2.2.1, (d.2.2.2.2.1, (d.2.2.2.2.2.1, (d.2.2.2.2.2.2.1, (y0, (y1, ((d.2.2.2.2.2.2.2.2.2.1.1, ((), ((), ((), (d.2.2.2.2.2.2.2.2.2.1.2.2.2.2.1, ()))))), ((d.2.2.2.2.2.2.2.2.2.2.1.1, ((), ((), ()))), ((d.2.2.2.2.2.2.2.2.2.2.2.1.1, ((), ((), ()))), (d.2.2.2.2.2.2.2.2.2.2.2.2.1, (d.2.2.2.2.2.2.2.2.2.2.2.2.2.1, (d.2.2.2.2.2.2.2.2.2.2.2.2.2.2.1, (d.2.2.2.2.2.2.2.2.2.2.2.2.2.2.2.1, (d.2.2.2.2.2.2.2.2.2.2.2.2.2.2.2.2.1, (d.2.2.2.2.2.2.2.2.2.2.2.2.2.2.2.2.2.1, ((d.2.2.2.2.2.2.2.2.2.2.2.2.2.2.2.2.2.2.1.1, ((), ((), ()))), ((d.2.2.2.2.2.2.2.2.2.2.2.2.2.2.2.2.2.2.2.1.1, (d.2.2.2.2.2.2.2.2.2.2.2.2.2.2.2.2.2.2.2.1.2.1, (d.2.2.2.2.2.2.2.2.2.2.2.2.2.2.2.2.2.2.2.1.2.2.1, ()))), ())))))))))))))))))))))
def L1.F {α : Type} (N : Nat) (d : L1.sh.T) (K : Cont α) : Option α := L1.f N d.1.2.2.2.1 d.1.2.2.2.2.1 d.2.2.2.2.2.2.1 N d.1.2.2.1 d.1.2.2.2.2.2.1 d.2.2.2.2.2.2.2.1 d.2.2.2.2.2.2.2.2.1 (L1.k0 d K)
def L2.sh : Sh := { sl := [(2, SV.a (SA.fx (Atom.fn 37 [0]))), (6, SV.a (SA.fx (Atom.box 2 0))), (7, SV.a (SA.fx (Atom.box 3 0))), (34, SV.a (SA.d (K.str.pr (((K.int IntKind.i64).pr (K.int IntKind.i64)).st.sl.pr (((K.int IntKind.i64).pr (K.int IntKind.i64)).st.sl.pr (((K.int IntKind.i64).pr (K.int IntKind.i64)).st.sl.pr (K.int IntKind.i64))))).st.sl)), (35, SV.a (SA.d (K.int IntKind.i64))), (36, SV.a (SA.d (K.int IntKind.i64)))], os := [(2, SO.box [SA.d K.str, SA.fx (Atom.sl 6 0 none), SA.fx (Atom.sl 7 0 none)]), (3, SO.box [SA.d K.str, SA.fx (Atom.sl 8 0 none), SA.fx (Atom.sl 9 0 none)]), (4, SO.row (K.str.pr ((K.int IntKind.i64).pr (K.int IntKind.i64))).st 0), (5, SO.row (K.str.pr (((K.int IntKind.i64).pr (K.int IntKind.i64)).st.sl.pr (((K.int IntKind.i64).pr (K.int IntKind.i64)).st.sl.pr (((K.int IntKind.i64).pr (K.int IntKind.i64)).st.sl.pr (K.int IntKind.i64))))).st 0), (6, SO.row (K.str.pr ((K.int IntKind.i64).pr (K.int IntKind.i64))).st 0), (7, SO.row (K.str.pr (((K.int IntKind.i64).pr (K.int IntKind.i64)).st.sl.pr (((K.int IntKind.i64).pr (K.int IntKind.i64)).st.sl.pr (((K.int IntKind.i64).pr (K.int IntKind.i64)).st.sl.pr (K.int IntKind.i64))))).st 0), (8, SO.row (K.str.pr ((K.int IntKind.i64).pr (K.int IntKind.i64))).st 0), (9, SO.row (K.str.pr (((K.int IntKind.i64).pr (K.int IntKind.i64)).st.sl.pr (((K.int IntKind.i64).pr (K.int IntKind.i64)).st.sl.pr (((K.int IntKind.i64).pr (K.int IntKind.i64)).st.sl.pr (K.int IntKind.i64))))).st 0), (1, SO.box [SA.d K.str, SA.fx (Atom.sl 4 0 none), SA.fx (Atom.sl 5 0 none)]), (0, SO.box [SA.d K.str, SA.d (K.str.pr ((K.int IntKind.i64).pr (K.int IntKind.i64))).st.sl, SA.d (K.str.pr (((K.int IntKind.i64).pr (K.int IntKind.i64)).st.sl.pr (((K.int IntKind.i64).pr (K.int IntKind.i64)).st.sl.pr (((K.int IntKind.i64).pr (K.int IntKind.i64)).st.sl.pr (K.int IntKind.i64))))).st.sl])], nx := 10 }
def L2.x0 : Sh := { sl := [(6, SV.a (SA.fx (Atom.box 2 0))), (7, SV.a (SA.fx (Atom.box 3 0)))], os := [(2, SO.box [SA.d K.str, SA.fx (Atom.sl 6 0 none), SA.fx (Atom.sl 7 0 none)]), (3, SO.box [SA.d K.str, SA.fx (Atom.sl 8 0 none), SA.fx (Atom.sl 9 0 none)]), (4, SO.row (K.str.pr ((K.int IntKind.i64).pr (K.int IntKind.i64))).st 0), (5, SO.row (K.str.pr (((K.int IntKind.i64).pr (K.int IntKind.i64)).st.sl.pr (((K.int IntKind.i64).pr (K.int IntKind.i64)).st.sl.pr (((K.int IntKind.i64).pr (K.int IntKind.i64)).st.sl.pr (K.int IntKind.i64))))).st 0), (6, SO.row (K.str.pr ((K.int IntKind.i64).pr (K.int IntKind.i64))).st 0), (7, SO.row (K.str.pr (((K.int IntKind.i64).pr (K.int IntKind.i64)).st.sl.pr (((K.int IntKind.i64).pr (K.int IntKind.i64)).st.sl.pr (((K.int IntKind.i64).pr (K.int IntKind.i64)).st.sl.pr (K.int IntKind.i64))))).st 0), (8, SO.row (K.str.pr ((K.int IntKind.i64).pr (K.int IntKind.i64))).st 0), (9, SO.row (K.str.pr (((K.int IntKind.i64).pr (K.int IntKind.i64)).st.sl.pr (((K.int IntKind.i64).pr (K.int IntKind.i64)).st.sl.pr (((K.int IntKind.i64).pr (K.int IntKind.i64)).st.sl.pr (K.int IntKind.i64))))).st 0), (1, SO.box [SA.d K.str, SA.fx (Atom.sl 4 0 none), SA.fx (Atom.sl 5 0 none)]), (0, SO.box [SA.d K.str, SA.d (K.str.pr ((K.int IntKind.i64).pr (K.int IntKind.i64))).st.sl, SA.d (K.str.pr (((K.int IntKind.i64).pr (K.int IntKind.i64)).st.sl.pr (((K.int IntKind.i64).pr (K.int IntKind.i64)).st.sl.pr (((K.int IntKind.i64).pr (K.int IntKind.i64)).st.sl.pr (K.int IntKind.i64))))).st.sl])], nx := 10 }
def L2.st {α : Type} (N : Nat) (x19 : (List (BA × List (Int × Int) × List (Int × Int) × List (Int × Int) × Int))) (x20 : Int) (x32 : (List (BA × Int × Int))) (φ : (Int → (List (BA × List (Int × Int) × List (Int × Int) × List (Int × Int) × Int)) → Option α)) (x21 : Int) (x29 : (List (BA × List (Int × Int) × List (Int × Int) × List (Int × Int) × Int))) (k0 : ((List (BA × List (Int × Int) × List (Int × Int) × List (Int × Int) × Int)) → Option α)) : Option α :=
 cond (decide (x21 < x20)) (cond (decide (0 ≤ x21) && decide (x21 < (↑x19.length : Int))) (cond (tf_clone.pre (x19.getD x21.toNat (eBA, [], [], [], 0)).snd.fst) (cond (tf_clone.pre (x19.getD x21.toNat (eBA, [], [], [], 0)).snd.snd.fst) (cond (tf_clone.pre (x19.getD x21.toNat (eBA, [], [], [], 0)).snd.snd.snd.fst) (cond (tf_clone.pre (x19.getD x21.toNat (eBA, [], [], [], 0)).snd.fst) (lt (tf_clone.spec (x19.getD x21.toNat (eBA, [], [], [], 0)).snd.fst) fun v6 => cond (tf_clone.pre (x19.getD x21.toNat (eBA, [], [], [], 0)).snd.snd.fst) (lt (tf_clone.spec (x19.getD x21.toNat (eBA, [], [], [], 0)).snd.snd.fst) fun v7 => cond (tf_clone.pre (x19.getD x21.toNat (eBA, [], [], [], 0)).snd.snd.snd.fst) (lt (tf_clone.spec (x19.getD x21.toNat (eBA, [], [], [], 0)).snd.snd.snd.fst) fun v8 => L1.f N (x32) ((↑x32.length : Int)) (v8) N ((↑x32.length : Int)) (0) (v7) (v6) (fun x62 x63 => cond ((x29.length + 1).ble mxl) (L1.f N (x32) ((↑x32.length : Int)) (v8) N ((↑x32.length : Int)) (0) (v7) (v6) (fun x64 x65 => cond ((x29.length + 1).ble mxl) (φ (IntKind.i64.wrap (x21 + 1)) (x29 ++ [((x19.getD x21.toNat (eBA, [], [], [], 0)).fst, x65, x64, [], (x19.getD x21.toNat (eBA, [], [], [], 0)).snd.snd.snd.snd)])) (none))) (none))) (none)) (none)) (none)) (none)) (none)) (none)) (none)) (k0 (x29))
def L2.f {α : Type} (N : Nat) (c0 : (List (BA × List (Int × Int) × List (Int × Int) × List (Int × Int) × Int))) (c1 : Int) (c11 : (List (BA × Int × Int))) : Nat → Int → (List (BA × List (Int × Int) × List (Int × Int) × List (Int × Int) × Int)) → ((List (BA × List (Int × Int) × List (Int × Int) × List (Int × Int) × Int)) → Option α) → Option α
 | 0, _, _, _ => none
 | n + 1, d0, d1, k0 => L2.st N c0 c1 c11 (fun e0 e1 => L2.f N c0 c1 c11 n e0 e1 k0) d0 d1 k0
def L2.up (d : L2.sh.T) (e0 : Int) (e1 : (List (BA × List (Int × Int) × List (Int × Int) × List (Int × Int) × Int))) : L2.sh.T := (((), ((), ((), (d.1.2.2.2.1, (d.1.2.2.2.2.1, (e0, ())))))), ((d.2.1.1, ((), ((), ()))), ((d.2.2.1.1, ((), ((), ()))), (d.2.2.2.1, (d.2.2.2.2.1, (d.2.2.2.2.2.1, (d.2.2.2.2.2.2.1, (d.2.2.2.2.2.2.2.1, (e1, ((d.2.2.2.2.2.2.2.2.2.1.1, ((), ((), ()))), ((d.2.2.2.2.2.2.2.2.2.2.1.1, (d.2.2.2.2.2.2.2.2.2.2.1.2.1, (d.2.2.2.2.2.2.2.2.2.2.1.2.2.1, ()))), ())))))))))))
def L2.k0 {α : Type} (d : L2.sh.T) (K : Cont α) : ((List (BA × List (Int × Int) × List (Int × Int) × List (Int × Int) × Int)) → Option α) := fun y0 => K (Exit.exit 2) (L2.x0.enc (((), ((), ())), ((d.2.1.1, ((), ((), ()))), ((d.2.2.1.1, ((), ((), ()))), (d.2.2.2.1, (d.2.2.2.2.1, (d.2.2.2.2.2.1, (d.2.2.2.2.2.2.1, (d.2.2.2.2.2.2.2.1, (y0, ((d.2.2.2.2.2.2.2.2.2.1.1, ((), ((), ()))), ((d.2.2.2.2.2.2.2.2.2.2.1.1, (d.2.2.2.2.2.2.2.2.2.2.1.2.1, (d.2.2.2.2.2.2.2.2.2.2.1.2.2.1, ()))), ()))))))))))))
def L2.F {α : Type} (N : Nat) (d : L2.sh.T) (K : Cont α) : Option α := L2.f N d.1.2.2.2.1 d.1.2.2.2.2.1 d.2.2.2.2.2.2.2.2.2.2.1.2.1 N d.1.2.2.2.2.2.1 d.2.2.2.2.2.2.2.2.1 (L2.k0 d K)
def L3.sh : Sh := { sl := [(2, SV.a (SA.fx (Atom.box 0 0))), (5, SV.a (SA.fx (Atom.box 1 0))), (24, SV.a (SA.d (K.str.pr ((K.int IntKind.i64).pr (K.int IntKind.i64))).st.sl)), (25, SV.a (SA.d (K.int IntKind.i64))), (26, SV.a (SA.d (K.int IntKind.i64)))], os := [(0, SO.box [SA.d K.str, SA.fx (Atom.sl 2 0 none), SA.fx (Atom.sl 3 0 none)]), (1, SO.box [SA.d K.str, SA.fx (Atom.sl 4 0 none), SA.fx (Atom.sl 5 0 none)]), (2, SO.row (K.str.pr ((K.int IntKind.i64).pr (K.int IntKind.i64))).st 0), (3, SO.row (K.str.pr (((K.int IntKind.i64).pr (K.int IntKind.i64)).st.sl.pr (((K.int IntKind.i64).pr (K.int IntKind.i64)).st.sl.pr (((K.int IntKind.i64).pr (K.int IntKind.i64)).st.sl.pr (K.int IntKind.i64))))).st 0), (4, SO.row (K.str.pr ((K.int IntKind.i64).pr (K.int IntKind.i64))).st 0), (5, SO.row (K.str.pr (((K.int IntKind.i64).pr (K.int IntKind.i64)).st.sl.pr (((K.int IntKind.i64).pr (K.int IntKind.i64)).st.sl.pr (((K.int IntKind.i64).pr (K.int IntKind.i64)).st.sl.pr (K.int IntKind.i64))))).st 0)], nx := 6 }
def L3.x0 : Sh := { sl := [(2, SV.a (SA.fx (Atom.box 0 0))), (5, SV.a (SA.fx (Atom.box 1 0)))], os := [(0, SO.box [SA.d K.str, SA.fx (Atom.sl 2 0 none), SA.fx (Atom.sl 3 0 none)]), (1, SO.box [SA.d K.str, SA.fx (Atom.sl 4 0 none), SA.fx (Atom.sl 5 0 none)]), (2, SO.row (K.str.pr ((K.int IntKind.i64).pr (K.int IntKind.i64))).st 0), (3, SO.row (K.str.pr (((K.int IntKind.i64).pr (K.int IntKind.i64)).st.sl.pr (((K.int IntKind.i64).pr (K.int IntKind.i64)).st.sl.pr (((K.int IntKind.i64).pr (K.int IntKind.i64)).st.sl.pr (K.int IntKind.i64))))).st 0), (4, SO.row (K.str.pr ((K.int IntKind.i64).pr (K.int IntKind.i64))).st 0), (5, SO.row (K.str.pr (((K.int IntKind.i64).pr (K.int IntKind.i64)).st.sl.pr (((K.int IntKind.i64).pr (K.int IntKind.i64)).st.sl.pr (((K.int IntKind.i64).pr (K.int IntKind.i64)).st.sl.pr (K.int IntKind.i64))))).st 0)], nx := 6 }
def L3.st {α : Type} (N : Nat) (x67 : (List (BA × Int × Int))) (x68 : Int) (φ : (Int → (List (BA × Int × Int)) → Option α)) (x69 : Int) (x74 : (List (BA × Int × Int))) (k0 : ((List (BA × Int × Int)) → Option α)) : Option α :=
 cond (decide (x69 < x68)) (cond (decide (0 ≤ x69) && decide (x69 < (↑x67.length : Int))) (cond ((x67.getD x69.toNat (eBA, 0, 0)).snd.snd != 0) (cond (strconv_Itoa.pre x69) (cond (decide ((ByteArray.mk (#[95])).data.toList.length + (strconv_Itoa.spec x69).data.toList.length ≤ 1099511627776)) (cond ((x74.length + 1).ble mxl) (cond (strconv_Itoa.pre x69) (cond (decide ((ByteArray.mk (#[95])).data.toList.length + (strconv_Itoa.spec x69).data.toList.length ≤ 1099511627776)) (cond ((x74.length + 1).ble mxl) (φ (IntKind.i64.wrap (x69 + 1)) (x74 ++ [(sCat (ByteArray.mk (#[95])) (strconv_Itoa.spec x69), IntKind.i64.wrap ((x67.getD x69.toNat (eBA, 0, 0)).snd.snd - (x67.getD x69.toNat (eBA, 0, 0)).snd.fst), 0)])) (none)) (none)) (none)) (none)) (none)) (none)) (φ (IntKind.i64.wrap (x69 + 1)) (x74))) (none)) (k0 (x74))
def L3.f {α : Type} (N : Nat) (c0 : (List (BA × Int × Int))) (c1 : Int) : Nat → Int → (List (BA × Int × Int)) → ((List (BA × Int × Int)) → Option α) → Option α
 | 0, _, _, _ => none
 | n + 1, d0, d1, k0 => L3.st N c0 c1 (fun e0 e1 => L3.f N c0 c1 n e0 e1 k0) d0 d1 k0
def L3.up (d : L3.sh.T) (e0 : Int) (e1 : (List (BA × Int × Int))) : L3.sh.T := (((), ((), (d.1.2.2.1, (d.1.2.2.2.1, (e0, ()))))), ((d.2.1.1, ((), ((), ()))), ((d.2.2.1.1, ((), ((), ()))), (d.2.2.2.1, (d.2.2.2.2.1, (e1, (d.2.2.2.2.2.2.1, ())))))))
def L3.k0 {α : Type} (d : L3.sh.T) (K : Cont α) : ((List (BA × Int × Int)) → Option α) := fun y0 => K (Exit.exit 0) (L3.x0.enc (((), ((), ())), ((d.2.1.1, ((), ((), ()))), ((d.2.2.1.1, ((), ((), ()))), (d.2.2.2.1, (d.2.2.2.2.1, (y0, (d.2.2.2.2.2.2.1, ()))))))))
def L3.F {α : Type} (N : Nat) (d : L3.sh.T) (K : Cont α) : Option α := L3.f N d.1.2.2.1 d.1.2.2.2.1 N d.1.2.2.2.2.1 d.2.2.2.2.2.1 (L3.k0 d K)
def L4.sh : Sh := { sl := [(2, SV.a (SA.fx (Atom.box 0 0))), (5, SV.a (SA.fx (Atom.box 1 0))), (50, SV.a (SA.fx (Atom.sl 2 0 none))), (51, SV.a (SA.d (K.int IntKind.i64))), (52, SV.a (SA.d (K.int IntKind.i64))), (60, SV.a (SA.fx (Atom.sl 3 0 none))), (61, SV.a (SA.d (K.int IntKind.i64))), (62, SV.a (SA.d (K.int IntKind.i64))), (66, SV.a (SA.d ((K.int IntKind.i64).pr (K.int IntKind.i64)).st.sl)), (67, SV.a (SA.d (K.int IntKind.i64))), (68, SV.a (SA.d (K.int IntKind.i64)))], os := [(0, SO.box [SA.d K.str, SA.fx (Atom.sl 4 0 none), SA.fx (Atom.sl 5 0 none)]), (1, SO.box [SA.d K.str, SA.fx (Atom.sl 6 0 none), SA.fx (Atom.sl 2 0 none)]), (2, SO.row (K.str.pr (((K.int IntKind.i64).pr (K.int IntKind.i64)).st.sl.pr (((K.int IntKind.i64).pr (K.int IntKind.i64)).st.sl.pr (((K.int IntKind.i64).pr (K.int IntKind.i64)).st.sl.pr (K.int IntKind.i64))))).st 0), (3, SO.row ((K.int IntKind.i64).pr (K.int IntKind.i64)).st.sl 0), (4, SO.row (K.str.pr ((K.int IntKind.i64).pr (K.int IntKind.i64))).st 0), (5, SO.row (K.str.pr (((K.int IntKind.i64).pr (K.int IntKind.i64)).st.sl.pr (((K.int IntKind.i64).pr (K.int IntKind.i64)).st.sl.pr (((K.int IntKind.i64).pr (K.int IntKind.i64)).st.sl.pr (K.int IntKind.i64))))).st 0), (6, SO.row (K.str.pr ((K.int IntKind.i64).pr (K.int IntKind.i64))).st 0)], nx := 7 }
def L4.x0 : Sh := { sl := [(2, SV.a (SA.fx (Atom.box 0 0))), (3, SV.a (SA.d (K.int IntKind.i64))), (5, SV.a (SA.fx (Atom.box 1 0))), (50, SV.a (SA.fx (Atom.sl 2 0 none))), (51, SV.a (SA.d (K.int IntKind.i64))), (52, SV.a (SA.d (K.int IntKind.i64))), (60, SV.a (SA.fx (Atom.sl 3 0 none))), (61, SV.a (SA.d (K.int IntKind.i64))), (62, SV.a (SA.d (K.int IntKind.i64)))], os := [(0, SO.box [SA.d K.str, SA.fx (Atom.sl 4 0 none), SA.fx (Atom.sl 5 0 none)]), (1, SO.box [SA.d K.str, SA.fx (Atom.sl 6 0 none), SA.fx (Atom.sl 2 0 none)]), (2, SO.row (K.str.pr (((K.int IntKind.i64).pr (K.int IntKind.i64)).st.sl.pr (((K.int IntKind.i64).pr (K.int IntKind.i64)).st.sl.pr (((K.int IntKind.i64).pr (K.int IntKind.i64)).st.sl.pr (K.int IntKind.i64))))).st 0), (3, SO.row ((K.int IntKind.i64).pr (K.int IntKind.i64)).st.sl 0), (4, SO.row (K.str.pr ((K.int IntKind.i64).pr (K.int IntKind.i64))).st 0), (5, SO.row (K.str.pr (((K.int IntKind.i64).pr (K.int IntKind.i64)).st.sl.pr (((K.int IntKind.i64).pr (K.int IntKind.i64)).st.sl.pr (((K.int IntKind.i64).pr (K.int IntKind.i64)).st.sl.pr (K.int IntKind.i64))))).st 0), (6, SO.row (K.str.pr ((K.int IntKind.i64).pr (K.int IntKind.i64))).st 0)], nx := 7 }
def L4.x1 : Sh := { sl := [(2, SV.a (SA.fx (Atom.box 0 0))), (3, SV.j), (5, SV.a (SA.fx (Atom.box 1 0))), (50, SV.a (SA.fx (Atom.sl 2 0 none))), (51, SV.a (SA.d (K.int IntKind.i64))), (52, SV.a (SA.d (K.int IntKind.i64))), (60, SV.a (SA.fx (Atom.sl 3 0 none))), (61, SV.a (SA.d (K.int IntKind.i64))), (62, SV.a (SA.d (K.int IntKind.i64)))], os := [(0, SO.box [SA.d K.str, SA.fx (Atom.sl 4 0 none), SA.fx (Atom.sl 5 0 none)]), (1, SO.box [SA.d K.str, SA.fx (Atom.sl 6 0 none), SA.fx (Atom.sl 2 0 none)]), (2, SO.row (K.str.pr (((K.int IntKind.i64).pr (K.int IntKind.i64)).st.sl.pr (((K.int IntKind.i64).pr (K.int IntKind.i64)).st.sl.pr (((K.int IntKind.i64).pr (K.int IntKind.i64)).st.sl.pr (K.int IntKind.i64))))).st 0), (3, SO.row ((K.int IntKind.i64).pr (K.int IntKind.i64)).st.sl 0), (4, SO.row (K.str.pr ((K.int IntKind.i64).pr (K.int IntKind.i64))).st 0), (5, SO.row (K.str.pr (((K.int IntKind.i64).pr (K.int IntKind.i64)).st.sl.pr (((K.int IntKind.i64).pr (K.int IntKind.i64)).st.sl.pr (((K.int IntKind.i64).pr (K.int IntKind.i64)).st.sl.pr (K.int IntKind.i64))))).st 0), (6, SO.row (K.str.pr ((K.int IntKind.i64).pr (K.int IntKind.i64))).st 0)], nx := 7 }
def L4.st {α : Type} (N : Nat) (x100 : (List (Int × Int))) (x101 : Int) (φ : (Int → Option α)) (x102 : Int) (k0 : (Int → BA → (List (BA × Int × Int)) → (List (BA × List (Int × Int) × List (Int × Int) × List (Int × Int) × Int)) → Option α)) (k1 : Option α) : Option α :=
 cond (decide (x102 < x101)) (cond (decide (0 ≤ x102) && decide (x102 < (↑x100.length : Int))) (cond (decide (99 < (x100.getD x102.toNat ((0 : Int), (0 : Int))).snd)) (k0 (9) ((ByteArray.mk (#[]))) ([]) ([])) (φ (IntKind.i64.wrap (x102 + 1)))) (none)) (k1 )
def L4.f {α : Type} (N : Nat) (c4 : (List (Int × Int))) (c5 : Int) : Nat → Int → (Int → BA → (List (BA × Int × Int)) → (List (BA × List (Int × Int) × List (Int × Int) × List (Int × Int) × Int)) → Option α) → Option α → Option α
 | 0, _, _, _ => none
 | n + 1, d0, k0, k1 => L4.st N c4 c5 (fun e0 => L4.f N c4 c5 n e0 k0 k1) d0 k0 k1
def L4.up (d : L4.sh.T) (e0 : Int) : L4.sh.T := (((), ((), ((), (d.1.2.2.2.1, (d.1.2.2.2.2.1, ((), (d.1.2.2.2.2.2.2.1, (d.1.2.2.2.2.2.2.2.1, (d.1.2.2.2.2.2.2.2.2.1, (d.1.2.2.2.2.2.2.2.2.2.1, (e0, ()))))))))))), ((d.2.1.1, ((), ((), ()))), ((d.2.2.1.1, ((), ((), ()))), (d.2.2.2.1, (d.2.2.2.2.1, (d.2.2.2.2.2.1, (d.2.2.2.2.2.2.1, (d.2.2.2.2.2.2.2.1, ()))))))))
def L4.k0 {α : Type} (d : L4.sh.T) (K : Cont α) : (Int → BA → (List (BA × Int × Int)) → (List (BA × List (Int × Int) × List (Int × Int) × List (Int × Int) × Int)) → Option α) := fun y0 y1 y2 y3 => K (Exit.ret) (L4.x0.enc (((), (y0, ((), ((), (d.1.2.2.2.1, (d.1.2.2.2.2.1, ((), (d.1.2.2.2.2.2.2.1, (d.1.2.2.2.2.2.2.2.1, ()))))))))), ((y1, ((), ((), ()))), ((d.2.2.1.1, ((), ((), ()))), (d.2.2.2.1, (d.2.2.2.2.1, (y2, (y3, (d.2.2.2.2.2.2.2.1, ())))))))))
def L4.k1 {α : Type} (d : L4.sh.T) (K : Cont α) : Option α := K (Exit.exit 6) (L4.x1.enc (((), ((), ((), ((), (d.1.2.2.2.1, (d.1.2.2.2.2.1, ((), (d.1.2.2.2.2.2.2.1, (d.1.2.2.2.2.2.2.2.1, ()))))))))), ((d.2.1.1, ((), ((), ()))), ((d.2.2.1.1, ((), ((), ()))), (d.2.2.2.1, (d.2.2.2.2.1, (d.2.2.2.2.2.1, (d.2.2.2.2.2.2.1, (d.2.2.2.2.2.2.2.1, ())))))))))
def L4.F {α : Type} (N : Nat) (d : L4.sh.T) (K : Cont α) : Option α := L4.f N d.1.2.2.2.2.2.2.2.2.1 d.1.2.2.2.2.2.2.2.2.2.1 N d.1.2.2.2.2.2.2.2.2.2.2.1 (L4.k0 d K) (L4.k1 d K)
def L5.sh : Sh := { sl := [(2, SV.a (SA.fx (Atom.box 0 0))), (5, SV.a (SA.fx (Atom.box 1 0))), (50, SV.a (SA.fx (Atom.sl 2 0 none))), (51, SV.a (SA.d (K.int IntKind.i64))), (52, SV.a (SA.d (K.int IntKind.i64))), (60, SV.a (SA.fx (Atom.sl 3 0 none))), (61, SV.a (SA.d (K.int IntKind.i64))), (62, SV.a (SA.d (K.int IntKind.i64)))], os := [(0, SO.box [SA.d K.str, SA.fx (Atom.sl 4 0 none), SA.fx (Atom.sl 5 0 none)]), (1, SO.box [SA.d K.str, SA.fx (Atom.sl 6 0 none), SA.fx (Atom.sl 2 0 none)]), (2, SO.row (K.str.pr (((K.int IntKind.i64).pr (K.int IntKind.i64)).st.sl.pr (((K.int IntKind.i64).pr (K.int IntKind.i64)).st.sl.pr (((K.int IntKind.i64).pr (K.int IntKind.i64)).st.sl.pr (K.int IntKind.i64))))).st 0), (3, SO.row ((K.int IntKind.i64).pr (K.int IntKind.i64)).st.sl 0), (4, SO.row (K.str.pr ((K.int IntKind.i64).pr (K.int IntKind.i64))).st 0), (5, SO.row (K.str.pr (((K.int IntKind.i64).pr (K.int IntKind.i64)).st.sl.pr (((K.int IntKind.i64).pr (K.int IntKind.i64)).st.sl.pr (((K.int IntKind.i64).pr (K.int IntKind.i64)).st.sl.pr (K.int IntKind.i64))))).st 0), (6, SO.row (K.str.pr ((K.int IntKind.i64).pr (K.int IntKind.i64))).st 0)], nx := 7 }
def L5.x0 : Sh := { sl := [(2, SV.a (SA.fx (Atom.box 0 0))), (3, SV.a (SA.d (K.int IntKind.i64))), (5, SV.a (SA.fx (Atom.box 1 0))), (50, SV.a (SA.fx (Atom.sl 2 0 none))), (51, SV.a (SA.d (K.int IntKind.i64))), (52, SV.a (SA.d (K.int IntKind.i64)))], os := [(0, SO.box [SA.d K.str, SA.fx (Atom.sl 3 0 none), SA.fx (Atom.sl 4 0 none)]), (1, SO.box [SA.d K.str, SA.fx (Atom.sl 5 0 none), SA.fx (Atom.sl 2 0 none)]), (2, SO.row (K.str.pr (((K.int IntKind.i64).pr (K.int IntKind.i64)).st.sl.pr (((K.int IntKind.i64).pr (K.int IntKind.i64)).st.sl.pr (((K.int IntKind.i64).pr (K.int IntKind.i64)).st.sl.pr (K.int IntKind.i64))))).st 0), (3, SO.row (K.str.pr ((K.int IntKind.i64).pr (K.int IntKind.i64))).st 0), (4, SO.row (K.str.pr (((K.int IntKind.i64).pr (K.int IntKind.i64)).st.sl.pr (((K.int IntKind.i64).pr (K.int IntKind.i64)).st.sl.pr (((K.int IntKind.i64).pr (K.int IntKind.i64)).st.sl.pr (K.int IntKind.i64))))).st 0), (5, SO.row (K.str.pr ((K.int IntKind.i64).pr (K.int IntKind.i64))).st 0)], nx := 6 }
def L5.x1 : Sh := { sl := [(2, SV.a (SA.fx (Atom.box 0 0))), (3, SV.j), (5, SV.a (SA.fx (Atom.box 1 0))), (50, SV.a (SA.fx (Atom.sl 2 0 none))), (51, SV.a (SA.d (K.int IntKind.i64))), (52, SV.a (SA.d (K.int IntKind.i64)))], os := [(0, SO.box [SA.d K.str, SA.fx (Atom.sl 3 0 none), SA.fx (Atom.sl 4 0 none)]), (1, SO.box [SA.d K.str, SA.fx (Atom.sl 5 0 none), SA.fx (Atom.sl 2 0 none)]), (2, SO.row (K.str.pr (((K.int IntKind.i64).pr (K.int IntKind.i64)).st.sl.pr (((K.int IntKind.i64).pr (K.int IntKind.i64)).st.sl.pr (((K.int IntKind.i64).pr (K.int IntKind.i64)).st.sl.pr (K.int IntKind.i64))))).st 0), (3, SO.row (K.str.pr ((K.int IntKind.i64).pr (K.int IntKind.i64))).st 0), (4, SO.row (K.str.pr (((K.int IntKind.i64).pr (K.int IntKind.i64)).st.sl.pr (((K.int IntKind.i64).pr (K.int IntKind.i64)).st.sl.pr (((K.int IntKind.i64).pr (K.int IntKind.i64)).st.sl.pr (K.int IntKind.i64))))).st 0), (5, SO.row (K.str.pr ((K.int IntKind.i64).pr (K.int IntKind.i64))).st 0)], nx := 6 }
def L5.st {α : Type} (N : Nat) (x87 : Int) (x92 : (List (List (Int × Int)))) (φ : (Int → Option α)) (x88 : Int) (k0 : (Int → BA → (List (BA × Int × Int)) → (List (BA × List (Int × Int) × List (Int × Int) × List (Int × Int) × Int)) → Option α)) (k1 : Option α) : Option α :=
 cond (decide (x88 < x87)) (cond (decide (0 ≤ x88) && decide (x88 < (↑x92.length : Int))) (L4.f N (x92.getD (0 + x88.toNat) []) ((↑(List.length (x92.getD (0 + x88.toNat) [])) : Int)) N (0) (fun x110 x111 x112 x113 => k0 (x110) (x111) (x112) (x113)) (φ (IntKind.i64.wrap (x88 + 1)))) (none)) (k1 )
def L5.f {α : Type} (N : Nat) (c2 : Int) (c6 : (List (List (Int × Int)))) : Nat → Int → (Int → BA → (List (BA × Int × Int)) → (List (BA × List (Int × Int) × List (Int × Int) × List (Int × Int) × Int)) → Option α) → Option α → Option α
 | 0, _, _, _ => none
 | n + 1, d0, k0, k1 => L5.st N c2 c6 (fun e0 => L5.f N c2 c6 n e0 k0 k1) d0 k0 k1
def L5.up (d : L5.sh.T) (e0 : Int) : L5.sh.T := (((), ((), ((), (d.1.2.2.2.1, (d.1.2.2.2.2.1, ((), (d.1.2.2.2.2.2.2.1, (e0, ())))))))), ((d.2.1.1, ((), ((), ()))), ((d.2.2.1.1, ((), ((), ()))), (d.2.2.2.1, (d.2.2.2.2.1, (d.2.2.2.2.2.1, (d.2.2.2.2.2.2.1, (d.2.2.2.2.2.2.2.1, ()))))))))
def L5.k0 {α : Type} (d : L5.sh.T) (K : Cont α) : (Int → BA → (List (BA × Int × Int)) → (List (BA × List (Int × Int) × List (Int × Int) × List (Int × Int) × Int)) → Option α) := fun y0 y1 y2 y3 => K (Exit.ret) (L5.x0.enc (((), (y0, ((), ((), (d.1.2.2.2.1, (d.1.2.2.2.2.1, ())))))), ((y1, ((), ((), ()))), ((d.2.2.1.1, ((), ((), ()))), (d.2.2.2.1, (y2, (y3, (d.2.2.2.2.2.2.2.1, ()))))))))
def L5.k1 {α : Type} (d : L5.sh.T) (K : Cont α) : Option α := K (Exit.exit 4) (L5.x1.enc (((), ((), ((), ((), (d.1.2.2.2.1, (d.1.2.2.2.2.1, ())))))), ((d.2.1.1, ((), ((), ()))), ((d.2.2.1.1, ((), ((), ()))), (d.2.2.2.1, (d.2.2.2.2.2.1, (d.2.2.2.2.2.2.1, (d.2.2.2.2.2.2.2.1, ()))))))))
def L5.F {α : Type} (N : Nat) (d : L5.sh.T) (K : Cont α) : Option α := L5.f N d.1.2.2.2.2.2.2.1 d.2.2.2.2.1 N d.1.2.2.2.2.2.2.2.1 (L5.k0 d K) (L5.k1 d K)
def L6.sh : Sh := { sl := [(2, SV.a (SA.fx (Atom.box 0 0))), (5, SV.a (SA.fx (Atom.box 1 0))), (50, SV.a (SA.fx (Atom.sl 2 0 none))), (51, SV.a (SA.d (K.int IntKind.i64))), (52, SV.a (SA.d (K.int IntKind.i64)))], os := [(0, SO.box [SA.d K.str, SA.fx (Atom.sl 3 0 none), SA.fx (Atom.sl 4 0 none)]), (1, SO.box [SA.d K.str, SA.fx (Atom.sl 5 0 none), SA.fx (Atom.sl 2 0 none)]), (2, SO.row (K.str.pr (((K.int IntKind.i64).pr (K.int IntKind.i64)).st.sl.pr (((K.int IntKind.i64).pr (K.int IntKind.i64)).st.sl.pr (((K.int IntKind.i64).pr (K.int IntKind.i64)).st.sl.pr (K.int IntKind.i64))))).st 0), (3, SO.row (K.str.pr ((K.int IntKind.i64).pr (K.int IntKind.i64))).st 0), (4, SO.row (K.str.pr (((K.int IntKind.i64).pr (K.int IntKind.i64)).st.sl.pr (((K.int IntKind.i64).pr (K.int IntKind.i64)).st.sl.pr (((K.int IntKind.i64).pr (K.int IntKind.i64)).st.sl.pr (K.int IntKind.i64))))).st 0), (5, SO.row (K.str.pr ((K.int IntKind.i64).pr (K.int IntKind.i64))).st 0)], nx := 6 }
def L6.x0 : Sh := { sl := [(2, SV.a (SA.fx (Atom.box 0 0))), (3, SV.a (SA.d (K.int IntKind.i64))), (5, SV.a (SA.fx (Atom.box 1 0)))], os := [(0, SO.box [SA.d K.str, SA.fx (Atom.sl 2 0 none), SA.fx (Atom.sl 3 0 none)]), (1, SO.box [SA.d K.str, SA.fx (Atom.sl 4 0 none), SA.fx (Atom.sl 5 0 none)]), (2, SO.row (K.str.pr ((K.int IntKind.i64).pr (K.int IntKind.i64))).st 0), (3, SO.row (K.str.pr (((K.int IntKind.i64).pr (K.int IntKind.i64)).st.sl.pr (((K.int IntKind.i64).pr (K.int IntKind.i64)).st.sl.pr (((K.int IntKind.i64).pr (K.int IntKind.i64)).st.sl.pr (K.int IntKind.i64))))).st 0), (4, SO.row (K.str.pr ((K.int IntKind.i64).pr (K.int IntKind.i64))).st 0), (5, SO.row (K.str.pr (((K.int IntKind.i64).pr (K.int IntKind.i64)).st.sl.pr (((K.int IntKind.i64).pr (K.int IntKind.i64)).st.sl.pr (((K.int IntKind.i64).pr (K.int IntKind.i64)).st.sl.pr (K.int IntKind.i64))))).st 0)], nx := 6 }
def L6.x1 : Sh := { sl := [(2, SV.a (SA.fx (Atom.box 0 0))), (3, SV.j), (5, SV.a (SA.fx (Atom.box 1 0)))], os := [(0, SO.box [SA.d K.str, SA.fx (Atom.sl 2 0 none), SA.fx (Atom.sl 3 0 none)]), (1, SO.box [SA.d K.str, SA.fx (Atom.sl 4 0 none), SA.fx (Atom.sl 5 0 none)]), (2, SO.row (K.str.pr ((K.int IntKind.i64).pr (K.int IntKind.i64))).st 0), (3, SO.row (K.str.pr (((K.int IntKind.i64).pr (K.int IntKind.i64)).st.sl.pr (((K.int IntKind.i64).pr (K.int IntKind.i64)).st.sl.pr (((K.int IntKind.i64).pr (K.int IntKind.i64)).st.sl.pr (K.int IntKind.i64))))).st 0), (4, SO.row (K.str.pr ((K.int IntKind.i64).pr (K.int IntKind.i64))).st 0), (5, SO.row (K.str.pr (((K.int IntKind.i64).pr (K.int IntKind.i64)).st.sl.pr (((K.int IntKind.i64).pr (K.int IntKind.i64)).st.sl.pr (((K.int IntKind.i64).pr (K.int IntKind.i64)).st.sl.pr (K.int IntKind.i64))))).st 0)], nx := 6 }
def L6.st {α : Type} (N : Nat) (x77 : Int) (x81 : (List (BA × List (Int × Int) × List (Int × Int) × List (Int × Int) × Int))) (φ : (Int → Option α)) (x78 : Int) (k0 : (Int → BA → (List (BA × Int × Int)) → (List (BA × List (Int × Int) × List (Int × Int) × List (Int × Int) × Int)) → Option α)) (k1 : Option α) : Option α :=
 cond (decide (x78 < x77)) (cond (decide (0 ≤ x78) && decide (x78 < (↑x81.length : Int))) (L5.f N ((↑[(x81.getD (0 + x78.toNat) (eBA, [], [], [], 0)).snd.fst, (x81.getD (0 + x78.toNat) (eBA, [], [], [], 0)).snd.snd.fst].length : Int)) ([(x81.getD (0 + x78.toNat) (eBA, [], [], [], 0)).snd.fst, (x81.getD (0 + x78.toNat) (eBA, [], [], [], 0)).snd.snd.fst]) N (0) (fun x114 x115 x116 x117 => k0 (x114) (x115) (x116) (x117)) (φ (IntKind.i64.wrap (x78 + 1)))) (none)) (k1 )
def L6.f {α : Type} (N : Nat) (c0 : Int) (c3 : (List (BA × List (Int × Int) × List (Int × Int) × List (Int × Int) × Int))) : Nat → Int → (Int → BA → (List (BA × Int × Int)) → (List (BA × List (Int × Int) × List (Int × Int) × List (Int × Int) × Int)) → Option α) → Option α → Option α
 | 0, _, _, _ => none
 | n + 1, d0, k0, k1 => L6.st N c0 c3 (fun e0 => L6.f N c0 c3 n e0 k0 k1) d0 k0 k1
def L6.up (d : L6.sh.T) (e0 : Int) : L6.sh.T := (((), ((), ((), (d.1.2.2.2.1, (e0, ()))))), ((d.2.1.1, ((), ((), ()))), ((d.2.2.1.1, ((), ((), ()))), (d.2.2.2.1, (d.2.2.2.2.1, (d.2.2.2.2.2.1, (d.2.2.2.2.2.2.1, ())))))))
def L6.k0 {α : Type} (d : L6.sh.T) (K : Cont α) : (Int → BA → (List (BA × Int × Int)) → (List (BA × List (Int × Int) × List (Int × Int) × List (Int × Int) × Int)) → Option α) := fun y0 y1 y2 y3 => K (Exit.ret) (L6.x0.enc (((), (y0, ((), ()))), ((y1, ((), ((), ()))), ((d.2.2.1.1, ((), ((), ()))), (y2, (y3, (d.2.2.2.2.2.2.1, (d.2.2.2.1, ()))))))))
def L6.k1 {α : Type} (d : L6.sh.T) (K : Cont α) : Option α := K (Exit.exit 2) (L6.x1.enc (((), ((), ((), ()))), ((d.2.1.1, ((), ((), ()))), ((d.2.2.1.1, ((), ((), ()))), (d.2.2.2.2.1, (d.2.2.2.2.2.1, (d.2.2.2.2.2.2.1, (d.2.2.2.1, ()))))))))
def L6.F {α : Type} (N : Nat) (d : L6.sh.T) (K : Cont α) : Option α := L6.f N d.1.2.2.2.1 d.2.2.2.1 N d.1.2.2.2.2.1 (L6.k0 d K) (L6.k1 d K)
def ents13 {α : Type} (N : Nat) : List (SmE α) := [⟨0, 50, 6, [⟨L3.sh, L3.F N⟩]⟩, ⟨0, 50, 18, [⟨L4.sh, L4.F N⟩]⟩, ⟨0, 50, 15, [⟨L5.sh, L5.F N⟩]⟩, ⟨0, 50, 12, [⟨L6.sh, L6.F N⟩]⟩]
def ents35 {α : Type} (N : Nat) : List (SmE α) := [⟨2, 49, 3, [⟨L0.sh, L0.F N⟩]⟩, ⟨2, 49, 8, [⟨L2.sh, L2.F N⟩]⟩]
def ents37 {α : Type} (N : Nat) : List (SmE α) := [⟨14, 48, 3, [⟨L1.sh, L1.F N⟩]⟩]
def C (N : Nat) : Ctx := ⟨tys, [(34, tf_checkComplement.fent), (39, strconv_Itoa.fent), (36, tf_Complement_1.fent), (72, tf_clone.fent), (38, tf_weight.fent)], [(35, ⟨Tryd.f35, an35, fun α lo d r => smL (ents35 N) lo d r⟩), (37, ⟨Tryd.f37, an37, fun α lo d r => smL (ents37 N) lo d r⟩)], N⟩
def L0.B {α : Type} (N : Nat) : Env → Cont α → Option α := evC tys 62 2 (evCall (C N) 49) (evCallQ (C N)) N an35 (smL (ents35 N) 2 49) (loopOf 3 Tryd.f35)
theorem L0.r {α : Type} (N : Nat) (φ : Env → Option α) (K : Cont α) (d : L0.sh.T) : L0.B N (L0.sh.enc d) (contL φ K (Env.norm 2 [1, 2, 3, 6, 7, 16, 17, 18]) (Env.norm 2 [2, 3, 6, 7])) = L0.st N d.1.2.2.2.2.2.1 d.1.2.2.2.2.2.2.1 (fun e0 e1 => φ (L0.sh.enc (L0.up d e0 e1))) d.1.2.2.2.2.2.2.2.1 d.2.2.2.2.2.2.2.2.1 (L0.k0 d K) := by kernel_rfl
theorem L0.e {α : Type} (N : Nat) : ∀ (n : Nat) (d : L0.sh.T) (K : Cont α), evL (L0.B N) (Env.norm 2 [1, 2, 3, 6, 7, 16, 17, 18]) (Env.norm 2 [2, 3, 6, 7]) n (L0.sh.enc d) K = L0.f N d.1.2.2.2.2.2.1 d.1.2.2.2.2.2.2.1 n d.1.2.2.2.2.2.2.2.1 d.2.2.2.2.2.2.2.2.1 (L0.k0 d K)
 | 0, d, K => rfl
 | n + 1, d, K => evL_contL.trans ((L0.r N _ K d).trans (congrArg (fun φ => L0.st N d.1.2.2.2.2.2.1 d.1.2.2.2.2.2.2.1 φ d.1.2.2.2.2.2.2.2.1 d.2.2.2.2.2.2.2.2.1 (L0.k0 d K)) (funext fun e0 => funext fun e1 => L0.e N n (L0.up d e0 e1) K)))
def L1.B {α : Type} (N : Nat) : Env → Cont α → Option α := evC tys 76 14 (evCall (C N) 48) (evCallQ (C N)) N an37 (smL (ents37 N) 14 48) (loopOf 3 Tryd.f37)
theorem L1.r {α : Type} (N : Nat) (φ : Env → Option α) (K : Cont α) (d : L1.sh.T) : L1.B N (L1.sh.enc d) (contL φ K (Env.norm 14 [2, 3, 4, 14, 15, 16, 2047, 2046]) (Env.norm 14 [2, 3, 2047, 2046])) = L1.st N d.1.2.2.2.1 d.1.2.2.2.2.1 d.2.2.2.2.2.2.1 (fun e0 e1 e2 e3 => φ (L1.sh.enc (L1.up d e0 e1 e2 e3))) d.1.2.2.1 d.1.2.2.2.2.2.1 d.2.2.2.2.2.2.2.1 d.2.2.2.2.2.2.2.2.1 (L1.k0 d K) := by kernel_rfl
theorem L1.e {α : Type} (N : Nat) : ∀ (n : Nat) (d : L1.sh.T) (K : Cont α), evL (L1.B N) (Env.norm 14 [2, 3, 4, 14, 15, 16, 2047, 2046]) (Env.norm 14 [2, 3, 2047, 2046]) n (L1.sh.enc d) K = L1.f N d.1.2.2.2.1 d.1.2.2.2.2.1 d.2.2.2.2.2.2.1 n d.1.2.2.1 d.1.2.2.2.2.2.1 d.2.2.2.2.2.2.2.1 d.2.2.2.2.2.2.2.2.1 (L1.k0 d K)
 | 0, d, K => rfl
 | n + 1, d, K => evL_contL.trans ((L1.r N _ K d).trans (congrArg (fun φ => L1.st N d.1.2.2.2.1 d.1.2.2.2.2.1 d.2.2.2.2.2.2.1 φ d.1.2.2.1 d.1.2.2.2.2.2.1 d.2.2.2.2.2.2.2.1 d.2.2.2.2.2.2.2.2.1 (L1.k0 d K)) (funext fun e0 => funext fun e1 => funext fun e2 => funext fun e3 => L1.e N n (L1.up d e0 e1 e2 e3) K)))
def L2.B {α : Type} (N : Nat) : Env → Cont α → Option α := evC tys 62 2 (evCall (C N) 49) (evCallQ (C N)) N an35 (smL (ents35 N) 2 49) (loopOf 8 Tryd.f35)
theorem L2.r {α : Type} (N : Nat) (φ : Env → Option α) (K : Cont α) (d : L2.sh.T) : L2.B N (L2.sh.enc d) (contL φ K (Env.norm 2 [2, 6, 7, 34, 35, 36]) (Env.norm 2 [6, 7])) = L2.st N d.1.2.2.2.1 d.1.2.2.2.2.1 d.2.2.2.2.2.2.2.2.2.2.1.2.1 (fun e0 e1 => φ (L2.sh.enc (L2.up d e0 e1))) d.1.2.2.2.2.2.1 d.2.2.2.2.2.2.2.2.1 (L2.k0 d K) := by kernel_rfl
theorem L2.e {α : Type} (N : Nat) : ∀ (n : Nat) (d : L2.sh.T) (K : Cont α), evL (L2.B N) (Env.norm 2 [2, 6, 7, 34, 35, 36]) (Env.norm 2 [6, 7]) n (L2.sh.enc d) K = L2.f N d.1.2.2.2.1 d.1.2.2.2.2.1 d.2.2.2.2.2.2.2.2.2.2.1.2.1 n d.1.2.2.2.2.2.1 d.2.2.2.2.2.2.2.2.1 (L2.k0 d K)
 | 0, d, K => rfl
 | n + 1, d, K => evL_contL.trans ((L2.r N _ K d).trans (congrArg (fun φ => L2.st N d.1.2.2.2.1 d.1.2.2.2.2.1 d.2.2.2.2.2.2.2.2.2.2.1.2.1 φ d.1.2.2.2.2.2.1 d.2.2.2.2.2.2.2.2.1 (L2.k0 d K)) (funext fun e0 => funext fun e1 => L2.e N n (L2.up d e0 e1) K)))
def L3.B {α : Type} (N : Nat) : Env → Cont α → Option α := evC tys 80 0 (evCall (C N) 50) (evCallQ (C N)) N an13 (smL (ents13 N) 0 50) (loopOf 6 Tryd.f13)
theorem L3.r {α : Type} (N : Nat) (φ : Env → Option α) (K : Cont α) (d : L3.sh.T) : L3.B N (L3.sh.enc d) (contL φ K (Env.norm 0 [2, 5, 24, 25, 26]) (Env.norm 0 [2, 5])) = L3.st N d.1.2.2.1 d.1.2.2.2.1 (fun e0 e1 => φ (L3.sh.enc (L3.up d e0 e1))) d.1.2.2.2.2.1 d.2.2.2.2.2.1 (L3.k0 d K) := by kernel_rfl
theorem L3.e {α : Type} (N : Nat) : ∀ (n : Nat) (d : L3.sh.T) (K : Cont α), evL (L3.B N) (Env.norm 0 [2, 5, 24, 25, 26]) (Env.norm 0 [2, 5]) n (L3.sh.enc d) K = L3.f N d.1.2.2.1 d.1.2.2.2.1 n d.1.2.2.2.2.1 d.2.2.2.2.2.1 (L3.k0 d K)
 | 0, d, K => rfl
 | n + 1, d, K => evL_contL.trans ((L3.r N _ K d).trans (congrArg (fun φ => L3.st N d.1.2.2.1 d.1.2.2.2.1 φ d.1.2.2.2.2.1 d.2.2.2.2.2.1 (L3.k0 d K)) (funext fun e0 => funext fun e1 => L3.e N n (L3.up d e0 e1) K)))
def L4.B {α : Type} (N : Nat) : Env → Cont α → Option α := evC tys 80 0 (evCall (C N) 50) (evCallQ (C N)) N an13 (smL (ents13 N) 0 50) (loopOf 18 Tryd.f13)
theorem L4.r {α : Type} (N : Nat) (φ : Env → Option α) (K : Cont α) (d : L4.sh.T) : L4.B N (L4.sh.enc d) (contL φ K (Env.norm 0 [2, 5, 50, 51, 52, 60, 61, 62, 66, 67, 68]) (Env.norm 0 [2, 3, 5, 50, 51, 52, 60, 61, 62])) = L4.st N d.1.2.2.2.2.2.2.2.2.1 d.1.2.2.2.2.2.2.2.2.2.1 (fun e0 => φ (L4.sh.enc (L4.up d e0))) d.1.2.2.2.2.2.2.2.2.2.2.1 (L4.k0 d K) (L4.k1 d K) := by kernel_rfl
theorem L4.e {α : Type} (N : Nat) : ∀ (n : Nat) (d : L4.sh.T) (K : Cont α), evL (L4.B N) (Env.norm 0 [2, 5, 50, 51, 52, 60, 61, 62, 66, 67, 68]) (Env.norm 0 [2, 3, 5, 50, 51, 52, 60, 61, 62]) n (L4.sh.enc d) K = L4.f N d.1.2.2.2.2.2.2.2.2.1 d.1.2.2.2.2.2.2.2.2.2.1 n d.1.2.2.2.2.2.2.2.2.2.2.1 (L4.k0 d K) (L4.k1 d K)
 | 0, d, K => rfl
 | n + 1, d, K => evL_contL.trans ((L4.r N _ K d).trans (congrArg (fun φ => L4.st N d.1.2.2.2.2.2.2.2.2.1 d.1.2.2.2.2.2.2.2.2.2.1 φ d.1.2.2.2.2.2.2.2.2.2.2.1 (L4.k0 d K) (L4.k1 d K)) (funext fun e0 => L4.e N n (L4.up d e0) K)))
def L5.B {α : Type} (N : Nat) : Env → Cont α → Option α := evC tys 80 0 (evCall (C N) 50) (evCallQ (C N)) N an13 (smL (ents13 N) 0 50) (loopOf 15 Tryd.f13)
theorem L5.r {α : Type} (N : Nat) (φ : Env → Option α) (K : Cont α) (d : L5.sh.T) : L5.B N (L5.sh.enc d) (contL φ K (Env.norm 0 [2, 5, 50, 51, 52, 60, 61, 62]) (Env.norm 0 [2, 3, 5, 50, 51, 52])) = L5.st N d.1.2.2.2.2.2.2.1 d.2.2.2.2.1 (fun e0 => φ (L5.sh.enc (L5.up d e0))) d.1.2.2.2.2.2.2.2.1 (L5.k0 d K) (L5.k1 d K) := by kernel_rfl
theorem L5.e {α : Type} (N : Nat) : ∀ (n : Nat) (d : L5.sh.T) (K : Cont α), evL (L5.B N) (Env.norm 0 [2, 5, 50, 51, 52, 60, 61, 62]) (Env.norm 0 [2, 3, 5, 50, 51, 52]) n (L5.sh.enc d) K = L5.f N d.1.2.2.2.2.2.2.1 d.2.2.2.2.1 n d.1.2.2.2.2.2.2.2.1 (L5.k0 d K) (L5.k1 d K)
 | 0, d, K => rfl
 | n + 1, d, K => evL_contL.trans ((L5.r N _ K d).trans (congrArg (fun φ => L5.st N d.1.2.2.2.2.2.2.1 d.2.2.2.2.1 φ d.1.2.2.2.2.2.2.2.1 (L5.k0 d K) (L5.k1 d K)) (funext fun e0 => L5.e N n (L5.up d e0) K)))
def L6.B {α : Type} (N : Nat) : Env → Cont α → Option α := evC tys 80 0 (evCall (C N) 50) (evCallQ (C N)) N an13 (smL (ents13 N) 0 50) (loopOf 12 Tryd.f13)
theorem L6.r {α : Type} (N : Nat) (φ : Env → Option α) (K : Cont α) (d : L6.sh.T) : L6.B N (L6.sh.enc d) (contL φ K (Env.norm 0 [2, 5, 50, 51, 52]) (Env.norm 0 [2, 3, 5])) = L6.st N d.1.2.2.2.1 d.2.2.2.1 (fun e0 => φ (L6.sh.enc (L6.up d e0))) d.1.2.2.2.2.1 (L6.k0 d K) (L6.k1 d K) := by kernel_rfl
theorem L6.e {α : Type} (N : Nat) : ∀ (n : Nat) (d : L6.sh.T) (K : Cont α), evL (L6.B N) (Env.norm 0 [2, 5, 50, 51, 52]) (Env.norm 0 [2, 3, 5]) n (L6.sh.enc d) K = L6.f N d.1.2.2.2.1 d.2.2.2.1 n d.1.2.2.2.2.1 (L6.k0 d K) (L6.k1 d K)
 | 0, d, K => rfl
 | n + 1, d, K => evL_contL.trans ((L6.r N _ K d).trans (congrArg (fun φ => L6.st N d.1.2.2.2.1 d.2.2.2.1 φ d.1.2.2.2.2.1 (L6.k0 d K) (L6.k1 d K)) (funext fun e0 => L6.e N n (L6.up d e0) K)))
theorem ents13_ok {α : Type} (N : Nat) : AllP (EntOk (C N) Tryd.f13 an13 (ents13 (α := α) N)) (ents13 N) := ⟨entOk_of (b0 := loopOf 6 Tryd.f13) (li0 := [2, 5, 24, 25, 26]) (lx0 := [2, 5]) (by kernel_rfl) (by kernel_rfl) ⟨fun d K => L3.e N N d K, trivial⟩, entOk_of (b0 := loopOf 18 Tryd.f13) (li0 := [2, 5, 50, 51, 52, 60, 61, 62, 66, 67, 68]) (lx0 := [2, 3, 5, 50, 51, 52, 60, 61, 62]) (by kernel_rfl) (by kernel_rfl) ⟨fun d K => L4.e N N d K, trivial⟩, entOk_of (b0 := loopOf 15 Tryd.f13) (li0 := [2, 5, 50, 51, 52, 60, 61, 62]) (lx0 := [2, 3, 5, 50, 51, 52]) (by kernel_rfl) (by kernel_rfl) ⟨fun d K => L5.e N N d K, trivial⟩, entOk_of (b0 := loopOf 12 Tryd.f13) (li0 := [2, 5, 50, 51, 52]) (lx0 := [2, 3, 5]) (by kernel_rfl) (by kernel_rfl) ⟨fun d K => L6.e N N d K, trivial⟩, trivial⟩
theorem ents35_ok {α : Type} (N : Nat) : AllP (EntOk (C N) Tryd.f35 an35 (ents35 (α := α) N)) (ents35 N) := ⟨entOk_of (b0 := loopOf 3 Tryd.f35) (li0 := [1, 2, 3, 6, 7, 16, 17, 18]) (lx0 := [2, 3, 6, 7]) (by kernel_rfl) (by kernel_rfl) ⟨fun d K => L0.e N N d K, trivial⟩, entOk_of (b0 := loopOf 8 Tryd.f35) (li0 := [2, 6, 7, 34, 35, 36]) (lx0 := [6, 7]) (by kernel_rfl) (by kernel_rfl) ⟨fun d K => L2.e N N d K, trivial⟩, trivial⟩
theorem ents37_ok {α : Type} (N : Nat) : AllP (EntOk (C N) Tryd.f37 an37 (ents37 (α := α) N)) (ents37 N) := ⟨entOk_of (b0 := loopOf 3 Tryd.f37) (li0 := [2, 3, 4, 14, 15, 16, 2047, 2046]) (lx0 := [2, 3, 2047, 2046]) (by kernel_rfl) (by kernel_rfl) ⟨fun d K => L1.e N N d K, trivial⟩, trivial⟩
def g {α : Type} (N : Nat) (a0 : BA × List (BA × Int × Int) × List (BA × List (Int × Int) × List (Int × Int) × List (Int × Int) × Int)) (kr : ((BA × List (BA × Int × Int) × List (BA × List (Int × Int) × List (Int × Int) × List (Int × Int) × Int)) → Int → Option α)) : Option α :=
 cond ((tf_checkComplement.spec a0) != 0) (kr (((ByteArray.mk (#[])), [], [])) ((tf_checkComplement.spec a0))) (L0.f N (a0.snd.fst) ((↑(List.length a0.snd.fst) : Int)) N (0) ([]) (fun x18 => L2.f N (a0.snd.snd) ((↑(List.length a0.snd.snd) : Int)) (a0.snd.fst) N (0) ([]) (fun x66 => L3.f N (a0.snd.fst) ((↑(List.length a0.snd.fst) : Int)) N (0) (x18) (fun x76 => L6.f N ((↑x66.length : Int)) (x66) N (0) (fun x118 x119 x120 x121 => kr ((x119, x120, x121)) (x118)) (kr ((a0.fst, x76, x66)) (0))))))
theorem eq (N : Nat) (a0 : BA × List (BA × Int × Int) × List (BA × List (Int × Int) × List (Int × Int) × List (Int × Int) × Int)) : evF (C N) 50 Tryd.f13 an13 (smL (ents13 N) 0 50) [((.st (.pr (.str) (.pr (.sl (.st (.pr (.str) (.pr (.int .i64) (.int .i64))))) (.sl (.st (.pr (.str) (.pr (.sl (.st (.pr (.int .i64) (.int .i64)))) (.pr (.sl (.st (.pr (.int .i64) (.int .i64)))) (.pr (.sl (.st (.pr (.int .i64) (.int .i64)))) (.int .i64))))))))) : K), false), ((.int .i64 : K), false)] [⟨.st (.pr (.str) (.pr (.sl (.st (.pr (.str) (.pr (.int .i64) (.int .i64))))) (.sl (.st (.pr (.str) (.pr (.sl (.st (.pr (.int .i64) (.int .i64)))) (.pr (.sl (.st (.pr (.int .i64) (.int .i64)))) (.pr (.sl (.st (.pr (.int .i64) (.int .i64)))) (.int .i64))))))))), a0⟩] = g N a0 (fun r0 r1 => some [.dat ((K.str.pr ((K.str.pr ((K.int IntKind.i64).pr (K.int IntKind.i64))).st.sl.pr (K.str.pr (((K.int IntKind.i64).pr (K.int IntKind.i64)).st.sl.pr (((K.int IntKind.i64).pr (K.int IntKind.i64)).st.sl.pr (((K.int IntKind.i64).pr (K.int IntKind.i64)).st.sl.pr (K.int IntKind.i64))))).st.sl)).st) r0, .dat (K.int IntKind.i64) r1]) := by kernel_rfl
theorem ctxOk (N : Nat) : CtxOk P (C N) := ctxOk_of tysOk mixedOk ⟨tf_checkComplement.ok, strconv_Itoa.ok, tf_Complement_1.ok, tf_clone.ok, tf_weight.ok, trivial⟩ ⟨⟨⟨by rfl, by kernel_rfl⟩, fun α lo d c hc => smL_ok (ents35_ok N) lo d hc⟩, ⟨⟨by rfl, by kernel_rfl⟩, fun α lo d c hc => smL_ok (ents37_ok N) lo d hc⟩, trivial⟩
theorem calls (N : Nat) (a0 : BA × List (BA × Int × Int) × List (BA × List (Int × Int) × List (Int × Int) × List (Int × Int) × Int)) {rs : List Rs} (h : g N a0 (fun r0 r1 => some [.dat ((K.str.pr ((K.str.pr ((K.int IntKind.i64).pr (K.int IntKind.i64))).st.sl.pr (K.str.pr (((K.int IntKind.i64).pr (K.int IntKind.i64)).st.sl.pr (((K.int IntKind.i64).pr (K.int IntKind.i64)).st.sl.pr (((K.int IntKind.i64).pr (K.int IntKind.i64)).st.sl.pr (K.int IntKind.i64))))).st.sl)).st) r0, .dat (K.int IntKind.i64) r1]) = some rs) : CallsTo P 13 [⟨.st (.pr (.str) (.pr (.sl (.st (.pr (.str) (.pr (.int .i64) (.int .i64))))) (.sl (.st (.pr (.str) (.pr (.sl (.st (.pr (.int .i64) (.int .i64)))) (.pr (.sl (.st (.pr (.int .i64) (.int .i64)))) (.pr (.sl (.st (.pr (.int .i64) (.int .i64)))) (.int .i64))))))))), a0⟩] rs := evF_calls' (ctxOk N) (by rfl) (ents13_ok N) ((eq N a0).trans h)
def L0.l {α : Type} (N : Nat) (x0 : (List (BA × Int × Int))) (k0 : ((List (BA × Int × Int)) → Option α)) : List (BA × Int × Int) → Int → (List (BA × Int × Int)) → Option α
 | [], x2, x12 => k0 (x12)
 | x :: l, x2, x12 => (cond ((x12.length + 1).ble mxl) (cond ((x12.length + 1).ble mxl) (L0.l N x0 k0 l (x2 + 1) (x12 ++ [(tf_Complement_1.spec x2 x)])) (none)) (none))
theorem L0.rng {α : Type} {N : Nat} (x0 : (List (BA × Int × Int))) (hl : x0.length ≤ maxLen) (k0 : ((List (BA × Int × Int)) → Option α)) : ∀ (n j : Nat) (x12 : (List (BA × Int × Int))), x0.length < n + j → j ≤ x0.length → L0.f N x0 (x0.length : Int) n (j : Int) x12 k0 = L0.l N x0 k0 (x0.drop j) (j : Int) x12 :=
 rng1 x0 hl (fun n i x12 => L0.f N x0 (x0.length : Int) n i x12 k0) (fun l i x12 => L0.l N x0 k0 l i x12) (fun n j hj h ih x12 => by simp only [L0.f, L0.st, L0.l, h.a, h.b, h.c, h.d, h.e, Bool.true_and, Bool.and_true, Bool.and_self, cond_true, ih] <;> rfl) (fun n j h x12 => by simp only [L0.f, L0.st, L0.l, h, cond_false])
def L1.l {α : Type} (N : Nat) (x35 : (List (BA × Int × Int))) (x45 : (List (Int × Int))) (k0 : ((List (Int × Int)) → (List (Int × Int)) → Option α)) : List (BA × Int × Int) → Int → Int → (List (Int × Int)) → (List (Int × Int)) → Option α
 | [], x37, x34, x46, x47 => k0 (x46) (x47)
 | x :: l, x37, x34, x46, x47 => (cond (x.snd.snd == 0) (L1.l N x35 x45 k0 l (x37 + 1) (x34) (x46) (x47)) (lt (tf_weight.spec x46 x37) fun v11 => lt (tf_weight.spec x47 x37) fun v12 => lt (tf_weight.spec x45 x37) fun v13 => cond (decide (0 < v13)) (cond (decide (0 < imax (imax 0 (IntKind.i64.wrap (v11 - v12))) (IntKind.i64.wrap (IntKind.i64.wrap (x.snd.snd - v13) + 1)))) (cond ((x47.length + 1).ble mxl) (cond (decide (IntKind.i64.wrap (v11 - v12) < imax (imax 0 (IntKind.i64.wrap (v11 - v12))) (IntKind.i64.wrap (IntKind.i64.wrap (x.snd.snd - v13) + 1)))) (cond ((x46.length + 1).ble mxl) (L1.l N x35 x45 k0 l (x37 + 1) (IntKind.i64.wrap (x34 + 1)) (x46 ++ [(x34, IntKind.i64.wrap (imax (imax 0 (IntKind.i64.wrap (v11 - v12))) (IntKind.i64.wrap (IntKind.i64.wrap (x.snd.snd - v13) + 1)) - IntKind.i64.wrap (v11 - v12)))]) (x47 ++ [(x34, imax (imax 0 (IntKind.i64.wrap (v11 - v12))) (IntKind.i64.wrap (IntKind.i64.wrap (x.snd.snd - v13) + 1)))])) (none)) (L1.l N x35 x45 k0 l (x37 + 1) (IntKind.i64.wrap (x34 + 1)) (x46) (x47 ++ [(x34, imax (imax 0 (IntKind.i64.wrap (v11 - v12))) (IntKind.i64.wrap (IntKind.i64.wrap (x.snd.snd - v13) + 1)))]))) (none)) (cond (decide (IntKind.i64.wrap (v11 - v12) < imax (imax 0 (IntKind.i64.wrap (v11 - v12))) (IntKind.i64.wrap (IntKind.i64.wrap (x.snd.snd - v13) + 1)))) (cond ((x46.length + 1).ble mxl) (L1.l N x35 x45 k0 l (x37 + 1) (IntKind.i64.wrap (x34 + 1)) (x46 ++ [(x34, IntKind.i64.wrap (imax (imax 0 (IntKind.i64.wrap (v11 - v12))) (IntKind.i64.wrap (IntKind.i64.wrap (x.snd.snd - v13) + 1)) - IntKind.i64.wrap (v11 - v12)))]) (x47)) (none)) (L1.l N x35 x45 k0 l (x37 + 1) (IntKind.i64.wrap (x34 + 1)) (x46) (x47)))) (cond (decide (0 < imax 0 (IntKind.i64.wrap (v11 - v12)))) (cond ((x47.length + 1).ble mxl) (cond (decide (IntKind.i64.wrap (v11 - v12) < imax 0 (IntKind.i64.wrap (v11 - v12)))) (cond ((x46.length + 1).ble mxl) (L1.l N x35 x45 k0 l (x37 + 1) (IntKind.i64.wrap (x34 + 1)) (x46 ++ [(x34, IntKind.i64.wrap (imax 0 (IntKind.i64.wrap (v11 - v12)) - IntKind.i64.wrap (v11 - v12)))]) (x47 ++ [(x34, imax 0 (IntKind.i64.wrap (v11 - v12)))])) (none)) (L1.l N x35 x45 k0 l (x37 + 1) (IntKind.i64.wrap (x34 + 1)) (x46) (x47 ++ [(x34, imax 0 (IntKind.i64.wrap (v11 - v12)))]))) (none)) (cond (decide (IntKind.i64.wrap (v11 - v12) < imax 0 (IntKind.i64.wrap (v11 - v12)))) (cond ((x46.length + 1).ble mxl) (L1.l N x35 x45 k0 l (x37 + 1) (IntKind.i64.wrap (x34 + 1)) (x46 ++ [(x34, IntKind.i64.wrap (imax 0 (IntKind.i64.wrap (v11 - v12)) - IntKind.i64.wrap (v11 - v12)))]) (x47)) (none)) (L1.l N x35 x45 k0 l (x37 + 1) (IntKind.i64.wrap (x34 + 1)) (x46) (x47))))))
theorem L1.rng {α : Type} {N : Nat} (x35 : (List (BA × Int × Int))) (x45 : (List (Int × Int))) (hl : x35.length ≤ maxLen) (k0 : ((List (Int × Int)) → (List (Int × Int)) → Option α)) : ∀ (n j : Nat) (x34 : Int) (x46 : (List (Int × Int))) (x47 : (List (Int × Int))), x35.length < n + j → j ≤ x35.length → L1.f N x35 (x35.length : Int) x45 n x34 (j : Int) x46 x47 k0 = L1.l N x35 x45 k0 (x35.drop j) (j : Int) x34 x46 x47 :=
 rng3 x35 hl (fun n i x34 x46 x47 => L1.f N x35 (x35.length : Int) x45 n x34 i x46 x47 k0) (fun l i x34 x46 x47 => L1.l N x35 x45 k0 l i x34 x46 x47) (fun n j hj h ih x34 x46 x47 => by simp only [L1.f, L1.st, L1.l, h.a, h.b, h.c, h.d, h.e, Bool.true_and, Bool.and_true, Bool.and_self, cond_true, ih] <;> rfl) (fun n j h x34 x46 x47 => by simp only [L1.f, L1.st, L1.l, h, cond_false])
def L2.l {α : Type} (N : Nat) (x19 : (List (BA × List (Int × Int) × List (Int × Int) × List (Int × Int) × Int))) (x32 : (List (BA × Int × Int))) (k0 : ((List (BA × List (Int × Int) × List (Int × Int) × List (Int × Int) × Int)) → Option α)) : List (BA × List (Int × Int) × List (Int × Int) × List (Int × Int) × Int) → Int → (List (BA × List (Int × Int) × List (Int × Int) × List (Int × Int) × Int)) → Option α
 | [], x21, x29 => k0 (x29)
 | x :: l, x21, x29 => (cond (tf_clone.pre x.snd.fst) (cond (tf_clone.pre x.snd.snd.fst) (cond (tf_clone.pre x.snd.snd.snd.fst) (cond (tf_clone.pre x.snd.fst) (lt (tf_clone.spec x.snd.fst) fun v6 => cond (tf_clone.pre x.snd.snd.fst) (lt (tf_clone.spec x.snd.snd.fst) fun v7 => cond (tf_clone.pre x.snd.snd.snd.fst) (lt (tf_clone.spec x.snd.snd.snd.fst) fun v8 => L1.f N (x32) ((↑x32.length : Int)) (v8) N ((↑x32.length : Int)) (0) (v7) (v6) (fun x62 x63 => cond ((x29.length + 1).ble mxl) (L1.f N (x32) ((↑x32.length : Int)) (v8) N ((↑x32.length : Int)) (0) (v7) (v6) (fun x64 x65 => cond ((x29.length + 1).ble mxl) (L2.l N x19 x32 k0 l (x21 + 1) (x29 ++ [(x.fst, x65, x64, [], x.snd.snd.snd.snd)])) (none))) (none))) (none)) (none)) (none)) (none)) (none)) (none))
theorem L2.rng {α : Type} {N : Nat} (x19 : (List (BA × List (Int × Int) × List (Int × Int) × List (Int × Int) × Int))) (x32 : (List (BA × Int × Int))) (hl : x19.length ≤ maxLen) (k0 : ((List (BA × List (Int × Int) × List (Int × Int) × List (Int × Int) × Int)) → Option α)) : ∀ (n j : Nat) (x29 : (List (BA × List (Int × Int) × List (Int × Int) × List (Int × Int) × Int))), x19.length < n + j → j ≤ x19.length → L2.f N x19 (x19.length : Int) x32 n (j : Int) x29 k0 = L2.l N x19 x32 k0 (x19.drop j) (j : Int) x29 :=
 rng1 x19 hl (fun n i x29 => L2.f N x19 (x19.length : Int) x32 n i x29 k0) (fun l i x29 => L2.l N x19 x32 k0 l i x29) (fun n j hj h ih x29 => by simp only [L2.f, L2.st, L2.l, h.a, h.b, h.c, h.d, h.e, Bool.true_and, Bool.and_true, Bool.and_self, cond_true, ih] <;> rfl) (fun n j h x29 => by simp only [L2.f, L2.st, L2.l, h, cond_false])
def L3.l {α : Type} (N : Nat) (x67 : (List (BA × Int × Int))) (k0 : ((List (BA × Int × Int)) → Option α)) : List (BA × Int × Int) → Int → (List (BA × Int × Int)) → Option α
 | [], x69, x74 => k0 (x74)
 | x :: l, x69, x74 => (cond (x.snd.snd != 0) (cond (strconv_Itoa.pre x69) (cond (decide ((ByteArray.mk (#[95])).data.toList.length + (strconv_Itoa.spec x69).data.toList.length ≤ 1099511627776)) (cond ((x74.length + 1).ble mxl) (cond (strconv_Itoa.pre x69) (cond (decide ((ByteArray.mk (#[95])).data.toList.length + (strconv_Itoa.spec x69).data.toList.length ≤ 1099511627776)) (cond ((x74.length + 1).ble mxl) (L3.l N x67 k0 l (x69 + 1) (x74 ++ [(sCat (ByteArray.mk (#[95])) (strconv_Itoa.spec x69), IntKind.i64.wrap (x.snd.snd - x.snd.fst), 0)])) (none)) (none)) (none)) (none)) (none)) (none)) (L3.l N x67 k0 l (x69 + 1) (x74)))
theorem L3.rng {α : Type} {N : Nat} (x67 : (List (BA × Int × Int))) (hl : x67.length ≤ maxLen) (k0 : ((List (BA × Int × Int)) → Option α)) : ∀ (n j : Nat) (x74 : (List (BA × Int × Int))), x67.length < n + j → j ≤ x67.length → L3.f N x67 (x67.length : Int) n (j : Int) x74 k0 = L3.l N x67 k0 (x67.drop j) (j : Int) x74 :=
 rng1 x67 hl (fun n i x74 => L3.f N x67 (x67.length : Int) n i x74 k0) (fun l i x74 => L3.l N x67 k0 l i x74) (fun n j hj h ih x74 => by simp only [L3.f, L3.st, L3.l, h.a, h.b, h.c, h.d, h.e, Bool.true_and, Bool.and_true, Bool.and_self, cond_true, ih] <;> rfl) (fun n j h x74 => by simp only [L3.f, L3.st, L3.l, h, cond_false])
def L4.l {α : Type} (N : Nat) (x100 : (List (Int × Int))) (k0 : (Int → BA → (List (BA × Int × Int)) → (List (BA × List (Int × Int) × List (Int × Int) × List (Int × Int) × Int)) → Option α)) (k1 : Option α) : List (Int × Int) → Int → Option α
 | [], x102 => k1 
 | x :: l, x102 => (cond (decide (99 < x.snd)) (k0 (9) ((ByteArray.mk (#[]))) ([]) ([])) (L4.l N x100 k0 k1 l (x102 + 1)))
theorem L4.rng {α : Type} {N : Nat} (x100 : (List (Int × Int))) (hl : x100.length ≤ maxLen) (k0 : (Int → BA → (List (BA × Int × Int)) → (List (BA × List (Int × Int) × List (Int × Int) × List (Int × Int) × Int)) → Option α)) (k1 : Option α) : ∀ (n j : Nat), x100.length < n + j → j ≤ x100.length → L4.f N x100 (x100.length : Int) n (j : Int) k0 k1 = L4.l N x100 k0 k1 (x100.drop j) (j : Int) :=
 rng0 x100 hl (fun n i => L4.f N x100 (x100.length : Int) n i k0 k1) (fun l i => L4.l N x100 k0 k1 l i) (fun n j hj h ih => by simp only [L4.f, L4.st, L4.l, h.a, h.b, h.c, h.d, h.e, Bool.true_and, Bool.and_true, Bool.and_self, cond_true, ih] <;> rfl) (fun n j h => by simp only [L4.f, L4.st, L4.l, h, cond_false])
def L5.l {α : Type} (N : Nat) (x92 : (List (List (Int × Int)))) (k0 : (Int → BA → (List (BA × Int × Int)) → (List (BA × List (Int × Int) × List (Int × Int) × List (Int × Int) × Int)) → Option α)) (k1 : Option α) : List (List (Int × Int)) → Int → Option α
 | [], x88 => k1 
 | x :: l, x88 => (L4.f N x ((↑(List.length x) : Int)) N (0) (fun x110 x111 x112 x113 => k0 (x110) (x111) (x112) (x113)) (L5.l N x92 k0 k1 l (x88 + 1)))
theorem L5.rng {α : Type} {N : Nat} (x92 : (List (List (Int × Int)))) (hl : x92.length ≤ maxLen) (k0 : (Int → BA → (List (BA × Int × Int)) → (List (BA × List (Int × Int) × List (Int × Int) × List (Int × Int) × Int)) → Option α)) (k1 : Option α) : ∀ (n j : Nat), x92.length < n + j → j ≤ x92.length → L5.f N (x92.length : Int) x92 n (j : Int) k0 k1 = L5.l N x92 k0 k1 (x92.drop j) (j : Int) :=
 rng0 x92 hl (fun n i => L5.f N (x92.length : Int) x92 n i k0 k1) (fun l i => L5.l N x92 k0 k1 l i) (fun n j hj h ih => by simp only [L5.f, L5.st, L5.l, h.a, h.b, h.c, h.d, h.e, Bool.true_and, Bool.and_true, Bool.and_self, cond_true, ih] <;> rfl) (fun n j h => by simp only [L5.f, L5.st, L5.l, h, cond_false])
def L6.l {α : Type} (N : Nat) (x81 : (List (BA × List (Int × Int) × List (Int × Int) × List (Int × Int) × Int))) (k0 : (Int → BA → (List (BA × Int × Int)) → (List (BA × List (Int × Int) × List (Int × Int) × List (Int × Int) × Int)) → Option α)) (k1 : Option α) : List (BA × List (Int × Int) × List (Int × Int) × List (Int × Int) × Int) → Int → Option α
 | [], x78 => k1 
 | x :: l, x78 => (L5.f N ((↑[x.snd.fst, x.snd.snd.fst].length : Int)) ([x.snd.fst, x.snd.snd.fst]) N (0) (fun x114 x115 x116 x117 => k0 (x114) (x115) (x116) (x117)) (L6.l N x81 k0 k1 l (x78 + 1)))
theorem L6.rng {α : Type} {N : Nat} (x81 : (List (BA × List (Int × Int) × List (Int × Int) × List (Int × Int) × Int))) (hl : x81.length ≤ maxLen) (k0 : (Int → BA → (List (BA × Int × Int)) → (List (BA × List (Int × Int) × List (Int × Int) × List (Int × Int) × Int)) → Option α)) (k1 : Option α) : ∀ (n j : Nat), x81.length < n + j → j ≤ x81.length → L6.f N (x81.length : Int) x81 n (j : Int) k0 k1 = L6.l N x81 k0 k1 (x81.drop j) (j : Int) :=
 rng0 x81 hl (fun n i => L6.f N (x81.length : Int) x81 n i k0 k1) (fun l i => L6.l N x81 k0 k1 l i) (fun n j hj h ih => by simp only [L6.f, L6.st, L6.l, h.a, h.b, h.c, h.d, h.e, Bool.true_and, Bool.and_true, Bool.and_self, cond_true, ih] <;> rfl) (fun n j h => by simp only [L6.f, L6.st, L6.l, h, cond_false])
end tf_Complement
theorem weightS_app : ∀ (l m : List (Int × Int)) (p : Int), (∀ a ∈ m, a.1 ≠ p) → weightS (l ++ m) p = weightS l p
 | [], m, p, h => by
  rcases weightS_in' (l := m) (p := p) h with e
  exact e
 | x :: l, m, p, h => by
  rw [List.cons_append, weightS, weightS, weightS_app l m p h]
where
 weightS_in' : ∀ {l : List (Int × Int)} {p : Int}, (∀ a ∈ l, a.1 ≠ p) → weightS l p = 0
 | [], _, _ => rfl
 | a :: l, p, h => by
  have h1 : (a.1 == p) = false := by simpa using h a (by simp)
  rw [weightS, h1, cond_false]
  exact weightS_in' fun b hb => h b (by simp [hb])
theorem tf_Complement.L0.law {α : Type} {N : Nat} (x0 : (List (BA × Int × Int))) (k0 : ((List (BA × Int × Int)) → Option α)) : ∀ (l : List PlaceT) (j : Int) (acc : List PlaceT), acc.length + l.length ≤ 1000 → tf_Complement.L0.l N x0 k0 l j acc = k0 (acc ++ l.map fun p => (p.1, p.2.1, 0))
 | [], j, acc, _ => by rw [tf_Complement.L0.l, List.map_nil, List.append_nil]
 | x :: l, j, acc, h0 => by
  simp only [List.length_cons] at h0
  rw [tf_Complement.L0.l, ble1 _ (by omega), cond_true, cond_true, tf_Complement.L0.law _ _ l _ _ (by simp; omega), List.append_assoc]
  rfl
theorem tf_Complement.L1.law {α : Type} {N : Nat} (x35 : (List (BA × Int × Int))) (x45 : (List (Int × Int))) (k0 : ((List (Int × Int)) → (List (Int × Int)) → Option α)) {t : TransT} (h45 : x45 = t.2.2.2.1) {np : Int} (ht : TransOk np t) (hnp : np ≤ 24) : ∀ (ps : List PlaceT) (i a : Int) (eo ei : List (Int × Int)), 0 ≤ i → i + ps.length ≤ np → np ≤ a → a + ps.length ≤ 1000 → (t.2.2.1 ++ eo).length + ps.length ≤ 1000 → (t.2.1 ++ ei).length + ps.length ≤ 1000 → (∀ x ∈ eo, np ≤ x.1) → (∀ x ∈ ei, np ≤ x.1) → (∀ p ∈ ps, PlaceOk p) →
  tf_Complement.L1.l N x35 x45 k0 ps i a (t.2.2.1 ++ eo) (t.2.1 ++ ei) = k0 (t.2.2.1 ++ (eo ++ compPost t a i ps)) (t.2.1 ++ (ei ++ compPre t a i ps))
 | [], i, a, eo, ei, _, _, _, _, _, _, _, _, _ => by
  rw [tf_Complement.L1.l, compPre, compPost, List.append_nil, List.append_nil]
 | p :: ps, i, a, eo, ei, hi0, hi1, ha0, ha1, h1, h2, ho, he, hp => by
  simp only [List.length_cons] at h1 h2 hi1 ha1
  have hpo := hp p (by simp)
  have hps : ∀ p ∈ ps, PlaceOk p := fun u hu => hp u (by simp [hu])
  have hkr := compK_rg ht (i := i) hpo.cap
  have hw1 := ht.pre.wt i
  have hw2 := ht.post.wt i
  have hw3 := ht.inh.wt i
  have hc := hpo.cap
  rw [tf_Complement.L1.l, compPre, compPost]
  cases hz : p.2.2 == 0
  ·
   simp only [cond_false]
   have m1 : ∀ x, np ≤ x.1 → (∀ y ∈ eo, np ≤ y.1) → ∀ y ∈ eo ++ [x], np ≤ y.1 := fun x hx h y hy => by
    rcases List.mem_append.1 hy with h9 | h9
    ·
     exact h y h9
    ·
     rw [List.mem_singleton.1 h9]; exact hx
   have m2 : ∀ x, np ≤ x.1 → (∀ y ∈ ei, np ≤ y.1) → ∀ y ∈ ei ++ [x], np ≤ y.1 := fun x hx h y hy => by
    rcases List.mem_append.1 hy with h9 | h9
    ·
     exact h y h9
    ·
     rw [List.mem_singleton.1 h9]; exact hx
   have ih := fun (eo ei : List (Int × Int)) => tf_Complement.L1.law (N := N) x35 x45 k0 h45 ht hnp ps (i + 1) (a + 1) eo ei (by omega) (by omega) (by omega) (by omega)
   have g1 : weightS (t.2.2.1 ++ eo) i = weightS t.2.2.1 i := weightS_app _ _ _ fun x hx e => by have := ho x hx; omega
   have g2 : weightS (t.2.1 ++ ei) i = weightS t.2.1 i := weightS_app _ _ _ fun x hx e => by have := he x hx; omega
   have n1 : IntKind.i64.wrap (weightS t.2.2.1 i - weightS t.2.1 i) = compD t i := by rw [wrap_i64 (inI_i64.2 (by omega))]; rfl
   have n2 : IntKind.i64.wrap (p.2.2 - weightS t.2.2.2.1 i) = p.2.2 - weightS t.2.2.2.1 i := wrap_i64 (inI_i64.2 (by omega))
   have n3 : IntKind.i64.wrap (p.2.2 - weightS t.2.2.2.1 i + 1) = p.2.2 - weightS t.2.2.2.1 i + 1 := wrap_i64 (inI_i64.2 (by omega))
   have n4 : IntKind.i64.wrap (compK t i p.2.2 - compD t i) = compK t i p.2.2 - compD t i := wrap_i64 (inI_i64.2 (by omega))
   have n5 : IntKind.i64.wrap (a + 1) = a + 1 := wrap_i64 (inI_i64.2 (by omega))
   have b1 := ble1 (t.2.2.1 ++ eo) (by omega)
   have b2 := ble1 (t.2.1 ++ ei) (by omega)
   subst h45
   simp only [lt, show ∀ l i, tf_weight.spec l i = weightS l i from fun _ _ => rfl, g1, g2, n1, n2, n3, n5, cond_true, b1, b2]
   have fin : ∀ K, K = compK t i p.2.2 → cond (decide (0 < K)) (cond (decide (compD t i < K)) (tf_Complement.L1.l N x35 t.2.2.2.1 k0 ps (i + 1) (a + 1) (t.2.2.1 ++ eo ++ [(a, IntKind.i64.wrap (K - compD t i))]) (t.2.1 ++ ei ++ [(a, K)])) (tf_Complement.L1.l N x35 t.2.2.2.1 k0 ps (i + 1) (a + 1) (t.2.2.1 ++ eo) (t.2.1 ++ ei ++ [(a, K)]))) (cond (decide (compD t i < K)) (tf_Complement.L1.l N x35 t.2.2.2.1 k0 ps (i + 1) (a + 1) (t.2.2.1 ++ eo ++ [(a, IntKind.i64.wrap (K - compD t i))]) (t.2.1 ++ ei)) (tf_Complement.L1.l N x35 t.2.2.2.1 k0 ps (i + 1) (a + 1) (t.2.2.1 ++ eo) (t.2.1 ++ ei))) = k0 (t.2.2.1 ++ (eo ++ cond (decide (compD t i < compK t i p.2.2)) ((a, compK t i p.2.2 - compD t i) :: compPost t (a + 1) (i + 1) ps) (compPost t (a + 1) (i + 1) ps))) (t.2.1 ++ (ei ++ cond (decide (0 < compK t i p.2.2)) ((a, compK t i p.2.2) :: compPre t (a + 1) (i + 1) ps) (compPre t (a + 1) (i + 1) ps))) := by
    rintro K rfl
    rw [n4]
    simp only [List.append_assoc]
    cases decide (0 < compK t i p.2.2)
    ·
     cases decide (compD t i < compK t i p.2.2)
     ·
      simp only [cond_false]
      rw [ih eo ei (by omega) (by omega) ho he hps]
     ·
      simp only [cond_false, cond_true]
      rw [ih (eo ++ [(a, _)]) ei (by simp at *; omega) (by omega) (m1 _ ha0 ho) he hps, List.append_assoc]
      rfl
    ·
     cases decide (compD t i < compK t i p.2.2)
     ·
      simp only [cond_false, cond_true]
      rw [ih eo (ei ++ [(a, _)]) (by omega) (by simp at *; omega) ho (m2 _ ha0 he) hps, List.append_assoc]
      rfl
     ·
      simp only [cond_true]
      rw [ih (eo ++ [(a, _)]) (ei ++ [(a, _)]) (by simp at *; omega) (by simp at *; omega) (m1 _ ha0 ho) (m2 _ ha0 he) hps, List.append_assoc, List.append_assoc]
      rfl
   by_cases hv : 0 < weightS t.2.2.2.1 i
   ·
    have hK : imax (imax 0 (compD t i)) (p.2.2 - weightS t.2.2.2.1 i + 1) = compK t i p.2.2 := by
     unfold compK compD; rw [imax_max, imax_max, decide_eq_true hv, cond_true]
    rw [decide_eq_true hv, cond_true]
    exact fin _ hK
   ·
    have hK : imax 0 (compD t i) = compK t i p.2.2 := by
     unfold compK compD; rw [imax_max, decide_eq_false hv, cond_false]
    rw [decide_eq_false hv, cond_false]
    exact fin _ hK
  ·
   simp only [cond_true]
   exact tf_Complement.L1.law _ _ _ h45 ht hnp ps (i + 1) a eo ei (by omega) (by omega) ha0 (by omega) (by omega) (by omega) ho he hps
theorem tf_Complement.L2.law {α : Type} {N : Nat} (hN : 18446744073709551616 ≤ N) (x19 : (List (BA × List (Int × Int) × List (Int × Int) × List (Int × Int) × Int))) (x32 : (List (BA × Int × Int))) (k0 : ((List (BA × List (Int × Int) × List (Int × Int) × List (Int × Int) × Int)) → Option α)) {n : NetT} (h32 : x32 = n.2.1) (hn : n.2.1.length ≤ 24) (hpl : ∀ p ∈ n.2.1, PlaceOk p) : ∀ (l : List TransT) (j : Int) (acc : List TransT), acc.length + l.length ≤ 1000 → (∀ t ∈ l, TransOk (n.2.1.length : Int) t) → tf_Complement.L2.l N x19 x32 k0 l j acc = k0 (acc ++ l.map (compT n))
 | [], j, acc, _, _ => by rw [tf_Complement.L2.l, List.map_nil, List.append_nil]
 | x :: l, j, acc, h0, h => by
  simp only [List.length_cons] at h0
  have hx := h x (by simp)
  have l1 := hx.pre.short hn
  have l2 := hx.post.short hn
  have l3 := hx.inh.short hn
  have hw : x32.length ≤ maxLen := by rw [h32]; unfold maxLen; omega
  have c1 : tf_clone.pre x.2.1 = true := bigL_of (by omega)
  have c2 : tf_clone.pre x.2.2.1 = true := bigL_of (by omega)
  have c3 : tf_clone.pre x.2.2.2.1 = true := bigL_of (by omega)
  rw [tf_Complement.L2.l]
  simp only [c1, c2, c3, cond_true, lt, tf_clone.spec]
  rw [ble1 _ (by omega)]
  simp only [cond_true]
  subst h32
  have go : ∀ k : List (Int × Int) → List (Int × Int) → Option α, tf_Complement.L1.f N n.2.1 (n.2.1.length : Int) x.2.2.2.1 N (n.2.1.length : Int) 0 x.2.2.1 x.2.1 k = k (compT n x).2.2.1 (compT n x).2.1 := fun k => by
   refine (tf_Complement.L1.rng (N := N) _ _ (hw) _ N 0 _ _ _ (by have := le_fuel (hw) hN; omega) (Nat.zero_le _)).trans ?_
   have := tf_Complement.L1.law (N := N) n.2.1 x.2.2.2.1 k rfl hx (by omega) n.2.1 0 (n.2.1.length : Int) [] [] (by omega) (by omega) (by omega) (by omega) (by simp; omega) (by simp; omega) (fun _ h => by cases h) (fun _ h => by cases h) hpl
   simp only [List.append_nil, List.nil_append] at this
   exact this
  rw [go, go, tf_Complement.L2.law hN _ _ _ rfl hn hpl l _ _ (by simp; omega) fun t ht => h t (by simp [ht]), List.append_assoc]
  rfl
theorem tf_Complement.L3.law {α : Type} {N : Nat} (x67 : (List (BA × Int × Int))) (k0 : ((List (BA × Int × Int)) → Option α)) : ∀ (l : List PlaceT) (j : Int) (acc : List PlaceT), 0 ≤ j → j + l.length ≤ 100 → acc.length + l.length ≤ 1000 → (∀ p ∈ l, PlaceOk p) → tf_Complement.L3.l N x67 k0 l j acc = k0 (acc ++ cmPlaces j l)
 | [], j, acc, _, _, _, _ => by rw [tf_Complement.L3.l, cmPlaces, List.append_nil]
 | x :: l, j, acc, h1, h2, h0, hp => by
  simp only [List.length_cons] at h0 h2
  have hpo := hp x (by simp)
  have hc := hpo.cap
  have hi := hpo.init
  rw [tf_Complement.L3.l, cmPlaces, show strconv_Itoa.pre j = true from dig_pre (by omega), show decide ((ByteArray.mk (#[95])).data.toList.length + (strconv_Itoa.spec j).data.toList.length ≤ 1099511627776) = true from cat_ok j, ble1 _ (by omega), wrap_i64 (inI_i64.2 (by omega))]
  have ih := fun acc h => tf_Complement.L3.law (N := N) x67 k0 l (j + 1) acc (by omega) (by omega) h fun p hp' => hp p (by simp [hp'])
  simp only [bne, cond_true]
  cases x.2.2 == 0
  ·
   simp only [Bool.not_false, cond_true, cond_false]
   rw [ih _ (by simp; omega), List.append_assoc]
   rfl
  ·
   simp only [Bool.not_true, cond_true, cond_false]
   exact ih _ (by omega)
theorem tf_Complement.L4.law {α : Type} {N : Nat} (x100 : (List (Int × Int))) (k0 : (Int → BA → (List (BA × Int × Int)) → (List (BA × List (Int × Int) × List (Int × Int) × List (Int × Int) × Int)) → Option α)) (k1 : Option α) : ∀ (l : List (Int × Int)) (j : Int), tf_Complement.L4.l N x100 k0 k1 l j = cond (over99 l) (k0 9 (ByteArray.mk #[]) [] []) k1
 | [], j => rfl
 | x :: l, j => by
  rw [tf_Complement.L4.l, tf_Complement.L4.law _ _ _ l]
  show _ = cond (decide (99 < x.2) || over99 l) _ _
  cases decide (99 < x.2) <;> rfl
theorem tf_Complement.L6.law {α : Type} {N : Nat} (hN : 18446744073709551616 ≤ N) (x81 : (List (BA × List (Int × Int) × List (Int × Int) × List (Int × Int) × Int))) (k0 : (Int → BA → (List (BA × Int × Int)) → (List (BA × List (Int × Int) × List (Int × Int) × List (Int × Int) × Int)) → Option α)) (k1 : Option α) : ∀ (l : List TransT) (j : Int), (∀ t ∈ l, t.2.1.length ≤ maxLen ∧ t.2.2.1.length ≤ maxLen) → tf_Complement.L6.l N x81 k0 k1 l j = cond (bigW l) (k0 9 (ByteArray.mk #[]) [] []) k1
 | [], j, _ => rfl
 | x :: l, j, h => by
  obtain ⟨ha, hb⟩ := h x (by simp)
  have h2 : ([x.2.1, x.2.2.1] : List (List (Int × Int))).length ≤ maxLen := by unfold maxLen; simp
  rw [tf_Complement.L6.l]
  refine (tf_Complement.L5.rng (N := N) _ (h2) _ _ N 0  (by have := le_fuel (h2) hN; omega) (Nat.zero_le _)).trans ?_
  simp only [List.drop_zero, tf_Complement.L5.l]
  refine (tf_Complement.L4.rng (N := N) _ (ha) _ _ N 0  (by have := le_fuel (ha) hN; omega) (Nat.zero_le _)).trans ?_
  rw [List.drop_zero, tf_Complement.L4.law]
  show _ = cond ((over99 x.2.1 || over99 x.2.2.1) || bigW l) _ _
  cases over99 x.2.1
  ·
   simp only [cond_false, Bool.false_or]
   refine (tf_Complement.L4.rng (N := N) _ (hb) _ _ N 0  (by have := le_fuel (hb) hN; omega) (Nat.zero_le _)).trans ?_
   rw [List.drop_zero, tf_Complement.L4.law, tf_Complement.L6.law hN _ _ _ l _ fun t ht => h t (by simp [ht])]
   cases over99 x.2.2.1 <;> rfl
  ·
   rfl
theorem tf_Complement.law {α : Type} {N : Nat} (hN : 18446744073709551616 ≤ N) (a0 : BA × (List (BA × Int × Int)) × List (BA × (List (Int × Int)) × (List (Int × Int)) × (List (Int × Int)) × Int)) (w0 : K.wf (.st (.pr (.str) (.pr (.sl (.st (.pr (.str) (.pr (.int .i64) (.int .i64))))) (.sl (.st (.pr (.str) (.pr (.sl (.st (.pr (.int .i64) (.int .i64)))) (.pr (.sl (.st (.pr (.int .i64) (.int .i64)))) (.pr (.sl (.st (.pr (.int .i64) (.int .i64)))) (.int .i64)))))))))) a0) (kr : ((BA × (List (BA × Int × Int)) × List (BA × (List (Int × Int)) × (List (Int × Int)) × (List (Int × Int)) × Int)) → Int → Option α)) : tf_Complement.g N a0 kr = kr (tf_Complement.spec a0).1 (tf_Complement.spec a0).2 := by
 unfold tf_Complement.g tf_Complement.spec
 simp only [tf_checkComplement.spec, bne]
 cases hm : mayE a0 == 0
 ·
  rw [mayE_ne hm]
  rfl
 obtain ⟨hv, hle⟩ := mayE_ok hm
 have hnp := hv.np
 have hnt := hv.nt
 unfold cmE
 rw [hm]
 simp only [Bool.not_true, cond_false, cond_true]
 refine (tf_Complement.L0.rng (N := N) _ (w0.2.1.1) _ N 0 _ (by have := le_fuel (w0.2.1.1) hN; omega) (Nat.zero_le _)).trans ?_
 refine (tf_Complement.L0.law _ _ _ _ _ (by simp; omega)).trans ?_
 simp only [List.drop_zero, List.nil_append]
 refine (tf_Complement.L2.rng (N := N) _ _ (w0.2.2.1) _ N 0 _ (by have := le_fuel (w0.2.2.1) hN; omega) (Nat.zero_le _)).trans ?_
 refine (tf_Complement.L2.law hN _ _ _ rfl hnp.2 hv.place _ _ _ (by simp; omega) (by simpa using hv.trans)).trans ?_
 simp only [List.drop_zero, List.nil_append]
 refine (tf_Complement.L3.rng (N := N) _ (w0.2.1.1) _ N 0 _ (by have := le_fuel (w0.2.1.1) hN; omega) (Nat.zero_le _)).trans ?_
 refine (tf_Complement.L3.law _ _ _ _ _ (by omega) (by simp; omega) (by simp; omega) (by simpa using hv.place)).trans ?_
 rw [List.drop_zero]
 have hc : ∀ t ∈ a0.2.2.map (compT a0), t.2.1.length ≤ maxLen ∧ t.2.2.1.length ≤ maxLen := fun t ht => by
  obtain ⟨u, hu, rfl⟩ := List.mem_map.1 ht
  have hx := hv.trans u hu
  have l1 := hx.pre.short hnp.2
  have l2 := hx.post.short hnp.2
  have l3 := comp_len u a0.2.1 (a0.2.1.length : Int) 0
  unfold compT maxLen
  simp only [List.length_append]
  omega
 have hw : (a0.2.2.map (compT a0)).length ≤ maxLen := by unfold maxLen; simp; omega
 refine (tf_Complement.L6.rng (N := N) _ (hw) _ _ N 0  (by have := le_fuel (hw) hN; omega) (Nat.zero_le _)).trans ?_
 refine (tf_Complement.L6.law hN _ _ _ _ _ (by simpa using hc)).trans ?_
 rw [List.drop_zero, show (cmN a0).2.2 = a0.2.2.map (compT a0) from rfl]
 cases bigW (a0.2.2.map (compT a0)) <;> rfl
theorem tf_Complement.ok : FentOk P 13 tf_Complement.fent := fentOk_of (by kernel_rfl) fun ds hk => by
 obtain ⟨a0, l0, rfl, h0⟩ := ds_cons hk
 obtain rfl := ds0 h0
 exact ⟨true, [.dat (.st (.pr (.str) (.pr (.sl (.st (.pr (.str) (.pr (.int .i64) (.int .i64))))) (.sl (.st (.pr (.str) (.pr (.sl (.st (.pr (.int .i64) (.int .i64)))) (.pr (.sl (.st (.pr (.int .i64) (.int .i64)))) (.pr (.sl (.st (.pr (.int .i64) (.int .i64)))) (.int .i64)))))))))) (tf_Complement.spec a0).1, .dat (.int .i64) (tf_Complement.spec a0).2], fun h hw => tf_Complement.calls 18446744073709551616 a0 (tf_Complement.law (Nat.le_refl _) a0 hw.1 _), fun α k => rfl⟩
end Go.VI
namespace Go.VI
open Go Go.Proofs
namespace tf_Lift
def an15 : Ann := [(9, [1, 8, 32, 33, 34], [4, 5, 8])]
def L0.sh : Sh := { sl := [(1, SV.a (SA.d (K.int IntKind.i64).sl)), (8, SV.a (SA.fx (Atom.sl 0 0 none))), (32, SV.a (SA.d (K.str.pr ((K.int IntKind.i64).pr (K.int IntKind.i64))).st.sl)), (33, SV.a (SA.d (K.int IntKind.i64))), (34, SV.a (SA.d (K.int IntKind.i64)))], os := [(0, SO.row (K.int IntKind.i64) 0)], nx := 1 }
def L0.x0 : Sh := { sl := [(4, SV.a (SA.fx (Atom.sl 0 0 none))), (5, SV.a (SA.d (K.int IntKind.i64))), (8, SV.a (SA.fx (Atom.sl 1 0 none)))], os := [(0, SO.row (K.int IntKind.i64) 0), (1, SO.row (K.int IntKind.i64) 0)], nx := 2 }
def L0.x1 : Sh := { sl := [(4, SV.j), (5, SV.j), (8, SV.a (SA.fx (Atom.sl 0 0 none)))], os := [(0, SO.row (K.int IntKind.i64) 0)], nx := 1 }
def L0.st {α : Type} (N : Nat) (x0 : (List Int)) (x1 : (List (BA × Int × Int))) (x2 : Int) (φ : (Int → (List Int) → Option α)) (x3 : Int) (x4 : (List Int)) (k0 : (Int → (List Int) → (List Int) → Option α)) (k1 : ((List Int) → Option α)) : Option α :=
 cond (decide (x3 < x2)) (cond (decide (0 ≤ x3) && decide (x3 < (↑x1.length : Int))) (cond ((x1.getD x3.toNat (eBA, 0, 0)).snd.snd == 0) (φ (IntKind.i64.wrap (x3 + 1)) (x4)) (cond (decide (0 ≤ x3) && decide (x3 < (↑x0.length : Int))) (cond (decide ((x1.getD x3.toNat (eBA, 0, 0)).snd.snd < x0.getD x3.toNat (0 : Int))) (k0 (1) ([]) (x4)) (cond (decide (0 ≤ x3) && decide (x3 < (↑x0.length : Int))) (cond ((x4.length + 1).ble mxl) (φ (IntKind.i64.wrap (x3 + 1)) (x4 ++ [IntKind.i64.wrap ((x1.getD x3.toNat (eBA, 0, 0)).snd.snd - x0.getD x3.toNat (0 : Int))])) (none)) (none))) (none))) (none)) (k1 (x4))
def L0.f {α : Type} (N : Nat) (c0 : (List Int)) (c1 : (List (BA × Int × Int))) (c2 : Int) : Nat → Int → (List Int) → (Int → (List Int) → (List Int) → Option α) → ((List Int) → Option α) → Option α
 | 0, _, _, _, _ => none
 | n + 1, d0, d1, k0, k1 => L0.st N c0 c1 c2 (fun e0 e1 => L0.f N c0 c1 c2 n e0 e1 k0 k1) d0 d1 k0 k1
def L0.up (d : L0.sh.T) (e0 : Int) (e1 : (List Int)) : L0.sh.T := ((d.1.1, ((), (d.1.2.2.1, (d.1.2.2.2.1, (e0, ()))))), (e1, ()))
def L0.k0 {α : Type} (d : L0.sh.T) (K : Cont α) : (Int → (List Int) → (List Int) → Option α) := fun y0 y1 y2 => K (Exit.ret) (L0.x0.enc (((), (y0, ((), ()))), (y1, (y2, ()))))
def L0.k1 {α : Type} (d : L0.sh.T) (K : Cont α) : ((List Int) → Option α) := fun y0 => K (Exit.exit 0) (L0.x1.enc (((), ((), ((), ()))), (y0, ())))
def L0.F {α : Type} (N : Nat) (d : L0.sh.T) (K : Cont α) : Option α := L0.f N d.1.1 d.1.2.2.1 d.1.2.2.2.1 N d.1.2.2.2.2.1 d.2.1 (L0.k0 d K) (L0.k1 d K)
def ents15 {α : Type} (N : Nat) : List (SmE α) := [⟨0, 50, 9, [⟨L0.sh, L0.F N⟩]⟩]
def C (N : Nat) : Ctx := ⟨tys, [(13, tf_Complement.fent), (44, marking_Valid.fent)], [], N⟩
def L0.B {α : Type} (N : Nat) : Env → Cont α → Option α := evC tys 61 0 (evCall (C N) 50) (evCallQ (C N)) N an15 (smL (ents15 N) 0 50) (loopOf 9 Tryd.f15)
theorem L0.r {α : Type} (N : Nat) (φ : Env → Option α) (K : Cont α) (d : L0.sh.T) : L0.B N (L0.sh.enc d) (contL φ K (Env.norm 0 [1, 8, 32, 33, 34]) (Env.norm 0 [4, 5, 8])) = L0.st N d.1.1 d.1.2.2.1 d.1.2.2.2.1 (fun e0 e1 => φ (L0.sh.enc (L0.up d e0 e1))) d.1.2.2.2.2.1 d.2.1 (L0.k0 d K) (L0.k1 d K) := by kernel_rfl
theorem L0.e {α : Type} (N : Nat) : ∀ (n : Nat) (d : L0.sh.T) (K : Cont α), evL (L0.B N) (Env.norm 0 [1, 8, 32, 33, 34]) (Env.norm 0 [4, 5, 8]) n (L0.sh.enc d) K = L0.f N d.1.1 d.1.2.2.1 d.1.2.2.2.1 n d.1.2.2.2.2.1 d.2.1 (L0.k0 d K) (L0.k1 d K)
 | 0, d, K => rfl
 | n + 1, d, K => evL_contL.trans ((L0.r N _ K d).trans (congrArg (fun φ => L0.st N d.1.1 d.1.2.2.1 d.1.2.2.2.1 φ d.1.2.2.2.2.1 d.2.1 (L0.k0 d K) (L0.k1 d K)) (funext fun e0 => funext fun e1 => L0.e N n (L0.up d e0 e1) K)))
theorem ents15_ok {α : Type} (N : Nat) : AllP (EntOk (C N) Tryd.f15 an15 (ents15 (α := α) N)) (ents15 N) := ⟨entOk_of (b0 := loopOf 9 Tryd.f15) (li0 := [1, 8, 32, 33, 34]) (lx0 := [4, 5, 8]) (by kernel_rfl) (by kernel_rfl) ⟨fun d K => L0.e N N d K, trivial⟩, trivial⟩
def g {α : Type} (N : Nat) (a0 : BA × List (BA × Int × Int) × List (BA × List (Int × Int) × List (Int × Int) × List (Int × Int) × Int)) (a1 : List Int) (kr : ((List Int) → Int → Option α)) : Option α :=
 cond ((tf_Complement.spec a0).snd != 0) (kr ([]) ((tf_Complement.spec a0).snd)) (cond (!(marking_Valid.spec a1 (↑(List.length a0.snd.fst) : Int))) (kr ([]) (2)) (cond (decide (0 ≤ (↑a1.length : Int)) && decide ((↑a1.length : Int) ≤ (↑a1.length : Int)) && decide ((↑a1.length : Int) ≤ 1073741824)) (L0.f N (a1) (a0.snd.fst) ((↑(List.length a0.snd.fst) : Int)) N (0) (List.take 0 (List.replicate (↑a1.length : Int).toNat (0 : Int)) ++ List.take (List.replicate (↑a1.length : Int).toNat (0 : Int)).length a1 ++ List.drop (0 + min a1.length (List.replicate (↑a1.length : Int).toNat (0 : Int)).length) (List.replicate (↑a1.length : Int).toNat (0 : Int))) (fun x5 x6 x7 => kr (x6) (x5)) (fun x8 => kr (x8) (0))) (none)))
theorem eq (N : Nat) (a0 : BA × List (BA × Int × Int) × List (BA × List (Int × Int) × List (Int × Int) × List (Int × Int) × Int)) (a1 : List Int) : evF (C N) 50 Tryd.f15 an15 (smL (ents15 N) 0 50) [(((.int .i64) : K), true), ((.int .i64 : K), false)] [⟨.st (.pr (.str) (.pr (.sl (.st (.pr (.str) (.pr (.int .i64) (.int .i64))))) (.sl (.st (.pr (.str) (.pr (.sl (.st (.pr (.int .i64) (.int .i64)))) (.pr (.sl (.st (.pr (.int .i64) (.int .i64)))) (.pr (.sl (.st (.pr (.int .i64) (.int .i64)))) (.int .i64))))))))), a0⟩, ⟨.sl (.int .i64), a1⟩] = g N a0 a1 (fun r0 r1 => some [.own (K.int IntKind.i64) r0, .dat (K.int IntKind.i64) r1]) := by kernel_rfl
theorem ctxOk (N : Nat) : CtxOk P (C N) := ctxOk_of tysOk mixedOk ⟨tf_Complement.ok, marking_Valid.ok, trivial⟩ trivial
theorem calls (N : Nat) (a0 : BA × List (BA × Int × Int) × List (BA × List (Int × Int) × List (Int × Int) × List (Int × Int) × Int)) (a1 : List Int) {rs : List Rs} (h : g N a0 a1 (fun r0 r1 => some [.own (K.int IntKind.i64) r0, .dat (K.int IntKind.i64) r1]) = some rs) : CallsTo P 15 [⟨.st (.pr (.str) (.pr (.sl (.st (.pr (.str) (.pr (.int .i64) (.int .i64))))) (.sl (.st (.pr (.str) (.pr (.sl (.st (.pr (.int .i64) (.int .i64)))) (.pr (.sl (.st (.pr (.int .i64) (.int .i64)))) (.pr (.sl (.st (.pr (.int .i64) (.int .i64)))) (.int .i64))))))))), a0⟩, ⟨.sl (.int .i64), a1⟩] rs := evF_calls' (ctxOk N) (by rfl) (ents15_ok N) ((eq N a0 a1).trans h)
def L0.l {α : Type} (N : Nat) (x0 : (List Int)) (x1 : (List (BA × Int × Int))) (k0 : (Int → (List Int) → (List Int) → Option α)) (k1 : ((List Int) → Option α)) : List (BA × Int × Int) → Int → (List Int) → Option α
 | [], x3, x4 => k1 (x4)
 | x :: l, x3, x4 => (cond (x.snd.snd == 0) (L0.l N x0 x1 k0 k1 l (x3 + 1) (x4)) (cond (decide (0 ≤ x3) && decide (x3 < (↑x0.length : Int))) (cond (decide (x.snd.snd < x0.getD x3.toNat (0 : Int))) (k0 (1) ([]) (x4)) (cond (decide (0 ≤ x3) && decide (x3 < (↑x0.length : Int))) (cond ((x4.length + 1).ble mxl) (L0.l N x0 x1 k0 k1 l (x3 + 1) (x4 ++ [IntKind.i64.wrap (x.snd.snd - x0.getD x3.toNat (0 : Int))])) (none)) (none))) (none)))
theorem L0.rng {α : Type} {N : Nat} (x0 : (List Int)) (x1 : (List (BA × Int × Int))) (hl : x1.length ≤ maxLen) (k0 : (Int → (List Int) → (List Int) → Option α)) (k1 : ((List Int) → Option α)) : ∀ (n j : Nat) (x4 : (List Int)), x1.length < n + j → j ≤ x1.length → L0.f N x0 x1 (x1.length : Int) n (j : Int) x4 k0 k1 = L0.l N x0 x1 k0 k1 (x1.drop j) (j : Int) x4 :=
 rng1 x1 hl (fun n i x4 => L0.f N x0 x1 (x1.length : Int) n i x4 k0 k1) (fun l i x4 => L0.l N x0 x1 k0 k1 l i x4) (fun n j hj h ih x4 => by simp only [L0.f, L0.st, L0.l, h.a, h.b, h.c, h.d, h.e, Bool.true_and, Bool.and_true, Bool.and_self, cond_true, ih] <;> rfl) (fun n j h x4 => by simp only [L0.f, L0.st, L0.l, h, cond_false])
end tf_Lift
theorem tf_Lift.L0.law {α : Type} {N : Nat} (x0 : (List Int)) (x1 : (List (BA × Int × Int))) (k0 : (Int → (List Int) → (List Int) → Option α)) (k1 : ((List Int) → Option α)) (hm : ∀ k ∈ x0, 0 ≤ k ∧ k ≤ 1048576) {R : Option α} (hk : ∀ a, k0 1 [] a = R) : ∀ (l : List PlaceT) (j : Nat) (acc : List Int), l.length = (x0.drop j).length → acc.length + l.length ≤ 1000 → (∀ p ∈ l, PlaceOk p) →
  tf_Lift.L0.l N x0 x1 k0 k1 l (j : Int) acc = cond ((l.zip (x0.drop j)).any fun q => !(q.1.2.2 == 0) && decide (q.1.2.2 < q.2)) R (k1 (acc ++ liftL l (x0.drop j)))
 | [], j, acc, _, _, _ => by rw [tf_Lift.L0.l]; simp [liftL]
 | x :: l, j, acc, h, h0, hp => by
  simp only [List.length_cons] at h0
  have hj : j < x0.length := by simp at h; omega
  have hc := (hp x (by simp)).cap
  have hmj := hm x0[j] (List.getElem_mem hj)
  have ih := fun acc h => tf_Lift.L0.law (N := N) x0 x1 k0 k1 hm hk l (j + 1) acc (by simp at *; omega) h fun p hp' => hp p (by simp [hp'])
  rw [tf_Lift.L0.l]
  simp only [d_0, d_lt hj, getD_at hj, Bool.and_self, cond_true]
  rw [ble1 _ (by omega), cond_true, wrap_i64 (inI_i64.2 (by omega)), ← succ_cast, List.drop_eq_getElem_cons hj, List.zip_cons_cons, List.any_cons]
  have e : liftL (x :: l) (x0[j] :: x0.drop (j + 1)) = cond (x.2.2 == 0) (liftL l (x0.drop (j + 1))) ((x.2.2 - x0[j]) :: liftL l (x0.drop (j + 1))) := by
   unfold liftL
   rw [List.zip_cons_cons, List.filterMap_cons]
   cases x.2.2 == 0 <;> rfl
  rw [e]
  cases x.2.2 == 0
  ·
   simp only [cond_false, Bool.not_false, Bool.true_and]
   cases decide (x.2.2 < x0[j])
   ·
    simp only [cond_false, Bool.false_or]
    rw [ih _ (by simp; omega), List.append_assoc]
    rfl
   ·
    simp only [cond_true, Bool.true_or]
    exact hk _
  ·
   simp only [cond_true, Bool.not_true, Bool.false_and, Bool.false_or]
   exact ih _ (by omega)
theorem tf_Lift.law {α : Type} {N : Nat} (hN : 18446744073709551616 ≤ N) (a0 : BA × (List (BA × Int × Int)) × List (BA × (List (Int × Int)) × (List (Int × Int)) × (List (Int × Int)) × Int)) (a1 : List Int) (w0 : K.wf (.st (.pr (.str) (.pr (.sl (.st (.pr (.str) (.pr (.int .i64) (.int .i64))))) (.sl (.st (.pr (.str) (.pr (.sl (.st (.pr (.int .i64) (.int .i64)))) (.pr (.sl (.st (.pr (.int .i64) (.int .i64)))) (.pr (.sl (.st (.pr (.int .i64) (.int .i64)))) (.int .i64)))))))))) a0) (w1 : K.wf (.sl (.int .i64)) a1) (kr : ((List Int) → Int → Option α)) : tf_Lift.g N a0 a1 kr = kr (tf_Lift.spec a0 a1).1 (tf_Lift.spec a0 a1).2 := by
 unfold tf_Lift.g tf_Lift.spec liftE
 simp only [tf_Complement.spec, bne]
 cases hc : (cmE a0).2 == 0
 ·
  rfl
 have hv := (cmE_ok hc).1
 have hnp := hv.np
 simp only [Bool.not_true, cond_false, cond_true]
 cases hm : marking_Valid.spec a1 ((List.length a0.2.1 : Nat) : Int)
 ·
  rfl
 unfold marking_Valid.spec at hm
 simp only [Bool.and_eq_true, decide_eq_true_eq, List.all_eq_true] at hm
 have hlen : a0.2.1.length = a1.length := by omega
 have e : (decide (0 ≤ (a1.length : Int)) && decide ((a1.length : Int) ≤ (a1.length : Int)) && decide ((a1.length : Int) ≤ 1073741824)) = true := by simp; omega
 rw [e]
 simp only [Bool.not_true, cond_false, cond_true]
 rw [show (List.take 0 (List.replicate (a1.length : Int).toNat (0 : Int)) ++ List.take (List.replicate (a1.length : Int).toNat (0 : Int)).length a1 ++ List.drop (0 + min a1.length (List.replicate (a1.length : Int).toNat (0 : Int)).length) (List.replicate (a1.length : Int).toNat (0 : Int))) = a1 by simp]
 refine (tf_Lift.L0.rng (N := N) _ _ (w0.2.1.1) _ _ N 0 _ (by have := le_fuel (w0.2.1.1) hN; omega) (Nat.zero_le _)).trans ?_
 refine (tf_Lift.L0.law _ _ _ _ (fun k hk => hm.2 k hk) (R := kr [] 1) (fun _ => rfl) _ 0 _ (by simpa using hlen) (by simp; omega) (by simpa using hv.place)).trans ?_
 simp only [List.drop_zero]
 unfold over
 cases (List.any (List.zip a0.2.1 a1) _) <;> rfl
theorem tf_Lift.ok : FentOk P 15 tf_Lift.fent := fentOk_of (by kernel_rfl) fun ds hk => by
 obtain ⟨a0, l0, rfl, h0⟩ := ds_cons hk
 obtain ⟨a1, l1, rfl, h1⟩ := ds_cons h0
 obtain rfl := ds0 h1
 exact ⟨true, [.own (.int .i64) (tf_Lift.spec a0 a1).1, .dat (.int .i64) (tf_Lift.spec a0 a1).2], fun h hw => tf_Lift.calls 18446744073709551616 a0 a1 (tf_Lift.law (Nat.le_refl _) a0 a1 hw.1 hw.2.1 _), fun α k => rfl⟩
end Go.VI
namespace Go.VI
open Go Go.Proofs
namespace tf_Subnet_1
def an55 : Ann := [(3, [1, 4, 7, 8, 9], [4])]
def L0.sh : Sh := { sl := [(1, SV.a (SA.rf (K.int IntKind.i64).sl 0)), (4, SV.a (SA.fx (Atom.sl 0 0 none))), (7, SV.a (SA.d ((K.int IntKind.i64).pr (K.int IntKind.i64)).st.sl)), (8, SV.a (SA.d (K.int IntKind.i64))), (9, SV.a (SA.d (K.int IntKind.i64)))], os := [(0, SO.row ((K.int IntKind.i64).pr (K.int IntKind.i64)).st 0)], nx := 1 }
def L0.x0 : Sh := { sl := [(4, SV.a (SA.fx (Atom.sl 0 0 none)))], os := [(0, SO.row ((K.int IntKind.i64).pr (K.int IntKind.i64)).st 0)], nx := 1 }
def L0.st {α : Type} (N : Nat) (x0 : (List Int)) (x1 : (List (Int × Int))) (x2 : Int) (φ : (Int → (List (Int × Int)) → Option α)) (x3 : Int) (x4 : (List (Int × Int))) (k0 : ((List (Int × Int)) → Option α)) : Option α :=
 cond (decide (x3 < x2)) (cond (decide (0 ≤ x3) && decide (x3 < (↑x1.length : Int))) (cond (decide (0 ≤ (x1.getD x3.toNat ((0 : Int), (0 : Int))).fst) && decide ((x1.getD x3.toNat ((0 : Int), (0 : Int))).fst < (↑x0.length : Int))) (cond (decide (0 ≤ x0.getD (Int.toNat (x1.getD x3.toNat ((0 : Int), (0 : Int))).fst) 0)) (cond (decide (0 ≤ (x1.getD x3.toNat ((0 : Int), (0 : Int))).fst) && decide ((x1.getD x3.toNat ((0 : Int), (0 : Int))).fst < (↑x0.length : Int))) (cond ((x4.length + 1).ble mxl) (φ (IntKind.i64.wrap (x3 + 1)) (x4 ++ [(x0.getD (Int.toNat (x1.getD x3.toNat ((0 : Int), (0 : Int))).fst) 0, (x1.getD x3.toNat ((0 : Int), (0 : Int))).snd)])) (none)) (none)) (φ (IntKind.i64.wrap (x3 + 1)) (x4))) (none)) (none)) (k0 (x4))
def L0.f {α : Type} (N : Nat) (c0 : (List Int)) (c1 : (List (Int × Int))) (c2 : Int) : Nat → Int → (List (Int × Int)) → ((List (Int × Int)) → Option α) → Option α
 | 0, _, _, _ => none
 | n + 1, d0, d1, k0 => L0.st N c0 c1 c2 (fun e0 e1 => L0.f N c0 c1 c2 n e0 e1 k0) d0 d1 k0
def L0.up (d : L0.sh.T) (e0 : Int) (e1 : (List (Int × Int))) : L0.sh.T := ((d.1.1, ((), (d.1.2.2.1, (d.1.2.2.2.1, (e0, ()))))), (e1, ()))
def L0.k0 {α : Type} (d : L0.sh.T) (K : Cont α) : ((List (Int × Int)) → Option α) := fun y0 => K (Exit.exit 0) (L0.x0.enc (((), ()), (y0, ())))
def L0.F {α : Type} (N : Nat) (d : L0.sh.T) (K : Cont α) : Option α := L0.f N d.1.1 d.1.2.2.1 d.1.2.2.2.1 N d.1.2.2.2.2.1 d.2.1 (L0.k0 d K)
def ents55 {α : Type} (N : Nat) : List (SmE α) := [⟨0, 50, 3, [⟨L0.sh, L0.F N⟩]⟩]
def C (N : Nat) : Ctx := ⟨tys, [], [], N⟩
def L0.B {α : Type} (N : Nat) : Env → Cont α → Option α := evC tys 32 0 (evCall (C N) 50) (evCallQ (C N)) N an55 (smL (ents55 N) 0 50) (loopOf 3 Tryd.f55)
theorem L0.r {α : Type} (N : Nat) (φ : Env → Option α) (K : Cont α) (d : L0.sh.T) : L0.B N (L0.sh.enc d) (contL φ K (Env.norm 0 [1, 4, 7, 8, 9]) (Env.norm 0 [4])) = L0.st N d.1.1 d.1.2.2.1 d.1.2.2.2.1 (fun e0 e1 => φ (L0.sh.enc (L0.up d e0 e1))) d.1.2.2.2.2.1 d.2.1 (L0.k0 d K) := by kernel_rfl
theorem L0.e {α : Type} (N : Nat) : ∀ (n : Nat) (d : L0.sh.T) (K : Cont α), evL (L0.B N) (Env.norm 0 [1, 4, 7, 8, 9]) (Env.norm 0 [4]) n (L0.sh.enc d) K = L0.f N d.1.1 d.1.2.2.1 d.1.2.2.2.1 n d.1.2.2.2.2.1 d.2.1 (L0.k0 d K)
 | 0, d, K => rfl
 | n + 1, d, K => evL_contL.trans ((L0.r N _ K d).trans (congrArg (fun φ => L0.st N d.1.1 d.1.2.2.1 d.1.2.2.2.1 φ d.1.2.2.2.2.1 d.2.1 (L0.k0 d K)) (funext fun e0 => funext fun e1 => L0.e N n (L0.up d e0 e1) K)))
theorem ents55_ok {α : Type} (N : Nat) : AllP (EntOk (C N) Tryd.f55 an55 (ents55 (α := α) N)) (ents55 N) := ⟨entOk_of (b0 := loopOf 3 Tryd.f55) (li0 := [1, 4, 7, 8, 9]) (lx0 := [4]) (by kernel_rfl) (by kernel_rfl) ⟨fun d K => L0.e N N d K, trivial⟩, trivial⟩
def g {α : Type} (N : Nat) (a0 : List (Int × Int)) (a1 : List Int) (kr : ((List (Int × Int)) → Option α)) : Option α :=
 L0.f N (a1) (a0) ((↑a0.length : Int)) N (0) ([]) (fun x5 => kr (x5))
theorem eq (N : Nat) (a0 : List (Int × Int)) (a1 : List Int) : evF (C N) 50 Tryd.f55 an55 (smL (ents55 N) 0 50) [(((.st (.pr (.int .i64) (.int .i64))) : K), true)] [⟨.sl (.st (.pr (.int .i64) (.int .i64))), a0⟩, ⟨.ref (.sl (.int .i64)), a1⟩] = g N a0 a1 (fun r0 => some [.own (((K.int IntKind.i64).pr (K.int IntKind.i64)).st) r0]) := by kernel_rfl
theorem ctxOk (N : Nat) : CtxOk P (C N) := ctxOk_of tysOk mixedOk trivial trivial
theorem calls (N : Nat) (a0 : List (Int × Int)) (a1 : List Int) {rs : List Rs} (h : g N a0 a1 (fun r0 => some [.own (((K.int IntKind.i64).pr (K.int IntKind.i64)).st) r0]) = some rs) : CallsTo P 55 [⟨.sl (.st (.pr (.int .i64) (.int .i64))), a0⟩, ⟨.ref (.sl (.int .i64)), a1⟩] rs := evF_calls' (ctxOk N) (by rfl) (ents55_ok N) ((eq N a0 a1).trans h)
def L0.l {α : Type} (N : Nat) (x0 : (List Int)) (x1 : (List (Int × Int))) (k0 : ((List (Int × Int)) → Option α)) : List (Int × Int) → Int → (List (Int × Int)) → Option α
 | [], x3, x4 => k0 (x4)
 | x :: l, x3, x4 => (cond (decide (0 ≤ x.fst) && decide (x.fst < (↑x0.length : Int))) (cond (decide (0 ≤ x0.getD (Int.toNat x.fst) 0)) (cond (decide (0 ≤ x.fst) && decide (x.fst < (↑x0.length : Int))) (cond ((x4.length + 1).ble mxl) (L0.l N x0 x1 k0 l (x3 + 1) (x4 ++ [(x0.getD (Int.toNat x.fst) 0, x.snd)])) (none)) (none)) (L0.l N x0 x1 k0 l (x3 + 1) (x4))) (none))
theorem L0.rng {α : Type} {N : Nat} (x0 : (List Int)) (x1 : (List (Int × Int))) (hl : x1.length ≤ maxLen) (k0 : ((List (Int × Int)) → Option α)) : ∀ (n j : Nat) (x4 : (List (Int × Int))), x1.length < n + j → j ≤ x1.length → L0.f N x0 x1 (x1.length : Int) n (j : Int) x4 k0 = L0.l N x0 x1 k0 (x1.drop j) (j : Int) x4 :=
 rng1 x1 hl (fun n i x4 => L0.f N x0 x1 (x1.length : Int) n i x4 k0) (fun l i x4 => L0.l N x0 x1 k0 l i x4) (fun n j hj h ih x4 => by simp only [L0.f, L0.st, L0.l, h.a, h.b, h.c, h.d, h.e, Bool.true_and, Bool.and_true, Bool.and_self, cond_true, ih] <;> rfl) (fun n j h x4 => by simp only [L0.f, L0.st, L0.l, h, cond_false])
end tf_Subnet_1
theorem tf_Subnet_1.L0.law {α : Type} {N : Nat} (x0 : (List Int)) (x1 : (List (Int × Int))) (k0 : ((List (Int × Int)) → Option α)) : ∀ l j (acc : List (Int × Int)), acc.length + l.length ≤ 1073741824 → (l.all fun a => decide (0 ≤ a.1) && decide (a.1 < (x0.length : Int))) = true → tf_Subnet_1.L0.l N x0 x1 k0 l j acc = k0 (acc ++ tf_Subnet_1.spec l x0)
 | [], j, acc, h, _ => by rw [tf_Subnet_1.L0.l]; simp [tf_Subnet_1.spec]
 | x :: l, j, acc, h, ha => by
  simp only [List.length_cons] at h
  simp only [List.all_cons, Bool.and_eq_true] at ha
  rw [tf_Subnet_1.L0.l, show (decide (0 ≤ x.1) && decide (x.1 < (x0.length : Int))) = true by simp only [Bool.and_eq_true]; exact ha.1]
  simp only [cond_true]
  cases hb : decide (0 ≤ x0.getD (Int.toNat x.1) 0)
  ·
   rw [cond_false, tf_Subnet_1.L0.law _ _ _ l _ _ (by omega) ha.2]
   simp only [tf_Subnet_1.spec, List.filterMap_cons, hb, cond_false]
  ·
   rw [cond_true, show ((acc.length + 1).ble mxl) = true from Nat.ble_eq_true_of_le (by unfold mxl; simp; omega), cond_true, tf_Subnet_1.L0.law _ _ _ l _ _ (by simp; omega) ha.2]
   simp only [tf_Subnet_1.spec, List.filterMap_cons, hb, cond_true, List.append_assoc, List.singleton_append]
theorem tf_Subnet_1.law {α : Type} {N : Nat} (hN : 18446744073709551616 ≤ N) (a0 : List (Int × Int)) (a1 : List Int) (w0 : K.wf (.sl (.st (.pr (.int .i64) (.int .i64)))) a0) (w1 : K.wf (.ref (.sl (.int .i64))) a1) (hp : tf_Subnet_1.pre a0 a1 = true) (kr : ((List (Int × Int)) → Option α)) : tf_Subnet_1.g N a0 a1 kr = kr (tf_Subnet_1.spec a0 a1) := by
 simp only [tf_Subnet_1.pre, Bool.and_eq_true] at hp
 have hp' : a0.length ≤ 1073741824 := of_decide_eq_true hp.1
 unfold tf_Subnet_1.g
 refine (tf_Subnet_1.L0.rng (N := N) _ _ (w0.1) _ N 0 _ (by have := le_fuel (w0.1) hN; omega) (Nat.zero_le _)).trans ?_
 rw [List.drop_zero, tf_Subnet_1.L0.law _ _ _ _ _ _ (by simpa using hp') hp.2]
 rfl
theorem tf_Subnet_1.ok : FentOk P 55 tf_Subnet_1.fent := fentOk_of (by kernel_rfl) fun ds hk => by
 obtain ⟨a0, l0, rfl, h0⟩ := ds_cons hk
 obtain ⟨a1, l1, rfl, h1⟩ := ds_cons h0
 obtain rfl := ds0 h1
 exact ⟨tf_Subnet_1.pre a0 a1, [.own (.st (.pr (.int .i64) (.int .i64))) (tf_Subnet_1.spec a0 a1)], fun h hw => tf_Subnet_1.calls 18446744073709551616 a0 a1 (tf_Subnet_1.law (Nat.le_refl _) a0 a1 hw.1 hw.2.1 h _), fun α k => rfl⟩
end Go.VI
namespace Go.VI
open Go Go.Proofs
namespace tf_shift
def an65 : Ann := [(3, [1, 5, 10, 11], [5])]
def L0.sh : Sh := { sl := [(1, SV.a (SA.d (K.int IntKind.i64))), (5, SV.a (SA.fx (Atom.sl 0 0 none))), (10, SV.a (SA.d (K.int IntKind.i64))), (11, SV.a (SA.d (K.int IntKind.i64)))], os := [(0, SO.row ((K.int IntKind.i64).pr (K.int IntKind.i64)).st 0)], nx := 1 }
def L0.x0 : Sh := { sl := [(5, SV.a (SA.fx (Atom.sl 0 0 none)))], os := [(0, SO.row ((K.int IntKind.i64).pr (K.int IntKind.i64)).st 0)], nx := 1 }
def L0.st {α : Type} (N : Nat) (x0 : Int) (x1 : Int) (φ : (Int → (List (Int × Int)) → Option α)) (x2 : Int) (x3 : (List (Int × Int))) (k0 : ((List (Int × Int)) → Option α)) : Option α :=
 cond (decide (x2 < x1)) (cond (decide (0 ≤ x2) && decide (x2 < (↑x3.length : Int))) (cond (decide (0 ≤ x2) && decide (x2 < (↑x3.length : Int))) (φ (IntKind.i64.wrap (x2 + 1)) (x3.set (0 + x2.toNat) (IntKind.i64.wrap ((x3.getD (0 + x2.toNat) ((0 : Int), (0 : Int))).fst + x0), (x3.getD (0 + x2.toNat) ((0 : Int), (0 : Int))).snd))) (none)) (none)) (k0 (x3))
def L0.f {α : Type} (N : Nat) (c0 : Int) (c1 : Int) : Nat → Int → (List (Int × Int)) → ((List (Int × Int)) → Option α) → Option α
 | 0, _, _, _ => none
 | n + 1, d0, d1, k0 => L0.st N c0 c1 (fun e0 e1 => L0.f N c0 c1 n e0 e1 k0) d0 d1 k0
def L0.up (d : L0.sh.T) (e0 : Int) (e1 : (List (Int × Int))) : L0.sh.T := ((d.1.1, ((), (d.1.2.2.1, (e0, ())))), (e1, ()))
def L0.k0 {α : Type} (d : L0.sh.T) (K : Cont α) : ((List (Int × Int)) → Option α) := fun y0 => K (Exit.exit 0) (L0.x0.enc (((), ()), (y0, ())))
def L0.F {α : Type} (N : Nat) (d : L0.sh.T) (K : Cont α) : Option α := L0.f N d.1.1 d.1.2.2.1 N d.1.2.2.2.1 d.2.1 (L0.k0 d K)
def ents65 {α : Type} (N : Nat) : List (SmE α) := [⟨0, 50, 3, [⟨L0.sh, L0.F N⟩]⟩]
def C (N : Nat) : Ctx := ⟨tys, [(72, tf_clone.fent)], [], N⟩
def L0.B {α : Type} (N : Nat) : Env → Cont α → Option α := evC tys 25 0 (evCall (C N) 50) (evCallQ (C N)) N an65 (smL (ents65 N) 0 50) (loopOf 3 Tryd.f65)
theorem L0.r {α : Type} (N : Nat) (φ : Env → Option α) (K : Cont α) (d : L0.sh.T) : L0.B N (L0.sh.enc d) (contL φ K (Env.norm 0 [1, 5, 10, 11]) (Env.norm 0 [5])) = L0.st N d.1.1 d.1.2.2.1 (fun e0 e1 => φ (L0.sh.enc (L0.up d e0 e1))) d.1.2.2.2.1 d.2.1 (L0.k0 d K) := by kernel_rfl
theorem L0.e {α : Type} (N : Nat) : ∀ (n : Nat) (d : L0.sh.T) (K : Cont α), evL (L0.B N) (Env.norm 0 [1, 5, 10, 11]) (Env.norm 0 [5]) n (L0.sh.enc d) K = L0.f N d.1.1 d.1.2.2.1 n d.1.2.2.2.1 d.2.1 (L0.k0 d K)
 | 0, d, K => rfl
 | n + 1, d, K => evL_contL.trans ((L0.r N _ K d).trans (congrArg (fun φ => L0.st N d.1.1 d.1.2.2.1 φ d.1.2.2.2.1 d.2.1 (L0.k0 d K)) (funext fun e0 => funext fun e1 => L0.e N n (L0.up d e0 e1) K)))
theorem ents65_ok {α : Type} (N : Nat) : AllP (EntOk (C N) Tryd.f65 an65 (ents65 (α := α) N)) (ents65 N) := ⟨entOk_of (b0 := loopOf 3 Tryd.f65) (li0 := [1, 5, 10, 11]) (lx0 := [5]) (by kernel_rfl) (by kernel_rfl) ⟨fun d K => L0.e N N d K, trivial⟩, trivial⟩
def g {α : Type} (N : Nat) (a0 : List (Int × Int)) (a1 : Int) (kr : ((List (Int × Int)) → Option α)) : Option α :=
 cond (tf_clone.pre a0) (L0.f N (a1) ((↑(tf_clone.spec a0).length : Int)) N (0) ((tf_clone.spec a0)) (fun x4 => kr (x4))) (none)
theorem eq (N : Nat) (a0 : List (Int × Int)) (a1 : Int) : evF (C N) 50 Tryd.f65 an65 (smL (ents65 N) 0 50) [(((.st (.pr (.int .i64) (.int .i64))) : K), true)] [⟨.sl (.st (.pr (.int .i64) (.int .i64))), a0⟩, ⟨.int .i64, a1⟩] = g N a0 a1 (fun r0 => some [.own (((K.int IntKind.i64).pr (K.int IntKind.i64)).st) r0]) := by kernel_rfl
theorem ctxOk (N : Nat) : CtxOk P (C N) := ctxOk_of tysOk mixedOk ⟨tf_clone.ok, trivial⟩ trivial
theorem calls (N : Nat) (a0 : List (Int × Int)) (a1 : Int) {rs : List Rs} (h : g N a0 a1 (fun r0 => some [.own (((K.int IntKind.i64).pr (K.int IntKind.i64)).st) r0]) = some rs) : CallsTo P 65 [⟨.sl (.st (.pr (.int .i64) (.int .i64))), a0⟩, ⟨.int .i64, a1⟩] rs := evF_calls' (ctxOk N) (by rfl) (ents65_ok N) ((eq N a0 a1).trans h)
end tf_shift
theorem tf_shift.L0.law {α : Type} {N : Nat} (k : Int) (k0 : List (Int × Int) → Option α) : ∀ (l acc : List (Int × Int)) (n : Nat), l.length < n → acc.length + l.length ≤ 1073741824 →
  tf_shift.L0.f N k ((acc.length + l.length : Nat) : Int) n ((acc.length : Nat) : Int) (shiftL acc k ++ l) k0 = k0 (shiftL (acc ++ l) k)
 | l, acc, 0, h, _ => by omega
 | [], acc, n + 1, h, h2 => by
  rw [tf_shift.L0.f, tf_shift.L0.st, decide_eq_false (by simp), cond_false, List.append_nil, List.append_nil]
 | x :: l, acc, n + 1, h, h2 => by
  simp only [List.length_cons] at h h2
  have hl : (shiftL acc k).length = acc.length := by simp [shiftL]
  have e1 : decide (((acc.length : Nat) : Int) < ((acc.length + (x :: l).length : Nat) : Int)) = true := decide_eq_true (by simp only [List.length_cons]; omega)
  have e2 : decide (0 ≤ ((acc.length : Nat) : Int)) = true := d_0 _
  have e3 : decide (((acc.length : Nat) : Int) < (((shiftL acc k ++ x :: l).length : Nat) : Int)) = true := decide_eq_true (by rw [List.length_append, hl]; simp only [List.length_cons]; omega)
  rw [tf_shift.L0.f, tf_shift.L0.st, e1, e2, e3]
  simp only [cond_true, Bool.and_self]
  rw [Int.toNat_natCast, Nat.zero_add]
  have hg : (shiftL acc k ++ x :: l).getD acc.length (0, 0) = x := by
   rw [List.getD_eq_getElem?_getD, List.getElem?_append_right (by omega), hl]
   simp
  have hs : ∀ y, (shiftL acc k ++ x :: l).set acc.length y = shiftL acc k ++ y :: l := fun y => set_mid _ _ _ _ hl
  rw [hg, hs, wrap_i64 (inI_i64.2 (by omega : -9223372036854775808 ≤ ((acc.length : Nat) : Int) + 1 ∧ ((acc.length : Nat) : Int) + 1 ≤ 9223372036854775807))]
  have := tf_shift.L0.law (N := N) k k0 l (acc ++ [x]) n (by omega) (by simp; omega)
  have e5 : shiftL (acc ++ [x]) k ++ l = shiftL acc k ++ (IntKind.i64.wrap (x.1 + k), x.2) :: l := by simp [shiftL]
  rw [e5, List.append_assoc, List.singleton_append] at this
  rw [← this]
  have e6 : (((acc ++ [x]).length + l.length : Nat) : Int) = ((acc.length + (x :: l).length : Nat) : Int) := by simp; omega
  have e7 : (((acc ++ [x]).length : Nat) : Int) = ((acc.length : Nat) : Int) + 1 := by simp
  rw [e6, e7]
theorem tf_shift.law {α : Type} {N : Nat} (hN : 18446744073709551616 ≤ N) (a0 : List (Int × Int)) (a1 : Int) (w0 : K.wf (.sl (.st (.pr (.int .i64) (.int .i64)))) a0) (w1 : K.wf (.int .i64) a1) (hp : tf_shift.pre a0 a1 = true) (kr : ((List (Int × Int)) → Option α)) : tf_shift.g N a0 a1 kr = kr (tf_shift.spec a0 a1) := by
 have hp' : a0.length ≤ 1073741824 := of_decide_eq_true hp
 unfold tf_shift.g tf_shift.spec
 rw [show tf_clone.pre a0 = true from hp, cond_true]
 have := tf_shift.L0.law (N := N) a1 (fun x => kr x) a0 [] N (by have := le_fuel w0.1 hN; omega) (by simpa using hp')
 simpa [shiftL, tf_clone.spec] using this
theorem tf_shift.ok : FentOk P 65 tf_shift.fent := fentOk_of (by kernel_rfl) fun ds hk => by
 obtain ⟨a0, l0, rfl, h0⟩ := ds_cons hk
 obtain ⟨a1, l1, rfl, h1⟩ := ds_cons h0
 obtain rfl := ds0 h1
 exact ⟨tf_shift.pre a0 a1, [.own (.st (.pr (.int .i64) (.int .i64))) (tf_shift.spec a0 a1)], fun h hw => tf_shift.calls 18446744073709551616 a0 a1 (tf_shift.law (Nat.le_refl _) a0 a1 hw.1 hw.2.1 h _), fun α k => rfl⟩
end Go.VI
namespace Go.VI
open Go Go.Proofs
namespace net_Plain
def an74 : Ann := [(2, [1, 8, 9, 10], [1, 2]), (8, [1, 25, 26, 27], [1, 2])]
def L0.sh : Sh := { sl := [(1, SV.a (SA.fx (Atom.box 0 0))), (8, SV.a (SA.d (K.str.pr (((K.int IntKind.i64).pr (K.int IntKind.i64)).st.sl.pr (((K.int IntKind.i64).pr (K.int IntKind.i64)).st.sl.pr (((K.int IntKind.i64).pr (K.int IntKind.i64)).st.sl.pr (K.int IntKind.i64))))).st.sl)), (9, SV.a (SA.d (K.int IntKind.i64))), (10, SV.a (SA.d (K.int IntKind.i64)))], os := [(0, SO.box [SA.d K.str, SA.d (K.str.pr ((K.int IntKind.i64).pr (K.int IntKind.i64))).st.sl, SA.d (K.str.pr (((K.int IntKind.i64).pr (K.int IntKind.i64)).st.sl.pr (((K.int IntKind.i64).pr (K.int IntKind.i64)).st.sl.pr (((K.int IntKind.i64).pr (K.int IntKind.i64)).st.sl.pr (K.int IntKind.i64))))).st.sl])], nx := 1 }
def L0.x0 : Sh := { sl := [(1, SV.a (SA.fx (Atom.box 0 0))), (2, SV.a (SA.d K.bool))], os := [(0, SO.box [SA.d K.str, SA.d (K.str.pr ((K.int IntKind.i64).pr (K.int IntKind.i64))).st.sl, SA.d (K.str.pr (((K.int IntKind.i64).pr (K.int IntKind.i64)).st.sl.pr (((K.int IntKind.i64).pr (K.int IntKind.i64)).st.sl.pr (((K.int IntKind.i64).pr (K.int IntKind.i64)).st.sl.pr (K.int IntKind.i64))))).st.sl])], nx := 1 }
def L0.x1 : Sh := { sl := [(1, SV.a (SA.fx (Atom.box 0 0))), (2, SV.j)], os := [(0, SO.box [SA.d K.str, SA.d (K.str.pr ((K.int IntKind.i64).pr (K.int IntKind.i64))).st.sl, SA.d (K.str.pr (((K.int IntKind.i64).pr (K.int IntKind.i64)).st.sl.pr (((K.int IntKind.i64).pr (K.int IntKind.i64)).st.sl.pr (((K.int IntKind.i64).pr (K.int IntKind.i64)).st.sl.pr (K.int IntKind.i64))))).st.sl])], nx := 1 }
def L0.st {α : Type} (N : Nat) (x0 : (List (BA × List (Int × Int) × List (Int × Int) × List (Int × Int) × Int))) (x1 : Int) (φ : (Int → Option α)) (x2 : Int) (k0 : (Bool → Option α)) (k1 : Option α) : Option α :=
 cond (decide (x2 < x1)) (cond (decide (0 ≤ x2) && decide (x2 < (↑x0.length : Int))) (cond (decide (0 < (↑(List.length (x0.getD x2.toNat (eBA, [], [], [], 0)).snd.snd.snd.fst) : Int))) (k0 (false)) (cond ((x0.getD x2.toNat (eBA, [], [], [], 0)).snd.snd.snd.snd != 0) (k0 (false)) (φ (IntKind.i64.wrap (x2 + 1))))) (none)) (k1 )
def L0.f {α : Type} (N : Nat) (c0 : (List (BA × List (Int × Int) × List (Int × Int) × List (Int × Int) × Int))) (c1 : Int) : Nat → Int → (Bool → Option α) → Option α → Option α
 | 0, _, _, _ => none
 | n + 1, d0, k0, k1 => L0.st N c0 c1 (fun e0 => L0.f N c0 c1 n e0 k0 k1) d0 k0 k1
def L0.up (d : L0.sh.T) (e0 : Int) : L0.sh.T := (((), (d.1.2.1, (d.1.2.2.1, (e0, ())))), ((d.2.1.1, (d.2.1.2.1, (d.2.1.2.2.1, ()))), ()))
def L0.k0 {α : Type} (d : L0.sh.T) (K : Cont α) : (Bool → Option α) := fun y0 => K (Exit.ret) (L0.x0.enc (((), (y0, ())), ((d.2.1.1, (d.2.1.2.1, (d.2.1.2.2.1, ()))), ())))
def L0.k1 {α : Type} (d : L0.sh.T) (K : Cont α) : Option α := K (Exit.exit 0) (L0.x1.enc (((), ((), ())), ((d.2.1.1, (d.2.1.2.1, (d.2.1.2.2.1, ()))), ())))
def L0.F {α : Type} (N : Nat) (d : L0.sh.T) (K : Cont α) : Option α := L0.f N d.1.2.1 d.1.2.2.1 N d.1.2.2.2.1 (L0.k0 d K) (L0.k1 d K)
def L1.sh : Sh := { sl := [(1, SV.a (SA.fx (Atom.box 0 0))), (25, SV.a (SA.d (K.str.pr ((K.int IntKind.i64).pr (K.int IntKind.i64))).st.sl)), (26, SV.a (SA.d (K.int IntKind.i64))), (27, SV.a (SA.d (K.int IntKind.i64)))], os := [(0, SO.box [SA.d K.str, SA.d (K.str.pr ((K.int IntKind.i64).pr (K.int IntKind.i64))).st.sl, SA.d (K.str.pr (((K.int IntKind.i64).pr (K.int IntKind.i64)).st.sl.pr (((K.int IntKind.i64).pr (K.int IntKind.i64)).st.sl.pr (((K.int IntKind.i64).pr (K.int IntKind.i64)).st.sl.pr (K.int IntKind.i64))))).st.sl])], nx := 1 }
def L1.x0 : Sh := { sl := [(1, SV.a (SA.fx (Atom.box 0 0))), (2, SV.a (SA.d K.bool))], os := [(0, SO.box [SA.d K.str, SA.d (K.str.pr ((K.int IntKind.i64).pr (K.int IntKind.i64))).st.sl, SA.d (K.str.pr (((K.int IntKind.i64).pr (K.int IntKind.i64)).st.sl.pr (((K.int IntKind.i64).pr (K.int IntKind.i64)).st.sl.pr (((K.int IntKind.i64).pr (K.int IntKind.i64)).st.sl.pr (K.int IntKind.i64))))).st.sl])], nx := 1 }
def L1.x1 : Sh := { sl := [(1, SV.a (SA.fx (Atom.box 0 0))), (2, SV.j)], os := [(0, SO.box [SA.d K.str, SA.d (K.str.pr ((K.int IntKind.i64).pr (K.int IntKind.i64))).st.sl, SA.d (K.str.pr (((K.int IntKind.i64).pr (K.int IntKind.i64)).st.sl.pr (((K.int IntKind.i64).pr (K.int IntKind.i64)).st.sl.pr (((K.int IntKind.i64).pr (K.int IntKind.i64)).st.sl.pr (K.int IntKind.i64))))).st.sl])], nx := 1 }
def L1.st {α : Type} (N : Nat) (x7 : (List (BA × Int × Int))) (x8 : Int) (φ : (Int → Option α)) (x9 : Int) (k0 : (Bool → Option α)) (k1 : Option α) : Option α :=
 cond (decide (x9 < x8)) (cond (decide (0 ≤ x9) && decide (x9 < (↑x7.length : Int))) (cond ((x7.getD x9.toNat (eBA, 0, 0)).snd.snd != 0) (k0 (false)) (φ (IntKind.i64.wrap (x9 + 1)))) (none)) (k1 )
def L1.f {α : Type} (N : Nat) (c0 : (List (BA × Int × Int))) (c1 : Int) : Nat → Int → (Bool → Option α) → Option α → Option α
 | 0, _, _, _ => none
 | n + 1, d0, k0, k1 => L1.st N c0 c1 (fun e0 => L1.f N c0 c1 n e0 k0 k1) d0 k0 k1
def L1.up (d : L1.sh.T) (e0 : Int) : L1.sh.T := (((), (d.1.2.1, (d.1.2.2.1, (e0, ())))), ((d.2.1.1, (d.2.1.2.1, (d.2.1.2.2.1, ()))), ()))
def L1.k0 {α : Type} (d : L1.sh.T) (K : Cont α) : (Bool → Option α) := fun y0 => K (Exit.ret) (L1.x0.enc (((), (y0, ())), ((d.2.1.1, (d.2.1.2.1, (d.2.1.2.2.1, ()))), ())))
def L1.k1 {α : Type} (d : L1.sh.T) (K : Cont α) : Option α := K (Exit.exit 2) (L1.x1.enc (((), ((), ())), ((d.2.1.1, (d.2.1.2.1, (d.2.1.2.2.1, ()))), ())))
def L1.F {α : Type} (N : Nat) (d : L1.sh.T) (K : Cont α) : Option α := L1.f N d.1.2.1 d.1.2.2.1 N d.1.2.2.2.1 (L1.k0 d K) (L1.k1 d K)
def ents74 {α : Type} (N : Nat) : List (SmE α) := [⟨0, 50, 2, [⟨L0.sh, L0.F N⟩]⟩, ⟨0, 50, 8, [⟨L1.sh, L1.F N⟩]⟩]
def C (N : Nat) : Ctx := ⟨tys, [(85, net_valid.fent)], [], N⟩
def L0.B {α : Type} (N : Nat) : Env → Cont α → Option α := evC tys 37 0 (evCall (C N) 50) (evCallQ (C N)) N an74 (smL (ents74 N) 0 50) (loopOf 2 Tryd.f74)
theorem L0.r {α : Type} (N : Nat) (φ : Env → Option α) (K : Cont α) (d : L0.sh.T) : L0.B N (L0.sh.enc d) (contL φ K (Env.norm 0 [1, 8, 9, 10]) (Env.norm 0 [1, 2])) = L0.st N d.1.2.1 d.1.2.2.1 (fun e0 => φ (L0.sh.enc (L0.up d e0))) d.1.2.2.2.1 (L0.k0 d K) (L0.k1 d K) := by kernel_rfl
theorem L0.e {α : Type} (N : Nat) : ∀ (n : Nat) (d : L0.sh.T) (K : Cont α), evL (L0.B N) (Env.norm 0 [1, 8, 9, 10]) (Env.norm 0 [1, 2]) n (L0.sh.enc d) K = L0.f N d.1.2.1 d.1.2.2.1 n d.1.2.2.2.1 (L0.k0 d K) (L0.k1 d K)
 | 0, d, K => rfl
 | n + 1, d, K => evL_contL.trans ((L0.r N _ K d).trans (congrArg (fun φ => L0.st N d.1.2.1 d.1.2.2.1 φ d.1.2.2.2.1 (L0.k0 d K) (L0.k1 d K)) (funext fun e0 => L0.e N n (L0.up d e0) K)))
def L1.B {α : Type} (N : Nat) : Env → Cont α → Option α := evC tys 37 0 (evCall (C N) 50) (evCallQ (C N)) N an74 (smL (ents74 N) 0 50) (loopOf 8 Tryd.f74)
theorem L1.r {α : Type} (N : Nat) (φ : Env → Option α) (K : Cont α) (d : L1.sh.T) : L1.B N (L1.sh.enc d) (contL φ K (Env.norm 0 [1, 25, 26, 27]) (Env.norm 0 [1, 2])) = L1.st N d.1.2.1 d.1.2.2.1 (fun e0 => φ (L1.sh.enc (L1.up d e0))) d.1.2.2.2.1 (L1.k0 d K) (L1.k1 d K) := by kernel_rfl
theorem L1.e {α : Type} (N : Nat) : ∀ (n : Nat) (d : L1.sh.T) (K : Cont α), evL (L1.B N) (Env.norm 0 [1, 25, 26, 27]) (Env.norm 0 [1, 2]) n (L1.sh.enc d) K = L1.f N d.1.2.1 d.1.2.2.1 n d.1.2.2.2.1 (L1.k0 d K) (L1.k1 d K)
 | 0, d, K => rfl
 | n + 1, d, K => evL_contL.trans ((L1.r N _ K d).trans (congrArg (fun φ => L1.st N d.1.2.1 d.1.2.2.1 φ d.1.2.2.2.1 (L1.k0 d K) (L1.k1 d K)) (funext fun e0 => L1.e N n (L1.up d e0) K)))
theorem ents74_ok {α : Type} (N : Nat) : AllP (EntOk (C N) Tryd.f74 an74 (ents74 (α := α) N)) (ents74 N) := ⟨entOk_of (b0 := loopOf 2 Tryd.f74) (li0 := [1, 8, 9, 10]) (lx0 := [1, 2]) (by kernel_rfl) (by kernel_rfl) ⟨fun d K => L0.e N N d K, trivial⟩, entOk_of (b0 := loopOf 8 Tryd.f74) (li0 := [1, 25, 26, 27]) (lx0 := [1, 2]) (by kernel_rfl) (by kernel_rfl) ⟨fun d K => L1.e N N d K, trivial⟩, trivial⟩
def g {α : Type} (N : Nat) (a0 : BA × List (BA × Int × Int) × List (BA × List (Int × Int) × List (Int × Int) × List (Int × Int) × Int)) (kr : (Bool → Option α)) : Option α :=
 L0.f N (a0.snd.snd) ((↑(List.length a0.snd.snd) : Int)) N (0) (fun x6 => kr (x6)) (L1.f N (a0.snd.fst) ((↑(List.length a0.snd.fst) : Int)) N (0) (fun x13 => kr (x13)) (kr ((net_valid.spec a0))))
theorem eq (N : Nat) (a0 : BA × List (BA × Int × Int) × List (BA × List (Int × Int) × List (Int × Int) × List (Int × Int) × Int)) : evF (C N) 50 Tryd.f74 an74 (smL (ents74 N) 0 50) [((.bool : K), false)] [⟨.st (.pr (.str) (.pr (.sl (.st (.pr (.str) (.pr (.int .i64) (.int .i64))))) (.sl (.st (.pr (.str) (.pr (.sl (.st (.pr (.int .i64) (.int .i64)))) (.pr (.sl (.st (.pr (.int .i64) (.int .i64)))) (.pr (.sl (.st (.pr (.int .i64) (.int .i64)))) (.int .i64))))))))), a0⟩] = g N a0 (fun r0 => some [.dat (K.bool) r0]) := by kernel_rfl
theorem ctxOk (N : Nat) : CtxOk P (C N) := ctxOk_of tysOk mixedOk ⟨net_valid.ok, trivial⟩ trivial
theorem calls (N : Nat) (a0 : BA × List (BA × Int × Int) × List (BA × List (Int × Int) × List (Int × Int) × List (Int × Int) × Int)) {rs : List Rs} (h : g N a0 (fun r0 => some [.dat (K.bool) r0]) = some rs) : CallsTo P 74 [⟨.st (.pr (.str) (.pr (.sl (.st (.pr (.str) (.pr (.int .i64) (.int .i64))))) (.sl (.st (.pr (.str) (.pr (.sl (.st (.pr (.int .i64) (.int .i64)))) (.pr (.sl (.st (.pr (.int .i64) (.int .i64)))) (.pr (.sl (.st (.pr (.int .i64) (.int .i64)))) (.int .i64))))))))), a0⟩] rs := evF_calls' (ctxOk N) (by rfl) (ents74_ok N) ((eq N a0).trans h)
def L0.l {α : Type} (N : Nat) (x0 : (List (BA × List (Int × Int) × List (Int × Int) × List (Int × Int) × Int))) (k0 : (Bool → Option α)) (k1 : Option α) : List (BA × List (Int × Int) × List (Int × Int) × List (Int × Int) × Int) → Int → Option α
 | [], x2 => k1 
 | x :: l, x2 => (cond (decide (0 < (↑(List.length x.snd.snd.snd.fst) : Int))) (k0 (false)) (cond (x.snd.snd.snd.snd != 0) (k0 (false)) (L0.l N x0 k0 k1 l (x2 + 1))))
theorem L0.rng {α : Type} {N : Nat} (x0 : (List (BA × List (Int × Int) × List (Int × Int) × List (Int × Int) × Int))) (hl : x0.length ≤ maxLen) (k0 : (Bool → Option α)) (k1 : Option α) : ∀ (n j : Nat), x0.length < n + j → j ≤ x0.length → L0.f N x0 (x0.length : Int) n (j : Int) k0 k1 = L0.l N x0 k0 k1 (x0.drop j) (j : Int) :=
 rng0 x0 hl (fun n i => L0.f N x0 (x0.length : Int) n i k0 k1) (fun l i => L0.l N x0 k0 k1 l i) (fun n j hj h ih => by simp only [L0.f, L0.st, L0.l, h.a, h.b, h.c, h.d, h.e, Bool.true_and, Bool.and_true, Bool.and_self, cond_true, ih] <;> rfl) (fun n j h => by simp only [L0.f, L0.st, L0.l, h, cond_false])
def L1.l {α : Type} (N : Nat) (x7 : (List (BA × Int × Int))) (k0 : (Bool → Option α)) (k1 : Option α) : List (BA × Int × Int) → Int → Option α
 | [], x9 => k1 
 | x :: l, x9 => (cond (x.snd.snd != 0) (k0 (false)) (L1.l N x7 k0 k1 l (x9 + 1)))
theorem L1.rng {α : Type} {N : Nat} (x7 : (List (BA × Int × Int))) (hl : x7.length ≤ maxLen) (k0 : (Bool → Option α)) (k1 : Option α) : ∀ (n j : Nat), x7.length < n + j → j ≤ x7.length → L1.f N x7 (x7.length : Int) n (j : Int) k0 k1 = L1.l N x7 k0 k1 (x7.drop j) (j : Int) :=
 rng0 x7 hl (fun n i => L1.f N x7 (x7.length : Int) n i k0 k1) (fun l i => L1.l N x7 k0 k1 l i) (fun n j hj h ih => by simp only [L1.f, L1.st, L1.l, h.a, h.b, h.c, h.d, h.e, Bool.true_and, Bool.and_true, Bool.and_self, cond_true, ih] <;> rfl) (fun n j h => by simp only [L1.f, L1.st, L1.l, h, cond_false])
end net_Plain
theorem net_Plain.L0.law {α : Type} {N : Nat} (x0 : (List (BA × List (Int × Int) × List (Int × Int) × List (Int × Int) × Int))) (k0 : (Bool → Option α)) (k1 : Option α) : ∀ l j, net_Plain.L0.l N x0 k0 k1 l j = cond (l.all fun t => List.isEmpty t.2.2.2.1 && t.2.2.2.2 == 0) k1 (k0 false)
 | [], j => rfl
 | x :: l, j => by
  rw [net_Plain.L0.l, net_Plain.L0.law, List.all_cons]
  rcases x with ⟨a, b, c, d, e⟩
  cases d with
  | nil =>
   simp only [List.length_nil, List.isEmpty_nil, Bool.true_and, bne]
   cases (e == 0) <;> rfl
  | cons y d =>
   have : decide (0 < (((y :: d).length : Nat) : Int)) = true := decide_eq_true (by simp)
   rw [this]
   rfl
theorem net_Plain.L1.law {α : Type} {N : Nat} (x7 : (List (BA × Int × Int))) (k0 : (Bool → Option α)) (k1 : Option α) : ∀ l j, net_Plain.L1.l N x7 k0 k1 l j = cond (l.all fun p => p.2.2 == 0) k1 (k0 false)
 | [], j => rfl
 | x :: l, j => by
  rw [net_Plain.L1.l, net_Plain.L1.law, List.all_cons]
  simp only [bne]
  cases (x.2.2 == 0) <;> rfl
theorem net_Plain.law {α : Type} {N : Nat} (hN : 18446744073709551616 ≤ N) (a0 : BA × (List (BA × Int × Int)) × List (BA × (List (Int × Int)) × (List (Int × Int)) × (List (Int × Int)) × Int)) (w0 : K.wf (.st (.pr (.str) (.pr (.sl (.st (.pr (.str) (.pr (.int .i64) (.int .i64))))) (.sl (.st (.pr (.str) (.pr (.sl (.st (.pr (.int .i64) (.int .i64)))) (.pr (.sl (.st (.pr (.int .i64) (.int .i64)))) (.pr (.sl (.st (.pr (.int .i64) (.int .i64)))) (.int .i64)))))))))) a0) (kr : (Bool → Option α)) : net_Plain.g N a0 kr = kr (net_Plain.spec a0) := by
 unfold net_Plain.g net_Plain.spec plainN
 refine (net_Plain.L0.rng (N := N) _ (w0.2.2.1) _ _ N 0  (by have := le_fuel (w0.2.2.1) hN; omega) (Nat.zero_le _)).trans ?_
 rw [List.drop_zero, net_Plain.L0.law]
 cases (List.all a0.2.2 _)
 ·
  rfl
 simp only [cond_true, Bool.true_and]
 refine (net_Plain.L1.rng (N := N) _ (w0.2.1.1) _ _ N 0  (by have := le_fuel (w0.2.1.1) hN; omega) (Nat.zero_le _)).trans ?_
 rw [List.drop_zero, net_Plain.L1.law]
 cases (List.all a0.2.1 _) <;> rfl
theorem net_Plain.ok : FentOk P 74 net_Plain.fent := fentOk_of (by kernel_rfl) fun ds hk => by
 obtain ⟨a0, l0, rfl, h0⟩ := ds_cons hk
 obtain rfl := ds0 h0
 exact ⟨true, [.dat (.bool) (net_Plain.spec a0)], fun h hw => net_Plain.calls 18446744073709551616 a0 (net_Plain.law (Nat.le_refl _) a0 hw.1 _), fun α k => rfl⟩
end Go.VI
namespace Go.VI
open Go Go.Proofs
namespace pl12_lives
def an12 : Ann := []
def an19 : Ann := []
def an21 : Ann := [(8, [1, 2, 5, 30, 31, 32], [1, 2, 5]), (13, [1, 2, 5, 46, 47, 48], [2, 5]), (17, [1, 2, 5, 8, 10, 46, 47, 48, 57, 58, 59], [1, 2, 5, 10, 46, 47, 48])]
def an23 : Ann := [(7, [1, 2, 3, 6, 9, 10, 32, 33, 34], [2, 3, 6, 9, 10]), (18, [2, 6, 9, 13, 65, 66, 67], [6, 9])]
def an25 : Ann := [(7, [2, 3, 4, 25, 26, 27], [2, 3, 4, 5])]
def an27 : Ann := [(12, [2, 3, 4, 8, 9, 54, 55, 56], [2, 3, 4, 5, 8, 9]), (20, [4, 8, 9, 12, 76, 77, 78], [4, 5, 9])]
def an33 : Ann := []
def an35 : Ann := [(3, [1, 2, 3, 6, 7, 16, 17, 18], [2, 3, 6, 7]), (8, [2, 6, 7, 34, 35, 36], [6, 7])]
def an48 : Ann := []
def an49 : Ann := []
def an50 : Ann := []
def an54 : Ann := []
def an59 : Ann := []
def an60 : Ann := []
def an61 : Ann := []
def an64 : Ann := []
def C : Ctx := ⟨tysD, [(13, tf_Complement.fent), (15, tf_Lift.fent), (38, tf_weight.fent), (53, net_Check.fent), (55, tf_Subnet_1.fent), (44, marking_Valid.fent), (65, tf_shift.fent), (72, tf_clone.fent), (74, net_Plain.fent), (62, net_Place.fent), (63, net_Trans.fent)], [(19, ⟨Tryd.f19, an19, noSm⟩), (21, ⟨Tryd.f21, an21, noSm⟩), (23, ⟨Tryd.f23, an23, noSm⟩), (25, ⟨Tryd.f25, an25, noSm⟩), (27, ⟨Tryd.f27, an27, noSm⟩), (33, ⟨Tryd.f33, an33, noSm⟩), (35, ⟨Tryd.f35, an35, noSm⟩), (48, ⟨Tryd.f48, an48, noSm⟩), (49, ⟨Tryd.f49, an49, noSm⟩), (50, ⟨Tryd.f50, an50, noSm⟩), (54, ⟨Tryd.f54, an54, noSm⟩), (59, ⟨Tryd.f59, an59, noSm⟩), (60, ⟨Tryd.f60, an60, noSm⟩), (61, ⟨Tryd.f61, an61, noSm⟩), (64, ⟨Tryd.f64, an64, noSm⟩)], 100000⟩
theorem ctxOk : CtxOk P C := ctxOk_of tysDOk mixedOk ⟨tf_Complement.ok, tf_Lift.ok, tf_weight.ok, net_Check.ok, tf_Subnet_1.ok, marking_Valid.ok, tf_shift.ok, tf_clone.ok, net_Plain.ok, net_Place.ok, net_Trans.ok, trivial⟩ ⟨inlOk_no (by rfl) (by kernel_rfl), inlOk_no (by rfl) (by kernel_rfl), inlOk_no (by rfl) (by kernel_rfl), inlOk_no (by rfl) (by kernel_rfl), inlOk_no (by rfl) (by kernel_rfl), inlOk_no (by rfl) (by kernel_rfl), inlOk_no (by rfl) (by kernel_rfl), inlOk_no (by rfl) (by kernel_rfl), inlOk_no (by rfl) (by kernel_rfl), inlOk_no (by rfl) (by kernel_rfl), inlOk_no (by rfl) (by kernel_rfl), inlOk_no (by rfl) (by kernel_rfl), inlOk_no (by rfl) (by kernel_rfl), inlOk_no (by rfl) (by kernel_rfl), inlOk_no (by rfl) (by kernel_rfl), trivial⟩
theorem runs : evF C 60 Tryd.f12 an12 (fun _ => none) [(.bool, false)] [] = some [.dat .bool true] := by kernel_rfl
theorem calls : CallsTo P 12 [] [.dat .bool true] := evF_closed ctxOk (by rfl) runs
end pl12_lives
theorem pl12_lives.ok : FentOk P 12 pl12_lives.fent := fentOk_of (by kernel_rfl) fun ds hk => by
 obtain rfl := ds0 hk
 exact ⟨true, [.dat .bool true], fun _ _ => pl12_lives.calls, fun α k => rfl⟩
end Go.VI
namespace Go.VI
open Go Go.Proofs
namespace pf12_bounded
def an41 : Ann := [(3, [1, 3, 4], [3])]
def L0.sh : Sh := { sl := [(1, SV.a (SA.fx (Atom.box 0 0))), (3, SV.a (SA.fx (Atom.sl 1 0 none))), (4, SV.a (SA.d (K.int IntKind.i64)))], os := [(0, SO.box [SA.d K.str, SA.d (K.str.pr ((K.int IntKind.i64).pr (K.int IntKind.i64))).st.sl, SA.d (K.str.pr (((K.int IntKind.i64).pr (K.int IntKind.i64)).st.sl.pr (((K.int IntKind.i64).pr (K.int IntKind.i64)).st.sl.pr (((K.int IntKind.i64).pr (K.int IntKind.i64)).st.sl.pr (K.int IntKind.i64))))).st.sl]), (1, SO.row (K.int IntKind.i64) 0)], nx := 2 }
def L0.x0 : Sh := { sl := [(3, SV.a (SA.fx (Atom.sl 0 0 none)))], os := [(0, SO.row (K.int IntKind.i64) 0)], nx := 1 }
def L0.st {α : Type} (N : Nat) (x2 : (List (BA × Int × Int))) (φ : (Int → (List Int) → Option α)) (x0 : Int) (x4 : (List Int)) (k0 : ((List Int) → Option α)) : Option α :=
 cond (decide (x0 < (↑x2.length : Int))) (cond (decide (0 ≤ x0) && decide (x0 < (↑x2.length : Int))) (cond (decide (0 < (x2.getD x0.toNat (eBA, 0, 0)).snd.snd)) (cond ((x4.length + 1).ble mxl) (φ (IntKind.i64.wrap (x0 + 1)) (x4 ++ [x0])) (none)) (φ (IntKind.i64.wrap (x0 + 1)) (x4))) (none)) (k0 (x4))
def L0.f {α : Type} (N : Nat) (c1 : (List (BA × Int × Int))) : Nat → Int → (List Int) → ((List Int) → Option α) → Option α
 | 0, _, _, _ => none
 | n + 1, d0, d1, k0 => L0.st N c1 (fun e0 e1 => L0.f N c1 n e0 e1 k0) d0 d1 k0
def L0.up (d : L0.sh.T) (e0 : Int) (e1 : (List Int)) : L0.sh.T := (((), ((), (e0, ()))), ((d.2.1.1, (d.2.1.2.1, (d.2.1.2.2.1, ()))), (e1, ())))
def L0.k0 {α : Type} (d : L0.sh.T) (K : Cont α) : ((List Int) → Option α) := fun y0 => K (Exit.exit 0) (L0.x0.enc (((), ()), (y0, ())))
def L0.F {α : Type} (N : Nat) (d : L0.sh.T) (K : Cont α) : Option α := L0.f N d.2.1.2.1 N d.1.2.2.1 d.2.2.1 (L0.k0 d K)
def ents41 {α : Type} (N : Nat) : List (SmE α) := [⟨0, 50, 3, [⟨L0.sh, L0.F N⟩]⟩]
def C (N : Nat) : Ctx := ⟨tys, [], [], N⟩
def L0.B {α : Type} (N : Nat) : Env → Cont α → Option α := evC tys 24 0 (evCall (C N) 50) (evCallQ (C N)) N an41 (smL (ents41 N) 0 50) (loopOf 3 Tryd.f41)
theorem L0.r {α : Type} (N : Nat) (φ : Env → Option α) (K : Cont α) (d : L0.sh.T) : L0.B N (L0.sh.enc d) (contL φ K (Env.norm 0 [1, 3, 4]) (Env.norm 0 [3])) = L0.st N d.2.1.2.1 (fun e0 e1 => φ (L0.sh.enc (L0.up d e0 e1))) d.1.2.2.1 d.2.2.1 (L0.k0 d K) := by kernel_rfl
theorem L0.e {α : Type} (N : Nat) : ∀ (n : Nat) (d : L0.sh.T) (K : Cont α), evL (L0.B N) (Env.norm 0 [1, 3, 4]) (Env.norm 0 [3]) n (L0.sh.enc d) K = L0.f N d.2.1.2.1 n d.1.2.2.1 d.2.2.1 (L0.k0 d K)
 | 0, d, K => rfl
 | n + 1, d, K => evL_contL.trans ((L0.r N _ K d).trans (congrArg (fun φ => L0.st N d.2.1.2.1 φ d.1.2.2.1 d.2.2.1 (L0.k0 d K)) (funext fun e0 => funext fun e1 => L0.e N n (L0.up d e0 e1) K)))
theorem ents41_ok {α : Type} (N : Nat) : AllP (EntOk (C N) Tryd.f41 an41 (ents41 (α := α) N)) (ents41 N) := ⟨entOk_of (b0 := loopOf 3 Tryd.f41) (li0 := [1, 3, 4]) (lx0 := [3]) (by kernel_rfl) (by kernel_rfl) ⟨fun d K => L0.e N N d K, trivial⟩, trivial⟩
def g {α : Type} (N : Nat) (a0 : BA × List (BA × Int × Int) × List (BA × List (Int × Int) × List (Int × Int) × List (Int × Int) × Int)) (kr : ((List Int) → Option α)) : Option α :=
 L0.f N (a0.snd.fst) N (0) ([]) (fun x5 => kr (x5))
theorem eq (N : Nat) (a0 : BA × List (BA × Int × Int) × List (BA × List (Int × Int) × List (Int × Int) × List (Int × Int) × Int)) : evF (C N) 50 Tryd.f41 an41 (smL (ents41 N) 0 50) [(((.int .i64) : K), true)] [⟨.st (.pr (.str) (.pr (.sl (.st (.pr (.str) (.pr (.int .i64) (.int .i64))))) (.sl (.st (.pr (.str) (.pr (.sl (.st (.pr (.int .i64) (.int .i64)))) (.pr (.sl (.st (.pr (.int .i64) (.int .i64)))) (.pr (.sl (.st (.pr (.int .i64) (.int .i64)))) (.int .i64))))))))), a0⟩] = g N a0 (fun r0 => some [.own (K.int IntKind.i64) r0]) := by kernel_rfl
theorem ctxOk (N : Nat) : CtxOk P (C N) := ctxOk_of tysOk mixedOk trivial trivial
theorem calls (N : Nat) (a0 : BA × List (BA × Int × Int) × List (BA × List (Int × Int) × List (Int × Int) × List (Int × Int) × Int)) {rs : List Rs} (h : g N a0 (fun r0 => some [.own (K.int IntKind.i64) r0]) = some rs) : CallsTo P 41 [⟨.st (.pr (.str) (.pr (.sl (.st (.pr (.str) (.pr (.int .i64) (.int .i64))))) (.sl (.st (.pr (.str) (.pr (.sl (.st (.pr (.int .i64) (.int .i64)))) (.pr (.sl (.st (.pr (.int .i64) (.int .i64)))) (.pr (.sl (.st (.pr (.int .i64) (.int .i64)))) (.int .i64))))))))), a0⟩] rs := evF_calls' (ctxOk N) (by rfl) (ents41_ok N) ((eq N a0).trans h)
def L0.l {α : Type} (N : Nat) (x2 : (List (BA × Int × Int))) (k0 : ((List Int) → Option α)) : List (BA × Int × Int) → Int → (List Int) → Option α
 | [], x0, x4 => k0 (x4)
 | x :: l, x0, x4 => (cond (decide (0 < x.snd.snd)) (cond ((x4.length + 1).ble mxl) (L0.l N x2 k0 l (x0 + 1) (x4 ++ [x0])) (none)) (L0.l N x2 k0 l (x0 + 1) (x4)))
theorem L0.rng {α : Type} {N : Nat} (x2 : (List (BA × Int × Int))) (hl : x2.length ≤ maxLen) (k0 : ((List Int) → Option α)) : ∀ (n j : Nat) (x4 : (List Int)), x2.length < n + j → j ≤ x2.length → L0.f N x2 n (j : Int) x4 k0 = L0.l N x2 k0 (x2.drop j) (j : Int) x4 :=
 rng1 x2 hl (fun n i x4 => L0.f N x2 n i x4 k0) (fun l i x4 => L0.l N x2 k0 l i x4) (fun n j hj h ih x4 => by simp only [L0.f, L0.st, L0.l, h.a, h.b, h.c, h.d, h.e, Bool.true_and, Bool.and_true, Bool.and_self, cond_true, ih] <;> rfl) (fun n j h x4 => by simp only [L0.f, L0.st, L0.l, h, cond_false])
end pf12_bounded
theorem pf12_bounded.L0.law {α : Type} {N : Nat} (x2 : (List (BA × Int × Int))) (k0 : ((List Int) → Option α)) : ∀ (l : List PlaceT) (j : Int) (acc : List Int), acc.length + l.length ≤ 1073741824 → pf12_bounded.L0.l N x2 k0 l j acc = k0 (acc ++ bndL j l)
 | [], j, acc, _ => by rw [pf12_bounded.L0.l, bndL, List.append_nil]
 | x :: l, j, acc, h => by
  simp only [List.length_cons] at h
  rw [pf12_bounded.L0.l, bndL]
  cases decide (0 < x.2.2)
  ·
   simp only [cond_false]
   rw [pf12_bounded.L0.law _ _ l _ _ (by omega)]
  ·
   simp only [cond_true]
   rw [ble1 _ (by omega), cond_true, pf12_bounded.L0.law _ _ l _ _ (by simp; omega), List.append_assoc]
   rfl
theorem pf12_bounded.law {α : Type} {N : Nat} (hN : 18446744073709551616 ≤ N) (a0 : BA × (List (BA × Int × Int)) × List (BA × (List (Int × Int)) × (List (Int × Int)) × (List (Int × Int)) × Int)) (w0 : K.wf (.st (.pr (.str) (.pr (.sl (.st (.pr (.str) (.pr (.int .i64) (.int .i64))))) (.sl (.st (.pr (.str) (.pr (.sl (.st (.pr (.int .i64) (.int .i64)))) (.pr (.sl (.st (.pr (.int .i64) (.int .i64)))) (.pr (.sl (.st (.pr (.int .i64) (.int .i64)))) (.int .i64)))))))))) a0) (hp : pf12_bounded.pre a0 = true) (kr : ((List Int) → Option α)) : pf12_bounded.g N a0 kr = kr (pf12_bounded.spec a0) := by
 unfold pf12_bounded.g pf12_bounded.spec
 have hb : a0.2.1.length ≤ 1073741824 := of_decide_eq_true hp
 refine (pf12_bounded.L0.rng (N := N) _ (w0.2.1.1) _ N 0 _ (by have := le_fuel (w0.2.1.1) hN; omega) (Nat.zero_le _)).trans ?_
 refine (pf12_bounded.L0.law _ _ _ _ _ (by simpa using hb)).trans ?_
 simp
theorem pf12_bounded.ok : FentOk P 41 pf12_bounded.fent := fentOk_of (by kernel_rfl) fun ds hk => by
 obtain ⟨a0, l0, rfl, h0⟩ := ds_cons hk
 obtain rfl := ds0 h0
 exact ⟨pf12_bounded.pre a0, [.own (.int .i64) (pf12_bounded.spec a0)], fun h hw => pf12_bounded.calls 18446744073709551616 a0 (pf12_bounded.law (Nat.le_refl _) a0 hw.1 h _), fun α k => rfl⟩
end Go.VI
namespace Go.VI
open Go Go.Proofs
namespace pf12_digits
def an42 : Ann := []
def ents42 {α : Type} (N : Nat) : List (SmE α) := []
def C (N : Nat) : Ctx := ⟨tys, [], [], N⟩
theorem ents42_ok {α : Type} (N : Nat) : AllP (EntOk (C N) Tryd.f42 an42 (ents42 (α := α) N)) (ents42 N) := trivial
def g {α : Type} (N : Nat) (a0 : Int) (kr : (BA → Option α)) : Option α :=
 cond (decide (a0 < 10)) (kr (bStr [IntKind.u8.wrap (IntKind.i64.wrap (48 + a0))])) (kr (bStr [IntKind.u8.wrap (IntKind.i64.wrap (48 + IntKind.i64.wrap (a0.tdiv 10))), IntKind.u8.wrap (IntKind.i64.wrap (48 + a0.tmod 10))]))
theorem eq (N : Nat) (a0 : Int) : evF (C N) 50 Tryd.f42 an42 (smL (ents42 N) 0 50) [((.str : K), false)] [⟨.int .i64, a0⟩] = g N a0 (fun r0 => some [.dat (K.str) r0]) := by kernel_rfl
theorem ctxOk (N : Nat) : CtxOk P (C N) := ctxOk_of tysOk mixedOk trivial trivial
theorem calls (N : Nat) (a0 : Int) {rs : List Rs} (h : g N a0 (fun r0 => some [.dat (K.str) r0]) = some rs) : CallsTo P 42 [⟨.int .i64, a0⟩] rs := evF_calls' (ctxOk N) (by rfl) (ents42_ok N) ((eq N a0).trans h)
end pf12_digits
theorem u8_small {x : Int} (h : 0 ≤ x ∧ x ≤ 255) : IntKind.u8.wrap x = x := by
 simp only [IntKind.wrap, IntKind.bits, IntKind.signed]
 simp
 omega
theorem pf12_digits.law {α : Type} {N : Nat} (hN : 18446744073709551616 ≤ N) (a0 : Int) (w0 : K.wf (.int .i64) a0) (hp : pf12_digits.pre a0 = true) (kr : (BA → Option α)) : pf12_digits.g N a0 kr = kr (pf12_digits.spec a0) := by
 unfold pf12_digits.pre at hp
 simp only [Bool.and_eq_true, decide_eq_true_eq] at hp
 unfold pf12_digits.g pf12_digits.spec digB
 by_cases h : a0 < 10
 ·
  rw [decide_eq_true h, cond_true, cond_true, wrap_i64 (inI_i64.2 (by omega)), u8_small (by omega)]
  unfold bStr
  rw [List.map_cons, List.map_nil, show (48 + a0).toNat = 48 + a0.toNat by omega]
 ·
  have h1 : a0.tdiv 10 = a0 / 10 := Int.tdiv_eq_ediv_of_nonneg hp.1
  have h2 : a0.tmod 10 = a0 % 10 := Int.tmod_eq_emod_of_nonneg hp.1
  rw [decide_eq_false h, cond_false, cond_false, h1, h2, wrap_i64 (inI_i64.2 (by omega : -9223372036854775808 ≤ a0 / 10 ∧ a0 / 10 ≤ 9223372036854775807)), wrap_i64 (inI_i64.2 (by omega)), wrap_i64 (inI_i64.2 (by omega)), u8_small (by omega), u8_small (by omega)]
  unfold bStr
  rw [List.map_cons, List.map_cons, List.map_nil, show (48 + a0 / 10).toNat = 48 + a0.toNat / 10 by omega, show (48 + a0 % 10).toNat = 48 + a0.toNat % 10 by omega]
theorem pf12_digits.ok : FentOk P 42 pf12_digits.fent := fentOk_of (by kernel_rfl) fun ds hk => by
 obtain ⟨a0, l0, rfl, h0⟩ := ds_cons hk
 obtain rfl := ds0 h0
 exact ⟨pf12_digits.pre a0, [.dat (.str) (pf12_digits.spec a0)], fun h hw => pf12_digits.calls 18446744073709551616 a0 (pf12_digits.law (Nat.le_refl _) a0 hw.1 h _), fun α k => rfl⟩
end Go.VI
namespace Go.VI
open Go Go.Proofs
namespace pf09_Name
def an80 : Ann := [(4, [0, 3], [2])]
def L0.sh : Sh := { sl := [(0, SV.a (SA.d K.str)), (3, SV.a (SA.d (K.int IntKind.i64)))], os := [], nx := 0 }
def L0.x0 : Sh := { sl := [(2, SV.a (SA.d K.bool))], os := [], nx := 0 }
def L0.x1 : Sh := { sl := [(2, SV.j)], os := [], nx := 0 }
def L0.st {α : Type} (N : Nat) (x0 : BA) (φ : (Int → Option α)) (x1 : Int) (k0 : (Bool → Option α)) (k1 : Option α) : Option α :=
 cond (decide (x1 < (↑x0.data.toList.length : Int))) (cond (decide (0 ≤ x1) && decide (x1 < (↑x0.data.toList.length : Int))) (cond (decide (97 ≤ bAt x0 x1.toNat)) (cond (decide (bAt x0 x1.toNat ≤ 122)) (cond (decide (48 ≤ bAt x0 x1.toNat)) (cond (decide (bAt x0 x1.toNat ≤ 57)) (φ (IntKind.i64.wrap (x1 + 1))) (φ (IntKind.i64.wrap (x1 + 1)))) (φ (IntKind.i64.wrap (x1 + 1)))) (cond (decide (48 ≤ bAt x0 x1.toNat)) (cond (decide (bAt x0 x1.toNat ≤ 57)) (cond (!bAt x0 x1.toNat == 95) (cond (x1 == 0) (k0 (false)) (φ (IntKind.i64.wrap (x1 + 1)))) (φ (IntKind.i64.wrap (x1 + 1)))) (cond (!bAt x0 x1.toNat == 95) (cond (!bAt x0 x1.toNat == 46) (k0 (false)) (cond (x1 == 0) (k0 (false)) (φ (IntKind.i64.wrap (x1 + 1))))) (φ (IntKind.i64.wrap (x1 + 1))))) (cond (!bAt x0 x1.toNat == 95) (cond (!bAt x0 x1.toNat == 46) (k0 (false)) (cond (x1 == 0) (k0 (false)) (φ (IntKind.i64.wrap (x1 + 1))))) (φ (IntKind.i64.wrap (x1 + 1)))))) (cond (decide (48 ≤ bAt x0 x1.toNat)) (cond (decide (bAt x0 x1.toNat ≤ 57)) (cond (!bAt x0 x1.toNat == 95) (cond (x1 == 0) (k0 (false)) (φ (IntKind.i64.wrap (x1 + 1)))) (φ (IntKind.i64.wrap (x1 + 1)))) (cond (!bAt x0 x1.toNat == 95) (cond (!bAt x0 x1.toNat == 46) (k0 (false)) (cond (x1 == 0) (k0 (false)) (φ (IntKind.i64.wrap (x1 + 1))))) (φ (IntKind.i64.wrap (x1 + 1))))) (cond (!bAt x0 x1.toNat == 95) (cond (!bAt x0 x1.toNat == 46) (k0 (false)) (cond (x1 == 0) (k0 (false)) (φ (IntKind.i64.wrap (x1 + 1))))) (φ (IntKind.i64.wrap (x1 + 1)))))) (none)) (k1 )
def L0.f {α : Type} (N : Nat) (c0 : BA) : Nat → Int → (Bool → Option α) → Option α → Option α
 | 0, _, _, _ => none
 | n + 1, d0, k0, k1 => L0.st N c0 (fun e0 => L0.f N c0 n e0 k0 k1) d0 k0 k1
def L0.up (d : L0.sh.T) (e0 : Int) : L0.sh.T := ((d.1.1, (e0, ())), ())
def L0.k0 {α : Type} (d : L0.sh.T) (K : Cont α) : (Bool → Option α) := fun y0 => K (Exit.ret) (L0.x0.enc ((y0, ()), ()))
def L0.k1 {α : Type} (d : L0.sh.T) (K : Cont α) : Option α := K (Exit.exit 0) (L0.x1.enc (((), ()), ()))
def L0.F {α : Type} (N : Nat) (d : L0.sh.T) (K : Cont α) : Option α := L0.f N d.1.1 N d.1.2.1 (L0.k0 d K) (L0.k1 d K)
def ents80 {α : Type} (N : Nat) : List (SmE α) := [⟨0, 50, 4, [⟨L0.sh, L0.F N⟩]⟩]
def C (N : Nat) : Ctx := ⟨tys, [], [], N⟩
def L0.B {α : Type} (N : Nat) : Env → Cont α → Option α := evC tys 54 0 (evCall (C N) 50) (evCallQ (C N)) N an80 (smL (ents80 N) 0 50) (loopOf 4 Tryd.f80)
theorem L0.r {α : Type} (N : Nat) (φ : Env → Option α) (K : Cont α) (d : L0.sh.T) : L0.B N (L0.sh.enc d) (contL φ K (Env.norm 0 [0, 3]) (Env.norm 0 [2])) = L0.st N d.1.1 (fun e0 => φ (L0.sh.enc (L0.up d e0))) d.1.2.1 (L0.k0 d K) (L0.k1 d K) := by kernel_rfl
theorem L0.e {α : Type} (N : Nat) : ∀ (n : Nat) (d : L0.sh.T) (K : Cont α), evL (L0.B N) (Env.norm 0 [0, 3]) (Env.norm 0 [2]) n (L0.sh.enc d) K = L0.f N d.1.1 n d.1.2.1 (L0.k0 d K) (L0.k1 d K)
 | 0, d, K => rfl
 | n + 1, d, K => evL_contL.trans ((L0.r N _ K d).trans (congrArg (fun φ => L0.st N d.1.1 φ d.1.2.1 (L0.k0 d K) (L0.k1 d K)) (funext fun e0 => L0.e N n (L0.up d e0) K)))
theorem ents80_ok {α : Type} (N : Nat) : AllP (EntOk (C N) Tryd.f80 an80 (ents80 (α := α) N)) (ents80 N) := ⟨entOk_of (b0 := loopOf 4 Tryd.f80) (li0 := [0, 3]) (lx0 := [2]) (by kernel_rfl) (by kernel_rfl) ⟨fun d K => L0.e N N d K, trivial⟩, trivial⟩
def g {α : Type} (N : Nat) (a0 : BA) (kr : (Bool → Option α)) : Option α :=
 cond (decide ((↑a0.data.toList.length : Int) < 1)) (kr (false)) (cond (decide (16 < (↑a0.data.toList.length : Int))) (kr (false)) (L0.f N (a0) N (0) (fun x2 => kr (x2)) (kr (true))))
theorem eq (N : Nat) (a0 : BA) : evF (C N) 50 Tryd.f80 an80 (smL (ents80 N) 0 50) [((.bool : K), false)] [⟨.str, a0⟩] = g N a0 (fun r0 => some [.dat (K.bool) r0]) := by kernel_rfl
theorem ctxOk (N : Nat) : CtxOk P (C N) := ctxOk_of tysOk mixedOk trivial trivial
theorem calls (N : Nat) (a0 : BA) {rs : List Rs} (h : g N a0 (fun r0 => some [.dat (K.bool) r0]) = some rs) : CallsTo P 80 [⟨.str, a0⟩] rs := evF_calls' (ctxOk N) (by rfl) (ents80_ok N) ((eq N a0).trans h)
end pf09_Name
theorem rname_tree {α : Type} (b1 b2 b3 b4 b5 b6 b7 : Bool) (p k : Option α) :
  cond b1 (cond b2 (cond b3 (cond b4 p p) p) (cond b3 (cond b4 (cond (!b5) (cond b7 k p) p) (cond (!b5) (cond (!b6) k (cond b7 k p)) p)) (cond (!b5) (cond (!b6) k (cond b7 k p)) p))) (cond b3 (cond b4 (cond (!b5) (cond b7 k p) p) (cond (!b5) (cond (!b6) k (cond b7 k p)) p)) (cond (!b5) (cond (!b6) k (cond b7 k p)) p))
   = cond (((b1 && b2) || b5) || (!b7 && ((b3 && b4) || b6))) p k := by
 cases b1 <;> cases b2 <;> cases b3 <;> cases b4 <;> cases b5 <;> cases b6 <;> cases b7 <;> rfl
theorem pf09_Name.L0.law {α : Type} {N : Nat} (s : BA) (hs : s.data.toList.length ≤ 16) (k0 : Bool → Option α) (k1 : Option α) : ∀ (n pos : Nat), s.data.toList.length < n + pos → pos ≤ s.data.toList.length →
  pf09_Name.L0.f N s n (pos : Int) k0 k1 = cond (chkFrom pos (s.data.toList.drop pos)) k1 (k0 false)
 | 0, pos, h, hp => absurd h (by omega)
 | n + 1, pos, h, hp => by
  rw [pf09_Name.L0.f, pf09_Name.L0.st]
  by_cases hlt : pos < s.data.toList.length
  ·
   have hb : bAt s (Int.toNat (pos : Int)) = ((s.data.toList[pos]).toNat : Int) := by
    unfold bAt
    rw [Int.toNat_natCast, getD_n hlt]
   have hw : IntKind.i64.wrap ((pos : Int) + 1) = ((pos + 1 : Nat) : Int) := by rw [wrap_i64 (inI_i64.2 (by omega))]; rfl
   rw [d_lt hlt, d_0, Bool.and_self, cond_true, cond_true, List.drop_eq_getElem_cons hlt, chkFrom, hb, hw, rname_tree, pf09_Name.L0.law s hs k0 k1 n (pos + 1) (by omega) (by omega)]
   have e1 : decide ((97 : Int) ≤ (((s.data.toList[pos]).toNat : Nat) : Int)) = Nat.ble 97 (s.data.toList[pos]).toNat := ble_le 97 _
   have e2 : decide ((((s.data.toList[pos]).toNat : Nat) : Int) ≤ 122) = Nat.ble (s.data.toList[pos]).toNat 122 := ble_le _ 122
   have e3 : ((((s.data.toList[pos]).toNat : Nat) : Int) == 95) = Nat.beq (s.data.toList[pos]).toNat 95 := beq_nat _ 95
   have e4 : decide ((48 : Int) ≤ (((s.data.toList[pos]).toNat : Nat) : Int)) = Nat.ble 48 (s.data.toList[pos]).toNat := ble_le 48 _
   have e5 : decide ((((s.data.toList[pos]).toNat : Nat) : Int) ≤ 57) = Nat.ble (s.data.toList[pos]).toNat 57 := ble_le _ 57
   have e6 : ((((s.data.toList[pos]).toNat : Nat) : Int) == 46) = Nat.beq (s.data.toList[pos]).toNat 46 := beq_nat _ 46
   have e7 : (!((pos : Int) == 0)) = decide (0 < pos) := by
    cases pos with
    | zero => rfl
    | succ q =>
     have : (((q + 1 : Nat) : Int) == 0) = false := by
      cases hq : (((q + 1 : Nat) : Int) == 0)
      ·
       rfl
      ·
       have := eq_of_beq hq; omega
     rw [this, decide_eq_true (Nat.succ_pos q)]
     rfl
   rw [e1, e2, e3, e4, e5, e6, e7]
   unfold letterB otherB
   cases (Nat.ble 97 (s.data.toList[pos]).toNat && Nat.ble (s.data.toList[pos]).toNat 122 || Nat.beq (s.data.toList[pos]).toNat 95) || (decide (0 < pos) && (Nat.ble 48 (s.data.toList[pos]).toNat && Nat.ble (s.data.toList[pos]).toNat 57 || Nat.beq (s.data.toList[pos]).toNat 46)) <;> rfl
  ·
   have e1 : decide ((pos : Int) < (s.data.toList.length : Int)) = false := decide_eq_false (by omega)
   rw [e1, cond_false, List.drop_eq_nil_of_le (by omega)]
   rfl
theorem pf09_Name.law {α : Type} {N : Nat} (hN : 18446744073709551616 ≤ N) (a0 : BA) (w0 : K.wf (.str) a0) (kr : (Bool → Option α)) : pf09_Name.g N a0 kr = kr (pf09_Name.spec a0) := by
 unfold pf09_Name.g pf09_Name.spec nameOk
 by_cases h1 : a0.data.toList.length < 1
 ·
  have e1 : decide ((a0.data.toList.length : Int) < 1) = true := decide_eq_true (by omega)
  have hn : a0.data.toList = [] := List.eq_nil_of_length_eq_zero (by omega)
  rw [e1, cond_true, hn]
  rfl
 ·
  have e1 : decide ((a0.data.toList.length : Int) < 1) = false := decide_eq_false (by omega)
  rw [e1, cond_false]
  by_cases h2 : 16 < a0.data.toList.length
  ·
   have e2 : decide (16 < (a0.data.toList.length : Int)) = true := decide_eq_true (by omega)
   have e3 : Nat.ble a0.data.toList.length 16 = false := by
    cases hb : Nat.ble a0.data.toList.length 16
    ·
     rfl
    ·
     have := Nat.le_of_ble_eq_true hb; omega
   rw [e2, cond_true, e3]
   rfl
  ·
   have e2 : decide (16 < (a0.data.toList.length : Int)) = false := decide_eq_false (by omega)
   rw [e2, cond_false, Nat.ble_eq_true_of_le (show a0.data.toList.length ≤ 16 by omega), Bool.true_and, nameL_chk _ (fun hc => h1 (by rw [hc]; exact Nat.one_pos))]
   refine (pf09_Name.L0.law (N := N) a0 (by omega) (fun x => kr x) (kr true) N 0 (by omega) (Nat.zero_le _)).trans ?_
   rw [List.drop_zero]
   cases chkFrom 0 a0.data.toList <;> rfl
theorem pf09_Name.ok : FentOk P 80 pf09_Name.fent := fentOk_of (by kernel_rfl) fun ds hk => by
 obtain ⟨a0, l0, rfl, h0⟩ := ds_cons hk
 obtain rfl := ds0 h0
 exact ⟨true, [.dat (.bool) (pf09_Name.spec a0)], fun h hw => pf09_Name.calls 18446744073709551616 a0 (pf09_Name.law (Nat.le_refl _) a0 hw.1 _), fun α k => rfl⟩
end Go.VI
namespace Go.VI
open Go Go.Proofs
namespace pf09_place
def an81 : Ann := [(5, [1, 2, 5, 6], [4, 5])]
def L0.sh : Sh := { sl := [(1, SV.a (SA.d (K.int IntKind.i64))), (2, SV.a (SA.fx (Atom.box 0 0))), (5, SV.a (SA.fx (Atom.box 1 0))), (6, SV.a (SA.d (K.int IntKind.i64)))], os := [(0, SO.box [SA.d K.str, SA.d (K.str.pr ((K.int IntKind.i64).pr (K.int IntKind.i64))).st.sl, SA.d (K.str.pr (((K.int IntKind.i64).pr (K.int IntKind.i64)).st.sl.pr (((K.int IntKind.i64).pr (K.int IntKind.i64)).st.sl.pr (((K.int IntKind.i64).pr (K.int IntKind.i64)).st.sl.pr (K.int IntKind.i64))))).st.sl]), (1, SO.box [SA.d K.str, SA.d (K.int IntKind.i64), SA.d (K.int IntKind.i64)])], nx := 2 }
def L0.x0 : Sh := { sl := [(4, SV.a (SA.d (K.int IntKind.i64))), (5, SV.a (SA.fx (Atom.box 0 0)))], os := [(0, SO.box [SA.d K.str, SA.d (K.int IntKind.i64), SA.d (K.int IntKind.i64)])], nx := 1 }
def L0.x1 : Sh := { sl := [(4, SV.j), (5, SV.a (SA.fx (Atom.box 0 0)))], os := [(0, SO.box [SA.d K.str, SA.d (K.int IntKind.i64), SA.d (K.int IntKind.i64)])], nx := 1 }
def L0.st {α : Type} (N : Nat) (x0 : Int) (x3 : (List (BA × Int × Int))) (x5 : BA) (φ : (Int → Option α)) (x1 : Int) (k0 : (Int → Option α)) (k1 : Option α) : Option α :=
 cond (decide (x1 < x0)) (cond (decide (0 ≤ x1) && decide (x1 < (↑x3.length : Int))) (cond (sEq (x3.getD x1.toNat (eBA, 0, 0)).fst x5) (k0 (6)) (φ (IntKind.i64.wrap (x1 + 1)))) (none)) (k1 )
def L0.f {α : Type} (N : Nat) (c0 : Int) (c2 : (List (BA × Int × Int))) (c4 : BA) : Nat → Int → (Int → Option α) → Option α → Option α
 | 0, _, _, _ => none
 | n + 1, d0, k0, k1 => L0.st N c0 c2 c4 (fun e0 => L0.f N c0 c2 c4 n e0 k0 k1) d0 k0 k1
def L0.up (d : L0.sh.T) (e0 : Int) : L0.sh.T := ((d.1.1, ((), ((), (e0, ())))), ((d.2.1.1, (d.2.1.2.1, (d.2.1.2.2.1, ()))), ((d.2.2.1.1, (d.2.2.1.2.1, (d.2.2.1.2.2.1, ()))), ())))
def L0.k0 {α : Type} (d : L0.sh.T) (K : Cont α) : (Int → Option α) := fun y0 => K (Exit.ret) (L0.x0.enc ((y0, ((), ())), ((d.2.2.1.1, (d.2.2.1.2.1, (d.2.2.1.2.2.1, ()))), ())))
def L0.k1 {α : Type} (d : L0.sh.T) (K : Cont α) : Option α := K (Exit.exit 0) (L0.x1.enc (((), ((), ())), ((d.2.2.1.1, (d.2.2.1.2.1, (d.2.2.1.2.2.1, ()))), ())))
def L0.F {α : Type} (N : Nat) (d : L0.sh.T) (K : Cont α) : Option α := L0.f N d.1.1 d.2.1.2.1 d.2.2.1.1 N d.1.2.2.2.1 (L0.k0 d K) (L0.k1 d K)
def ents81 {α : Type} (N : Nat) : List (SmE α) := [⟨0, 50, 5, [⟨L0.sh, L0.F N⟩]⟩]
def C (N : Nat) : Ctx := ⟨tys, [(80, pf09_Name.fent)], [], N⟩
def L0.B {α : Type} (N : Nat) : Env → Cont α → Option α := evC tys 58 0 (evCall (C N) 50) (evCallQ (C N)) N an81 (smL (ents81 N) 0 50) (loopOf 5 Tryd.f81)
theorem L0.r {α : Type} (N : Nat) (φ : Env → Option α) (K : Cont α) (d : L0.sh.T) : L0.B N (L0.sh.enc d) (contL φ K (Env.norm 0 [1, 2, 5, 6]) (Env.norm 0 [4, 5])) = L0.st N d.1.1 d.2.1.2.1 d.2.2.1.1 (fun e0 => φ (L0.sh.enc (L0.up d e0))) d.1.2.2.2.1 (L0.k0 d K) (L0.k1 d K) := by kernel_rfl
theorem L0.e {α : Type} (N : Nat) : ∀ (n : Nat) (d : L0.sh.T) (K : Cont α), evL (L0.B N) (Env.norm 0 [1, 2, 5, 6]) (Env.norm 0 [4, 5]) n (L0.sh.enc d) K = L0.f N d.1.1 d.2.1.2.1 d.2.2.1.1 n d.1.2.2.2.1 (L0.k0 d K) (L0.k1 d K)
 | 0, d, K => rfl
 | n + 1, d, K => evL_contL.trans ((L0.r N _ K d).trans (congrArg (fun φ => L0.st N d.1.1 d.2.1.2.1 d.2.2.1.1 φ d.1.2.2.2.1 (L0.k0 d K) (L0.k1 d K)) (funext fun e0 => L0.e N n (L0.up d e0) K)))
theorem ents81_ok {α : Type} (N : Nat) : AllP (EntOk (C N) Tryd.f81 an81 (ents81 (α := α) N)) (ents81 N) := ⟨entOk_of (b0 := loopOf 5 Tryd.f81) (li0 := [1, 2, 5, 6]) (lx0 := [4, 5]) (by kernel_rfl) (by kernel_rfl) ⟨fun d K => L0.e N N d K, trivial⟩, trivial⟩
def g {α : Type} (N : Nat) (a0 : BA × List (BA × Int × Int) × List (BA × List (Int × Int) × List (Int × Int) × List (Int × Int) × Int)) (a1 : Int) (kr : (Int → Option α)) : Option α :=
 cond (decide (0 ≤ a1) && decide (a1 < (↑(List.length a0.snd.fst) : Int))) (cond (!(pf09_Name.spec (List.getD a0.snd.fst a1.toNat (eBA, 0, 0)).fst)) (kr (5)) (L0.f N (a1) (a0.snd.fst) ((List.getD a0.snd.fst a1.toNat (eBA, 0, 0)).fst) N (0) (fun x8 => kr (x8)) (cond (decide ((List.getD a0.snd.fst a1.toNat (eBA, 0, 0)).snd.snd < 0)) (kr (1)) (cond (decide (1048576 < (List.getD a0.snd.fst a1.toNat (eBA, 0, 0)).snd.snd)) (kr (1)) (cond (decide ((List.getD a0.snd.fst a1.toNat (eBA, 0, 0)).snd.fst < 0)) (kr (10)) (cond (decide (1048576 < (List.getD a0.snd.fst a1.toNat (eBA, 0, 0)).snd.fst)) (kr (10)) (cond ((List.getD a0.snd.fst a1.toNat (eBA, 0, 0)).snd.snd != 0) (cond (decide ((List.getD a0.snd.fst a1.toNat (eBA, 0, 0)).snd.snd < (List.getD a0.snd.fst a1.toNat (eBA, 0, 0)).snd.fst)) (kr (10)) (kr (0))) (kr (0))))))))) (none)
theorem eq (N : Nat) (a0 : BA × List (BA × Int × Int) × List (BA × List (Int × Int) × List (Int × Int) × List (Int × Int) × Int)) (a1 : Int) : evF (C N) 50 Tryd.f81 an81 (smL (ents81 N) 0 50) [((.int .i64 : K), false)] [⟨.st (.pr (.str) (.pr (.sl (.st (.pr (.str) (.pr (.int .i64) (.int .i64))))) (.sl (.st (.pr (.str) (.pr (.sl (.st (.pr (.int .i64) (.int .i64)))) (.pr (.sl (.st (.pr (.int .i64) (.int .i64)))) (.pr (.sl (.st (.pr (.int .i64) (.int .i64)))) (.int .i64))))))))), a0⟩, ⟨.int .i64, a1⟩] = g N a0 a1 (fun r0 => some [.dat (K.int IntKind.i64) r0]) := by kernel_rfl
theorem ctxOk (N : Nat) : CtxOk P (C N) := ctxOk_of tysOk mixedOk ⟨pf09_Name.ok, trivial⟩ trivial
theorem calls (N : Nat) (a0 : BA × List (BA × Int × Int) × List (BA × List (Int × Int) × List (Int × Int) × List (Int × Int) × Int)) (a1 : Int) {rs : List Rs} (h : g N a0 a1 (fun r0 => some [.dat (K.int IntKind.i64) r0]) = some rs) : CallsTo P 81 [⟨.st (.pr (.str) (.pr (.sl (.st (.pr (.str) (.pr (.int .i64) (.int .i64))))) (.sl (.st (.pr (.str) (.pr (.sl (.st (.pr (.int .i64) (.int .i64)))) (.pr (.sl (.st (.pr (.int .i64) (.int .i64)))) (.pr (.sl (.st (.pr (.int .i64) (.int .i64)))) (.int .i64))))))))), a0⟩, ⟨.int .i64, a1⟩] rs := evF_calls' (ctxOk N) (by rfl) (ents81_ok N) ((eq N a0 a1).trans h)
def L0.l {α : Type} (N : Nat) (x3 : (List (BA × Int × Int))) (x5 : BA) (k0 : (Int → Option α)) (k1 : Option α) : List (BA × Int × Int) → Int → Option α
 | [], x1 => k1 
 | x :: l, x1 => (cond (sEq x.fst x5) (k0 (6)) (L0.l N x3 x5 k0 k1 l (x1 + 1)))
theorem L0.rng {α : Type} {N : Nat} (x3 : (List (BA × Int × Int))) (x5 : BA) (hl : x3.length ≤ maxLen) (k0 : (Int → Option α)) (k1 : Option α) : ∀ (n j : Nat), x3.length < n + j → j ≤ x3.length → L0.f N (x3.length : Int) x3 x5 n (j : Int) k0 k1 = L0.l N x3 x5 k0 k1 (x3.drop j) (j : Int) :=
 rng0 x3 hl (fun n i => L0.f N (x3.length : Int) x3 x5 n i k0 k1) (fun l i => L0.l N x3 x5 k0 k1 l i) (fun n j hj h ih => by simp only [L0.f, L0.st, L0.l, h.a, h.b, h.c, h.d, h.e, Bool.true_and, Bool.and_true, Bool.and_self, cond_true, ih] <;> rfl) (fun n j h => by simp only [L0.f, L0.st, L0.l, h, cond_false])
end pf09_place
theorem pf09_place.L0.law {α : Type} {N : Nat} (b : Nat) (ps : List (BA × Int × Int)) (hb : b ≤ ps.length) (hm : ps.length ≤ maxLen) (nm : BA) (k0 : Int → Option α) (k1 : Option α) : ∀ (n j : Nat), b < n + j → j ≤ b →
  pf09_place.L0.f N (b : Int) ps nm n (j : Int) k0 k1 = cond (((ps.take b).drop j).any fun p => sEq p.1 nm) (k0 6) k1
 | 0, j, h, hj => absurd h (by omega)
 | n + 1, j, h, hj => by
  rw [pf09_place.L0.f, pf09_place.L0.st]
  by_cases hlt : j < b
  ·
   have hjl : j < ps.length := by omega
   have ht : j < (ps.take b).length := by simp; omega
   rw [d_lt hlt, cond_true, d_0, d_lt hjl, Bool.and_self, cond_true, List.drop_eq_getElem_cons ht, List.any_cons, List.getElem_take, getD_at hjl, wrap_next hjl hm, ← succ_cast,
    pf09_place.L0.law b ps hb hm nm k0 k1 n (j + 1) (by omega) (by omega)]
   cases sEq (ps[j]).1 nm <;> rfl
  ·
   have e1 : decide ((j : Int) < (b : Int)) = false := decide_eq_false (by omega)
   rw [e1, cond_false, List.drop_eq_nil_of_le (by simp; omega)]
   rfl
theorem pf09_place.law {α : Type} {N : Nat} (hN : 18446744073709551616 ≤ N) (a0 : BA × (List (BA × Int × Int)) × List (BA × (List (Int × Int)) × (List (Int × Int)) × (List (Int × Int)) × Int)) (a1 : Int) (w0 : K.wf (.st (.pr (.str) (.pr (.sl (.st (.pr (.str) (.pr (.int .i64) (.int .i64))))) (.sl (.st (.pr (.str) (.pr (.sl (.st (.pr (.int .i64) (.int .i64)))) (.pr (.sl (.st (.pr (.int .i64) (.int .i64)))) (.pr (.sl (.st (.pr (.int .i64) (.int .i64)))) (.int .i64)))))))))) a0) (w1 : K.wf (.int .i64) a1) (hp : pf09_place.pre a0 a1 = true) (kr : (Int → Option α)) : pf09_place.g N a0 a1 kr = kr (pf09_place.spec a0 a1) := by
 unfold pf09_place.g pf09_place.spec
 simp only [pf09_place.pre] at hp
 rw [hp, cond_true]
 simp only [Bool.and_eq_true, decide_eq_true_eq] at hp
 obtain ⟨i, rfl⟩ := Int.eq_ofNat_of_zero_le hp.1
 have hi : i < a0.2.1.length := by omega
 have hm : a0.2.1.length ≤ maxLen := w0.2.1.1
 have hpl : a0.2.1.getD (Int.toNat (i : Int)) (eBA, 0, 0) = plAt a0 (i : Int) := rfl
 rw [hpl]
 generalize plAt a0 (i : Int) = p
 have en : pf09_Name.spec p.1 = nameOk p.1 := rfl
 rw [en]
 have hL := pf09_place.L0.law (N := N) i a0.2.1 (by omega) hm p.1 (fun x => kr x) (cond (decide (p.2.2 < 0)) (kr 1) (cond (decide (1048576 < p.2.2)) (kr 1) (cond (decide (p.2.1 < 0)) (kr 10) (cond (decide (1048576 < p.2.1)) (kr 10) (cond (p.2.2 != 0) (cond (decide (p.2.2 < p.2.1)) (kr 10) (kr 0)) (kr 0)))))) N 0 (by unfold maxLen at hm; omega) (Nat.zero_le _)
 have hL' : pf09_place.L0.f N (i : Int) a0.2.1 p.1 N 0 (fun x => kr x) _ = _ := hL
 rw [hL', List.drop_zero, Int.toNat_natCast]
 have ea : ((a0.2.1.take i).any fun q => sEq q.1 p.1) = (((a0.2.1.take i).map (·.1)).any fun o => sEq o p.1) := by rw [List.any_map]; rfl
 rw [ea]
 unfold addE placeE
 have e2 : (p.2.2 != 0) = !(p.2.2 == 0) := rfl
 rw [e2]
 cases nameOk p.1 <;> cases ((a0.2.1.take i).map (·.1)).any fun o => sEq o p.1 <;> cases decide (p.2.2 < 0) <;> cases decide (1048576 < p.2.2) <;> cases decide (p.2.1 < 0) <;> cases decide (1048576 < p.2.1) <;> cases (p.2.2 == 0) <;> cases decide (p.2.2 < p.2.1) <;> rfl
theorem pf09_place.ok : FentOk P 81 pf09_place.fent := fentOk_of (by kernel_rfl) fun ds hk => by
 obtain ⟨a0, l0, rfl, h0⟩ := ds_cons hk
 obtain ⟨a1, l1, rfl, h1⟩ := ds_cons h0
 obtain rfl := ds0 h1
 exact ⟨pf09_place.pre a0 a1, [.dat (.int .i64) (pf09_place.spec a0 a1)], fun h hw => pf09_place.calls 18446744073709551616 a0 a1 (pf09_place.law (Nat.le_refl _) a0 a1 hw.1 hw.2.1 h _), fun α k => rfl⟩
end Go.VI
namespace Go.VI
open Go Go.Proofs
namespace pf09_arcs
def an94 : Ann := [(2, [1, 2, 5], [4])]
def L0.sh : Sh := { sl := [(1, SV.a (SA.d ((K.int IntKind.i64).pr (K.int IntKind.i64)).st.sl)), (2, SV.a (SA.fx (Atom.box 0 0))), (5, SV.a (SA.d (K.int IntKind.i64)))], os := [(0, SO.box [SA.d K.str, SA.d (K.str.pr ((K.int IntKind.i64).pr (K.int IntKind.i64))).st.sl, SA.d (K.str.pr (((K.int IntKind.i64).pr (K.int IntKind.i64)).st.sl.pr (((K.int IntKind.i64).pr (K.int IntKind.i64)).st.sl.pr (((K.int IntKind.i64).pr (K.int IntKind.i64)).st.sl.pr (K.int IntKind.i64))))).st.sl])], nx := 1 }
def L0.x0 : Sh := { sl := [(4, SV.a (SA.d (K.int IntKind.i64)))], os := [], nx := 0 }
def L0.x1 : Sh := { sl := [(4, SV.j)], os := [], nx := 0 }
def L0.st {α : Type} (N : Nat) (x0 : (List (Int × Int))) (x3 : (List (BA × Int × Int))) (φ : (Int → Option α)) (x1 : Int) (k0 : (Int → Option α)) (k1 : Option α) : Option α :=
 cond (decide (x1 < (↑x0.length : Int))) (cond (decide (0 ≤ x1) && decide (x1 < (↑x0.length : Int))) (cond (decide ((x0.getD x1.toNat ((0 : Int), (0 : Int))).fst < 0)) (k0 (7)) (cond (decide (0 ≤ x1) && decide (x1 < (↑x0.length : Int))) (cond (decide ((↑x3.length : Int) ≤ (x0.getD x1.toNat ((0 : Int), (0 : Int))).fst)) (k0 (7)) (cond (decide (0 < x1)) (cond (decide (0 ≤ x1) && decide (x1 < (↑x0.length : Int))) (cond (decide (0 ≤ IntKind.i64.wrap (x1 - 1)) && decide (IntKind.i64.wrap (x1 - 1) < (↑x0.length : Int))) (cond (decide ((x0.getD x1.toNat ((0 : Int), (0 : Int))).fst ≤ (x0.getD (IntKind.i64.wrap (x1 - 1)).toNat ((0 : Int), (0 : Int))).fst)) (k0 (8)) (cond (decide (0 ≤ x1) && decide (x1 < (↑x0.length : Int))) (cond (decide ((x0.getD x1.toNat ((0 : Int), (0 : Int))).snd < 1)) (k0 (9)) (cond (decide (0 ≤ x1) && decide (x1 < (↑x0.length : Int))) (cond (decide (99 < (x0.getD x1.toNat ((0 : Int), (0 : Int))).snd)) (k0 (9)) (φ (IntKind.i64.wrap (x1 + 1)))) (none))) (none))) (none)) (none)) (cond (decide (0 ≤ x1) && decide (x1 < (↑x0.length : Int))) (cond (decide ((x0.getD x1.toNat ((0 : Int), (0 : Int))).snd < 1)) (k0 (9)) (cond (decide (0 ≤ x1) && decide (x1 < (↑x0.length : Int))) (cond (decide (99 < (x0.getD x1.toNat ((0 : Int), (0 : Int))).snd)) (k0 (9)) (φ (IntKind.i64.wrap (x1 + 1)))) (none))) (none)))) (none))) (none)) (k1 )
def L0.f {α : Type} (N : Nat) (c0 : (List (Int × Int))) (c2 : (List (BA × Int × Int))) : Nat → Int → (Int → Option α) → Option α → Option α
 | 0, _, _, _ => none
 | n + 1, d0, k0, k1 => L0.st N c0 c2 (fun e0 => L0.f N c0 c2 n e0 k0 k1) d0 k0 k1
def L0.up (d : L0.sh.T) (e0 : Int) : L0.sh.T := ((d.1.1, ((), (e0, ()))), ((d.2.1.1, (d.2.1.2.1, (d.2.1.2.2.1, ()))), ()))
def L0.k0 {α : Type} (d : L0.sh.T) (K : Cont α) : (Int → Option α) := fun y0 => K (Exit.ret) (L0.x0.enc ((y0, ()), ()))
def L0.k1 {α : Type} (d : L0.sh.T) (K : Cont α) : Option α := K (Exit.exit 0) (L0.x1.enc (((), ()), ()))
def L0.F {α : Type} (N : Nat) (d : L0.sh.T) (K : Cont α) : Option α := L0.f N d.1.1 d.2.1.2.1 N d.1.2.2.1 (L0.k0 d K) (L0.k1 d K)
def ents94 {α : Type} (N : Nat) : List (SmE α) := [⟨0, 50, 2, [⟨L0.sh, L0.F N⟩]⟩]
def C (N : Nat) : Ctx := ⟨tys, [], [], N⟩
def L0.B {α : Type} (N : Nat) : Env → Cont α → Option α := evC tys 59 0 (evCall (C N) 50) (evCallQ (C N)) N an94 (smL (ents94 N) 0 50) (loopOf 2 Tryd.f94)
theorem L0.r {α : Type} (N : Nat) (φ : Env → Option α) (K : Cont α) (d : L0.sh.T) : L0.B N (L0.sh.enc d) (contL φ K (Env.norm 0 [1, 2, 5]) (Env.norm 0 [4])) = L0.st N d.1.1 d.2.1.2.1 (fun e0 => φ (L0.sh.enc (L0.up d e0))) d.1.2.2.1 (L0.k0 d K) (L0.k1 d K) := by kernel_rfl
theorem L0.e {α : Type} (N : Nat) : ∀ (n : Nat) (d : L0.sh.T) (K : Cont α), evL (L0.B N) (Env.norm 0 [1, 2, 5]) (Env.norm 0 [4]) n (L0.sh.enc d) K = L0.f N d.1.1 d.2.1.2.1 n d.1.2.2.1 (L0.k0 d K) (L0.k1 d K)
 | 0, d, K => rfl
 | n + 1, d, K => evL_contL.trans ((L0.r N _ K d).trans (congrArg (fun φ => L0.st N d.1.1 d.2.1.2.1 φ d.1.2.2.1 (L0.k0 d K) (L0.k1 d K)) (funext fun e0 => L0.e N n (L0.up d e0) K)))
theorem ents94_ok {α : Type} (N : Nat) : AllP (EntOk (C N) Tryd.f94 an94 (ents94 (α := α) N)) (ents94 N) := ⟨entOk_of (b0 := loopOf 2 Tryd.f94) (li0 := [1, 2, 5]) (lx0 := [4]) (by kernel_rfl) (by kernel_rfl) ⟨fun d K => L0.e N N d K, trivial⟩, trivial⟩
def g {α : Type} (N : Nat) (a0 : BA × List (BA × Int × Int) × List (BA × List (Int × Int) × List (Int × Int) × List (Int × Int) × Int)) (a1 : List (Int × Int)) (kr : (Int → Option α)) : Option α :=
 L0.f N (a1) (a0.snd.fst) N (0) (fun x5 => kr (x5)) (kr (0))
theorem eq (N : Nat) (a0 : BA × List (BA × Int × Int) × List (BA × List (Int × Int) × List (Int × Int) × List (Int × Int) × Int)) (a1 : List (Int × Int)) : evF (C N) 50 Tryd.f94 an94 (smL (ents94 N) 0 50) [((.int .i64 : K), false)] [⟨.st (.pr (.str) (.pr (.sl (.st (.pr (.str) (.pr (.int .i64) (.int .i64))))) (.sl (.st (.pr (.str) (.pr (.sl (.st (.pr (.int .i64) (.int .i64)))) (.pr (.sl (.st (.pr (.int .i64) (.int .i64)))) (.pr (.sl (.st (.pr (.int .i64) (.int .i64)))) (.int .i64))))))))), a0⟩, ⟨.sl (.st (.pr (.int .i64) (.int .i64))), a1⟩] = g N a0 a1 (fun r0 => some [.dat (K.int IntKind.i64) r0]) := by kernel_rfl
theorem ctxOk (N : Nat) : CtxOk P (C N) := ctxOk_of tysOk mixedOk trivial trivial
theorem calls (N : Nat) (a0 : BA × List (BA × Int × Int) × List (BA × List (Int × Int) × List (Int × Int) × List (Int × Int) × Int)) (a1 : List (Int × Int)) {rs : List Rs} (h : g N a0 a1 (fun r0 => some [.dat (K.int IntKind.i64) r0]) = some rs) : CallsTo P 94 [⟨.st (.pr (.str) (.pr (.sl (.st (.pr (.str) (.pr (.int .i64) (.int .i64))))) (.sl (.st (.pr (.str) (.pr (.sl (.st (.pr (.int .i64) (.int .i64)))) (.pr (.sl (.st (.pr (.int .i64) (.int .i64)))) (.pr (.sl (.st (.pr (.int .i64) (.int .i64)))) (.int .i64))))))))), a0⟩, ⟨.sl (.st (.pr (.int .i64) (.int .i64))), a1⟩] rs := evF_calls' (ctxOk N) (by rfl) (ents94_ok N) ((eq N a0 a1).trans h)
def L0.l {α : Type} (N : Nat) (x0 : (List (Int × Int))) (x3 : (List (BA × Int × Int))) (k0 : (Int → Option α)) (k1 : Option α) : List (Int × Int) → Int → Option α
 | [], x1 => k1 
 | x :: l, x1 => (cond (decide (x.fst < 0)) (k0 (7)) ((cond (decide ((↑x3.length : Int) ≤ x.fst)) (k0 (7)) (cond (decide (0 < x1)) ((cond (decide (0 ≤ IntKind.i64.wrap (x1 - 1)) && decide (IntKind.i64.wrap (x1 - 1) < (↑x0.length : Int))) (cond (decide (x.fst ≤ (x0.getD (IntKind.i64.wrap (x1 - 1)).toNat ((0 : Int), (0 : Int))).fst)) (k0 (8)) ((cond (decide (x.snd < 1)) (k0 (9)) ((cond (decide (99 < x.snd)) (k0 (9)) (L0.l N x0 x3 k0 k1 l (x1 + 1))))))) (none))) ((cond (decide (x.snd < 1)) (k0 (9)) ((cond (decide (99 < x.snd)) (k0 (9)) (L0.l N x0 x3 k0 k1 l (x1 + 1))))))))))
theorem L0.rng {α : Type} {N : Nat} (x0 : (List (Int × Int))) (x3 : (List (BA × Int × Int))) (hl : x0.length ≤ maxLen) (k0 : (Int → Option α)) (k1 : Option α) : ∀ (n j : Nat), x0.length < n + j → j ≤ x0.length → L0.f N x0 x3 n (j : Int) k0 k1 = L0.l N x0 x3 k0 k1 (x0.drop j) (j : Int) :=
 rng0 x0 hl (fun n i => L0.f N x0 x3 n i k0 k1) (fun l i => L0.l N x0 x3 k0 k1 l i) (fun n j hj h ih => by simp only [L0.f, L0.st, L0.l, h.a, h.b, h.c, h.d, h.e, Bool.true_and, Bool.and_true, Bool.and_self, cond_true, ih] <;> rfl) (fun n j h => by simp only [L0.f, L0.st, L0.l, h, cond_false])
end pf09_arcs
theorem pf09_arcs.L0.law {α : Type} {N : Nat} (a : List (Int × Int)) (ha : a.length ≤ maxLen) (ps : List (BA × Int × Int)) (k0 : Int → Option α) : ∀ (l : List (Int × Int)) (j : Nat), l = a.drop j →
  pf09_arcs.L0.l N a ps k0 (k0 0) l (j : Int) = k0 (arcsE (ps.length : Int) (prevA a j) l)
 | [], j, _ => rfl
 | x :: l, j, hl => by
  obtain ⟨hj, hx, hl'⟩ := drop_step hl
  have ih := pf09_arcs.L0.law (N := N) a ha ps k0 l (j + 1) hl'
  have hp : prevA a (j + 1) = some x.1 := by rw [prevA, getD_n hj, hx]
  rw [hp, succ_cast] at ih
  rw [pf09_arcs.L0.l, ih, arcsE_cons]
  cases j with
  | zero =>
   have e3 : decide ((0 : Int) < ((0 : Nat) : Int)) = false := rfl
   rw [e3, cond_false]
   exact arcs_tree _ _ false _ _ _ k0
  | succ i =>
   have e3 : decide ((0 : Int) < ((i + 1 : Nat) : Int)) = true := decide_eq_true (by omega)
   have e4 : IntKind.i64.wrap (((i + 1 : Nat) : Int) - 1) = (i : Int) := by
    unfold maxLen at ha
    rw [wrap_i64 (inI_i64.2 (by omega))]
    omega
   rw [e3, cond_true, e4, d_0, d_lt (show i < a.length by omega), Bool.and_self, cond_true, Int.toNat_natCast]
   exact arcs_tree _ _ _ _ _ _ k0
theorem pf09_arcs.law {α : Type} {N : Nat} (hN : 18446744073709551616 ≤ N) (a0 : BA × (List (BA × Int × Int)) × List (BA × (List (Int × Int)) × (List (Int × Int)) × (List (Int × Int)) × Int)) (a1 : List (Int × Int)) (w0 : K.wf (.st (.pr (.str) (.pr (.sl (.st (.pr (.str) (.pr (.int .i64) (.int .i64))))) (.sl (.st (.pr (.str) (.pr (.sl (.st (.pr (.int .i64) (.int .i64)))) (.pr (.sl (.st (.pr (.int .i64) (.int .i64)))) (.pr (.sl (.st (.pr (.int .i64) (.int .i64)))) (.int .i64)))))))))) a0) (w1 : K.wf (.sl (.st (.pr (.int .i64) (.int .i64)))) a1) (kr : (Int → Option α)) : pf09_arcs.g N a0 a1 kr = kr (pf09_arcs.spec a0 a1) := by
 unfold pf09_arcs.g pf09_arcs.spec
 refine (pf09_arcs.L0.rng (N := N) a1 a0.2.1 w1.1 (fun x => kr x) (kr 0) N 0 (by have := le_fuel w1.1 hN; omega) (Nat.zero_le _)).trans ?_
 rw [List.drop_zero]
 exact pf09_arcs.L0.law (N := N) a1 w1.1 a0.2.1 (fun x => kr x) a1 0 rfl
theorem pf09_arcs.ok : FentOk P 94 pf09_arcs.fent := fentOk_of (by kernel_rfl) fun ds hk => by
 obtain ⟨a0, l0, rfl, h0⟩ := ds_cons hk
 obtain ⟨a1, l1, rfl, h1⟩ := ds_cons h0
 obtain rfl := ds0 h1
 exact ⟨true, [.dat (.int .i64) (pf09_arcs.spec a0 a1)], fun h hw => pf09_arcs.calls 18446744073709551616 a0 a1 (pf09_arcs.law (Nat.le_refl _) a0 a1 hw.1 hw.2.1 _), fun α k => rfl⟩
end Go.VI
namespace Go.VI
open Go Go.Proofs
namespace pf09_trans
def an82 : Ann := [(5, [1, 2, 5, 6], [1, 2, 4, 5]), (10, [1, 2, 5, 7], [2, 4, 5])]
def L0.sh : Sh := { sl := [(1, SV.a (SA.d (K.int IntKind.i64))), (2, SV.a (SA.fx (Atom.box 0 0))), (5, SV.a (SA.fx (Atom.box 1 0))), (6, SV.a (SA.d (K.int IntKind.i64)))], os := [(0, SO.box [SA.d K.str, SA.d (K.str.pr ((K.int IntKind.i64).pr (K.int IntKind.i64))).st.sl, SA.d (K.str.pr (((K.int IntKind.i64).pr (K.int IntKind.i64)).st.sl.pr (((K.int IntKind.i64).pr (K.int IntKind.i64)).st.sl.pr (((K.int IntKind.i64).pr (K.int IntKind.i64)).st.sl.pr (K.int IntKind.i64))))).st.sl]), (1, SO.box [SA.d K.str, SA.d ((K.int IntKind.i64).pr (K.int IntKind.i64)).st.sl, SA.d ((K.int IntKind.i64).pr (K.int IntKind.i64)).st.sl, SA.d ((K.int IntKind.i64).pr (K.int IntKind.i64)).st.sl, SA.d (K.int IntKind.i64)])], nx := 2 }
def L0.x0 : Sh := { sl := [(1, SV.a (SA.d (K.int IntKind.i64))), (2, SV.a (SA.fx (Atom.box 0 0))), (4, SV.a (SA.d (K.int IntKind.i64))), (5, SV.a (SA.fx (Atom.box 1 0)))], os := [(0, SO.box [SA.d K.str, SA.d (K.str.pr ((K.int IntKind.i64).pr (K.int IntKind.i64))).st.sl, SA.d (K.str.pr (((K.int IntKind.i64).pr (K.int IntKind.i64)).st.sl.pr (((K.int IntKind.i64).pr (K.int IntKind.i64)).st.sl.pr (((K.int IntKind.i64).pr (K.int IntKind.i64)).st.sl.pr (K.int IntKind.i64))))).st.sl]), (1, SO.box [SA.d K.str, SA.d ((K.int IntKind.i64).pr (K.int IntKind.i64)).st.sl, SA.d ((K.int IntKind.i64).pr (K.int IntKind.i64)).st.sl, SA.d ((K.int IntKind.i64).pr (K.int IntKind.i64)).st.sl, SA.d (K.int IntKind.i64)])], nx := 2 }
def L0.x1 : Sh := { sl := [(1, SV.a (SA.d (K.int IntKind.i64))), (2, SV.a (SA.fx (Atom.box 0 0))), (4, SV.j), (5, SV.a (SA.fx (Atom.box 1 0)))], os := [(0, SO.box [SA.d K.str, SA.d (K.str.pr ((K.int IntKind.i64).pr (K.int IntKind.i64))).st.sl, SA.d (K.str.pr (((K.int IntKind.i64).pr (K.int IntKind.i64)).st.sl.pr (((K.int IntKind.i64).pr (K.int IntKind.i64)).st.sl.pr (((K.int IntKind.i64).pr (K.int IntKind.i64)).st.sl.pr (K.int IntKind.i64))))).st.sl]), (1, SO.box [SA.d K.str, SA.d ((K.int IntKind.i64).pr (K.int IntKind.i64)).st.sl, SA.d ((K.int IntKind.i64).pr (K.int IntKind.i64)).st.sl, SA.d ((K.int IntKind.i64).pr (K.int IntKind.i64)).st.sl, SA.d (K.int IntKind.i64)])], nx := 2 }
def L0.st {α : Type} (N : Nat) (x3 : (List (BA × Int × Int))) (x5 : BA) (φ : (Int → Option α)) (x1 : Int) (k0 : (Int → Option α)) (k1 : Option α) : Option α :=
 cond (decide (x1 < (↑x3.length : Int))) (cond (decide (0 ≤ x1) && decide (x1 < (↑x3.length : Int))) (cond (sEq (x3.getD x1.toNat (eBA, 0, 0)).fst x5) (k0 (6)) (φ (IntKind.i64.wrap (x1 + 1)))) (none)) (k1 )
def L0.f {α : Type} (N : Nat) (c2 : (List (BA × Int × Int))) (c4 : BA) : Nat → Int → (Int → Option α) → Option α → Option α
 | 0, _, _, _ => none
 | n + 1, d0, k0, k1 => L0.st N c2 c4 (fun e0 => L0.f N c2 c4 n e0 k0 k1) d0 k0 k1
def L0.up (d : L0.sh.T) (e0 : Int) : L0.sh.T := ((d.1.1, ((), ((), (e0, ())))), ((d.2.1.1, (d.2.1.2.1, (d.2.1.2.2.1, ()))), ((d.2.2.1.1, (d.2.2.1.2.1, (d.2.2.1.2.2.1, (d.2.2.1.2.2.2.1, (d.2.2.1.2.2.2.2.1, ()))))), ())))
def L0.k0 {α : Type} (d : L0.sh.T) (K : Cont α) : (Int → Option α) := fun y0 => K (Exit.ret) (L0.x0.enc ((d.1.1, ((), (y0, ((), ())))), ((d.2.1.1, (d.2.1.2.1, (d.2.1.2.2.1, ()))), ((d.2.2.1.1, (d.2.2.1.2.1, (d.2.2.1.2.2.1, (d.2.2.1.2.2.2.1, (d.2.2.1.2.2.2.2.1, ()))))), ()))))
def L0.k1 {α : Type} (d : L0.sh.T) (K : Cont α) : Option α := K (Exit.exit 0) (L0.x1.enc ((d.1.1, ((), ((), ((), ())))), ((d.2.1.1, (d.2.1.2.1, (d.2.1.2.2.1, ()))), ((d.2.2.1.1, (d.2.2.1.2.1, (d.2.2.1.2.2.1, (d.2.2.1.2.2.2.1, (d.2.2.1.2.2.2.2.1, ()))))), ()))))
def L0.F {α : Type} (N : Nat) (d : L0.sh.T) (K : Cont α) : Option α := L0.f N d.2.1.2.1 d.2.2.1.1 N d.1.2.2.2.1 (L0.k0 d K) (L0.k1 d K)
def L1.sh : Sh := { sl := [(1, SV.a (SA.d (K.int IntKind.i64))), (2, SV.a (SA.fx (Atom.box 0 0))), (5, SV.a (SA.fx (Atom.box 1 0))), (7, SV.a (SA.d (K.int IntKind.i64)))], os := [(0, SO.box [SA.d K.str, SA.d (K.str.pr ((K.int IntKind.i64).pr (K.int IntKind.i64))).st.sl, SA.d (K.str.pr (((K.int IntKind.i64).pr (K.int IntKind.i64)).st.sl.pr (((K.int IntKind.i64).pr (K.int IntKind.i64)).st.sl.pr (((K.int IntKind.i64).pr (K.int IntKind.i64)).st.sl.pr (K.int IntKind.i64))))).st.sl]), (1, SO.box [SA.d K.str, SA.d ((K.int IntKind.i64).pr (K.int IntKind.i64)).st.sl, SA.d ((K.int IntKind.i64).pr (K.int IntKind.i64)).st.sl, SA.d ((K.int IntKind.i64).pr (K.int IntKind.i64)).st.sl, SA.d (K.int IntKind.i64)])], nx := 2 }
def L1.x0 : Sh := { sl := [(2, SV.a (SA.fx (Atom.box 0 0))), (4, SV.a (SA.d (K.int IntKind.i64))), (5, SV.a (SA.fx (Atom.box 1 0)))], os := [(0, SO.box [SA.d K.str, SA.d (K.str.pr ((K.int IntKind.i64).pr (K.int IntKind.i64))).st.sl, SA.d (K.str.pr (((K.int IntKind.i64).pr (K.int IntKind.i64)).st.sl.pr (((K.int IntKind.i64).pr (K.int IntKind.i64)).st.sl.pr (((K.int IntKind.i64).pr (K.int IntKind.i64)).st.sl.pr (K.int IntKind.i64))))).st.sl]), (1, SO.box [SA.d K.str, SA.d ((K.int IntKind.i64).pr (K.int IntKind.i64)).st.sl, SA.d ((K.int IntKind.i64).pr (K.int IntKind.i64)).st.sl, SA.d ((K.int IntKind.i64).pr (K.int IntKind.i64)).st.sl, SA.d (K.int IntKind.i64)])], nx := 2 }
def L1.x1 : Sh := { sl := [(2, SV.a (SA.fx (Atom.box 0 0))), (4, SV.j), (5, SV.a (SA.fx (Atom.box 1 0)))], os := [(0, SO.box [SA.d K.str, SA.d (K.str.pr ((K.int IntKind.i64).pr (K.int IntKind.i64))).st.sl, SA.d (K.str.pr (((K.int IntKind.i64).pr (K.int IntKind.i64)).st.sl.pr (((K.int IntKind.i64).pr (K.int IntKind.i64)).st.sl.pr (((K.int IntKind.i64).pr (K.int IntKind.i64)).st.sl.pr (K.int IntKind.i64))))).st.sl]), (1, SO.box [SA.d K.str, SA.d ((K.int IntKind.i64).pr (K.int IntKind.i64)).st.sl, SA.d ((K.int IntKind.i64).pr (K.int IntKind.i64)).st.sl, SA.d ((K.int IntKind.i64).pr (K.int IntKind.i64)).st.sl, SA.d (K.int IntKind.i64)])], nx := 2 }
def L1.st {α : Type} (N : Nat) (x11 : Int) (x15 : (List (BA × List (Int × Int) × List (Int × Int) × List (Int × Int) × Int))) (x16 : BA) (φ : (Int → Option α)) (x12 : Int) (k0 : (Int → Option α)) (k1 : Option α) : Option α :=
 cond (decide (x12 < x11)) (cond (decide (0 ≤ x12) && decide (x12 < (↑x15.length : Int))) (cond (sEq (x15.getD x12.toNat (eBA, [], [], [], 0)).fst x16) (k0 (6)) (φ (IntKind.i64.wrap (x12 + 1)))) (none)) (k1 )
def L1.f {α : Type} (N : Nat) (c0 : Int) (c3 : (List (BA × List (Int × Int) × List (Int × Int) × List (Int × Int) × Int))) (c4 : BA) : Nat → Int → (Int → Option α) → Option α → Option α
 | 0, _, _, _ => none
 | n + 1, d0, k0, k1 => L1.st N c0 c3 c4 (fun e0 => L1.f N c0 c3 c4 n e0 k0 k1) d0 k0 k1
def L1.up (d : L1.sh.T) (e0 : Int) : L1.sh.T := ((d.1.1, ((), ((), (e0, ())))), ((d.2.1.1, (d.2.1.2.1, (d.2.1.2.2.1, ()))), ((d.2.2.1.1, (d.2.2.1.2.1, (d.2.2.1.2.2.1, (d.2.2.1.2.2.2.1, (d.2.2.1.2.2.2.2.1, ()))))), ())))
def L1.k0 {α : Type} (d : L1.sh.T) (K : Cont α) : (Int → Option α) := fun y0 => K (Exit.ret) (L1.x0.enc (((), (y0, ((), ()))), ((d.2.1.1, (d.2.1.2.1, (d.2.1.2.2.1, ()))), ((d.2.2.1.1, (d.2.2.1.2.1, (d.2.2.1.2.2.1, (d.2.2.1.2.2.2.1, (d.2.2.1.2.2.2.2.1, ()))))), ()))))
def L1.k1 {α : Type} (d : L1.sh.T) (K : Cont α) : Option α := K (Exit.exit 2) (L1.x1.enc (((), ((), ((), ()))), ((d.2.1.1, (d.2.1.2.1, (d.2.1.2.2.1, ()))), ((d.2.2.1.1, (d.2.2.1.2.1, (d.2.2.1.2.2.1, (d.2.2.1.2.2.2.1, (d.2.2.1.2.2.2.2.1, ()))))), ()))))
def L1.F {α : Type} (N : Nat) (d : L1.sh.T) (K : Cont α) : Option α := L1.f N d.1.1 d.2.1.2.2.1 d.2.2.1.1 N d.1.2.2.2.1 (L1.k0 d K) (L1.k1 d K)
def ents82 {α : Type} (N : Nat) : List (SmE α) := [⟨0, 50, 5, [⟨L0.sh, L0.F N⟩]⟩, ⟨0, 50, 10, [⟨L1.sh, L1.F N⟩]⟩]
def C (N : Nat) : Ctx := ⟨tys, [(80, pf09_Name.fent), (94, pf09_arcs.fent)], [], N⟩
def L0.B {α : Type} (N : Nat) : Env → Cont α → Option α := evC tys 75 0 (evCall (C N) 50) (evCallQ (C N)) N an82 (smL (ents82 N) 0 50) (loopOf 5 Tryd.f82)
theorem L0.r {α : Type} (N : Nat) (φ : Env → Option α) (K : Cont α) (d : L0.sh.T) : L0.B N (L0.sh.enc d) (contL φ K (Env.norm 0 [1, 2, 5, 6]) (Env.norm 0 [1, 2, 4, 5])) = L0.st N d.2.1.2.1 d.2.2.1.1 (fun e0 => φ (L0.sh.enc (L0.up d e0))) d.1.2.2.2.1 (L0.k0 d K) (L0.k1 d K) := by kernel_rfl
theorem L0.e {α : Type} (N : Nat) : ∀ (n : Nat) (d : L0.sh.T) (K : Cont α), evL (L0.B N) (Env.norm 0 [1, 2, 5, 6]) (Env.norm 0 [1, 2, 4, 5]) n (L0.sh.enc d) K = L0.f N d.2.1.2.1 d.2.2.1.1 n d.1.2.2.2.1 (L0.k0 d K) (L0.k1 d K)
 | 0, d, K => rfl
 | n + 1, d, K => evL_contL.trans ((L0.r N _ K d).trans (congrArg (fun φ => L0.st N d.2.1.2.1 d.2.2.1.1 φ d.1.2.2.2.1 (L0.k0 d K) (L0.k1 d K)) (funext fun e0 => L0.e N n (L0.up d e0) K)))
def L1.B {α : Type} (N : Nat) : Env → Cont α → Option α := evC tys 75 0 (evCall (C N) 50) (evCallQ (C N)) N an82 (smL (ents82 N) 0 50) (loopOf 10 Tryd.f82)
theorem L1.r {α : Type} (N : Nat) (φ : Env → Option α) (K : Cont α) (d : L1.sh.T) : L1.B N (L1.sh.enc d) (contL φ K (Env.norm 0 [1, 2, 5, 7]) (Env.norm 0 [2, 4, 5])) = L1.st N d.1.1 d.2.1.2.2.1 d.2.2.1.1 (fun e0 => φ (L1.sh.enc (L1.up d e0))) d.1.2.2.2.1 (L1.k0 d K) (L1.k1 d K) := by kernel_rfl
theorem L1.e {α : Type} (N : Nat) : ∀ (n : Nat) (d : L1.sh.T) (K : Cont α), evL (L1.B N) (Env.norm 0 [1, 2, 5, 7]) (Env.norm 0 [2, 4, 5]) n (L1.sh.enc d) K = L1.f N d.1.1 d.2.1.2.2.1 d.2.2.1.1 n d.1.2.2.2.1 (L1.k0 d K) (L1.k1 d K)
 | 0, d, K => rfl
 | n + 1, d, K => evL_contL.trans ((L1.r N _ K d).trans (congrArg (fun φ => L1.st N d.1.1 d.2.1.2.2.1 d.2.2.1.1 φ d.1.2.2.2.1 (L1.k0 d K) (L1.k1 d K)) (funext fun e0 => L1.e N n (L1.up d e0) K)))
theorem ents82_ok {α : Type} (N : Nat) : AllP (EntOk (C N) Tryd.f82 an82 (ents82 (α := α) N)) (ents82 N) := ⟨entOk_of (b0 := loopOf 5 Tryd.f82) (li0 := [1, 2, 5, 6]) (lx0 := [1, 2, 4, 5]) (by kernel_rfl) (by kernel_rfl) ⟨fun d K => L0.e N N d K, trivial⟩, entOk_of (b0 := loopOf 10 Tryd.f82) (li0 := [1, 2, 5, 7]) (lx0 := [2, 4, 5]) (by kernel_rfl) (by kernel_rfl) ⟨fun d K => L1.e N N d K, trivial⟩, trivial⟩
def g {α : Type} (N : Nat) (a0 : BA × List (BA × Int × Int) × List (BA × List (Int × Int) × List (Int × Int) × List (Int × Int) × Int)) (a1 : Int) (kr : (Int → Option α)) : Option α :=
 cond (decide (0 ≤ a1) && decide (a1 < (↑(List.length a0.snd.snd) : Int))) (cond (!(pf09_Name.spec (List.getD a0.snd.snd a1.toNat (eBA, [], [], [], 0)).fst)) (kr (5)) (L0.f N (a0.snd.fst) ((List.getD a0.snd.snd a1.toNat (eBA, [], [], [], 0)).fst) N (0) (fun x10 => kr (x10)) (L1.f N (a1) (a0.snd.snd) ((List.getD a0.snd.snd a1.toNat (eBA, [], [], [], 0)).fst) N (0) (fun x21 => kr (x21)) (cond (decide ((List.getD a0.snd.snd a1.toNat (eBA, [], [], [], 0)).snd.snd.snd.snd < 0)) (kr (1)) (cond (decide (9 < (List.getD a0.snd.snd a1.toNat (eBA, [], [], [], 0)).snd.snd.snd.snd)) (kr (1)) (lt (pf09_arcs.spec a0 (List.getD a0.snd.snd a1.toNat (eBA, [], [], [], 0)).snd.fst) fun v1 => cond (v1 != 0) (kr (v1)) (lt (pf09_arcs.spec a0 (List.getD a0.snd.snd a1.toNat (eBA, [], [], [], 0)).snd.snd.fst) fun v2 => cond (v2 != 0) (kr (v2)) (kr ((pf09_arcs.spec a0 (List.getD a0.snd.snd a1.toNat (eBA, [], [], [], 0)).snd.snd.snd.fst)))))))))) (none)
theorem eq (N : Nat) (a0 : BA × List (BA × Int × Int) × List (BA × List (Int × Int) × List (Int × Int) × List (Int × Int) × Int)) (a1 : Int) : evF (C N) 50 Tryd.f82 an82 (smL (ents82 N) 0 50) [((.int .i64 : K), false)] [⟨.st (.pr (.str) (.pr (.sl (.st (.pr (.str) (.pr (.int .i64) (.int .i64))))) (.sl (.st (.pr (.str) (.pr (.sl (.st (.pr (.int .i64) (.int .i64)))) (.pr (.sl (.st (.pr (.int .i64) (.int .i64)))) (.pr (.sl (.st (.pr (.int .i64) (.int .i64)))) (.int .i64))))))))), a0⟩, ⟨.int .i64, a1⟩] = g N a0 a1 (fun r0 => some [.dat (K.int IntKind.i64) r0]) := by kernel_rfl
theorem ctxOk (N : Nat) : CtxOk P (C N) := ctxOk_of tysOk mixedOk ⟨pf09_Name.ok, pf09_arcs.ok, trivial⟩ trivial
theorem calls (N : Nat) (a0 : BA × List (BA × Int × Int) × List (BA × List (Int × Int) × List (Int × Int) × List (Int × Int) × Int)) (a1 : Int) {rs : List Rs} (h : g N a0 a1 (fun r0 => some [.dat (K.int IntKind.i64) r0]) = some rs) : CallsTo P 82 [⟨.st (.pr (.str) (.pr (.sl (.st (.pr (.str) (.pr (.int .i64) (.int .i64))))) (.sl (.st (.pr (.str) (.pr (.sl (.st (.pr (.int .i64) (.int .i64)))) (.pr (.sl (.st (.pr (.int .i64) (.int .i64)))) (.pr (.sl (.st (.pr (.int .i64) (.int .i64)))) (.int .i64))))))))), a0⟩, ⟨.int .i64, a1⟩] rs := evF_calls' (ctxOk N) (by rfl) (ents82_ok N) ((eq N a0 a1).trans h)
def L0.l {α : Type} (N : Nat) (x3 : (List (BA × Int × Int))) (x5 : BA) (k0 : (Int → Option α)) (k1 : Option α) : List (BA × Int × Int) → Int → Option α
 | [], x1 => k1 
 | x :: l, x1 => (cond (sEq x.fst x5) (k0 (6)) (L0.l N x3 x5 k0 k1 l (x1 + 1)))
theorem L0.rng {α : Type} {N : Nat} (x3 : (List (BA × Int × Int))) (x5 : BA) (hl : x3.length ≤ maxLen) (k0 : (Int → Option α)) (k1 : Option α) : ∀ (n j : Nat), x3.length < n + j → j ≤ x3.length → L0.f N x3 x5 n (j : Int) k0 k1 = L0.l N x3 x5 k0 k1 (x3.drop j) (j : Int) :=
 rng0 x3 hl (fun n i => L0.f N x3 x5 n i k0 k1) (fun l i => L0.l N x3 x5 k0 k1 l i) (fun n j hj h ih => by simp only [L0.f, L0.st, L0.l, h.a, h.b, h.c, h.d, h.e, Bool.true_and, Bool.and_true, Bool.and_self, cond_true, ih] <;> rfl) (fun n j h => by simp only [L0.f, L0.st, L0.l, h, cond_false])
def L1.l {α : Type} (N : Nat) (x15 : (List (BA × List (Int × Int) × List (Int × Int) × List (Int × Int) × Int))) (x16 : BA) (k0 : (Int → Option α)) (k1 : Option α) : List (BA × List (Int × Int) × List (Int × Int) × List (Int × Int) × Int) → Int → Option α
 | [], x12 => k1 
 | x :: l, x12 => (cond (sEq x.fst x16) (k0 (6)) (L1.l N x15 x16 k0 k1 l (x12 + 1)))
theorem L1.rng {α : Type} {N : Nat} (x15 : (List (BA × List (Int × Int) × List (Int × Int) × List (Int × Int) × Int))) (x16 : BA) (hl : x15.length ≤ maxLen) (k0 : (Int → Option α)) (k1 : Option α) : ∀ (n j : Nat), x15.length < n + j → j ≤ x15.length → L1.f N (x15.length : Int) x15 x16 n (j : Int) k0 k1 = L1.l N x15 x16 k0 k1 (x15.drop j) (j : Int) :=
 rng0 x15 hl (fun n i => L1.f N (x15.length : Int) x15 x16 n i k0 k1) (fun l i => L1.l N x15 x16 k0 k1 l i) (fun n j hj h ih => by simp only [L1.f, L1.st, L1.l, h.a, h.b, h.c, h.d, h.e, Bool.true_and, Bool.and_true, Bool.and_self, cond_true, ih] <;> rfl) (fun n j h => by simp only [L1.f, L1.st, L1.l, h, cond_false])
end pf09_trans
theorem pf09_trans.L0.law {α : Type} {N : Nat} (hN : 18446744073709551616 ≤ N) (ps : List (BA × Int × Int)) (hm : ps.length ≤ maxLen) (nm : BA) (k0 : Int → Option α) (k1 : Option α) :
  pf09_trans.L0.f N ps nm N 0 k0 k1 = cond ((ps.map (·.1)).any fun o => sEq o nm) (k0 6) k1 := by
 have go : ∀ (l : List (BA × Int × Int)) (j : Int), pf09_trans.L0.l N ps nm k0 k1 l j = cond ((l.map (·.1)).any fun o => sEq o nm) (k0 6) k1 := by
  intro l
  induction l with
  | nil => intro j; rfl
  | cons x l ih =>
   intro j
   rw [pf09_trans.L0.l, ih, List.map_cons, List.any_cons]
   cases sEq x.1 nm <;> rfl
 refine (pf09_trans.L0.rng (N := N) ps nm hm k0 k1 N 0 (by have := le_fuel hm hN; omega) (Nat.zero_le _)).trans ?_
 rw [List.drop_zero]
 exact go ps 0
theorem pf09_trans.L1.law {α : Type} {N : Nat} (b : Nat) (ts : List TransT) (hb : b ≤ ts.length) (hm : ts.length ≤ maxLen) (nm : BA) (k0 : Int → Option α) (k1 : Option α) : ∀ (n j : Nat), b < n + j → j ≤ b →
  pf09_trans.L1.f N (b : Int) ts nm n (j : Int) k0 k1 = cond (((ts.take b).drop j).any fun p => sEq p.1 nm) (k0 6) k1
 | 0, j, h, hj => absurd h (by omega)
 | n + 1, j, h, hj => by
  rw [pf09_trans.L1.f, pf09_trans.L1.st]
  by_cases hlt : j < b
  ·
   have hjl : j < ts.length := by omega
   have ht : j < (ts.take b).length := by simp; omega
   rw [d_lt hlt, cond_true, d_0, d_lt hjl, Bool.and_self, cond_true, List.drop_eq_getElem_cons ht, List.any_cons, List.getElem_take, getD_at hjl, wrap_next hjl hm, ← succ_cast,
    pf09_trans.L1.law b ts hb hm nm k0 k1 n (j + 1) (by omega) (by omega)]
   cases sEq (ts[j]).1 nm <;> rfl
  ·
   have e1 : decide ((j : Int) < (b : Int)) = false := decide_eq_false (by omega)
   rw [e1, cond_false, List.drop_eq_nil_of_le (by simp; omega)]
   rfl
theorem pf09_trans.law {α : Type} {N : Nat} (hN : 18446744073709551616 ≤ N) (a0 : BA × (List (BA × Int × Int)) × List (BA × (List (Int × Int)) × (List (Int × Int)) × (List (Int × Int)) × Int)) (a1 : Int) (w0 : K.wf (.st (.pr (.str) (.pr (.sl (.st (.pr (.str) (.pr (.int .i64) (.int .i64))))) (.sl (.st (.pr (.str) (.pr (.sl (.st (.pr (.int .i64) (.int .i64)))) (.pr (.sl (.st (.pr (.int .i64) (.int .i64)))) (.pr (.sl (.st (.pr (.int .i64) (.int .i64)))) (.int .i64)))))))))) a0) (w1 : K.wf (.int .i64) a1) (hp : pf09_trans.pre a0 a1 = true) (kr : (Int → Option α)) : pf09_trans.g N a0 a1 kr = kr (pf09_trans.spec a0 a1) := by
 unfold pf09_trans.g pf09_trans.spec
 simp only [pf09_trans.pre] at hp
 rw [hp, cond_true]
 simp only [Bool.and_eq_true, decide_eq_true_eq] at hp
 obtain ⟨i, rfl⟩ := Int.eq_ofNat_of_zero_le hp.1
 have hi : i < a0.2.2.length := by omega
 have hm : a0.2.1.length ≤ maxLen := w0.2.1.1
 have hm2 : a0.2.2.length ≤ maxLen := w0.2.2.1
 have hpl : a0.2.2.getD (Int.toNat (i : Int)) (eBA, [], [], [], 0) = trAt a0 (i : Int) := rfl
 rw [hpl]
 generalize trAt a0 (i : Int) = t
 have en : pf09_Name.spec t.1 = nameOk t.1 := rfl
 rw [en, pf09_trans.L0.law hN a0.2.1 hm t.1]
 have hL := fun k1 => pf09_trans.L1.law (N := N) i a0.2.2 (by omega) hm2 t.1 (fun x => kr x) k1 N 0 (by unfold maxLen at hm2; omega) (Nat.zero_le _)
 have hL' : ∀ k1, pf09_trans.L1.f N (i : Int) a0.2.2 t.1 N 0 (fun x => kr x) k1 = _ := hL
 rw [hL', List.drop_zero, Int.toNat_natCast]
 have ea : ((a0.2.2.take i).any fun q => sEq q.1 t.1) = (((a0.2.2.take i).map (·.1)).any fun o => sEq o t.1) := by rw [List.any_map]; rfl
 have ear : ∀ l, pf09_arcs.spec a0 l = arcsE (a0.2.1.length : Int) none l := fun l => rfl
 simp only [lt]
 rw [ea, ear, ear, ear]
 unfold addE transE
 rw [List.any_append]
 have e : ∀ z : Int, (z != 0) = !(z == 0) := fun z => rfl
 rw [e, e]
 cases nameOk t.1 <;> cases (a0.2.1.map (·.1)).any fun o => sEq o t.1 <;> cases ((a0.2.2.take i).map (·.1)).any fun o => sEq o t.1 <;> cases decide (t.2.2.2.2 < 0) <;> cases decide (9 < t.2.2.2.2) <;> cases (arcsE (a0.2.1.length : Int) none t.2.1 == 0) <;> cases (arcsE (a0.2.1.length : Int) none t.2.2.1 == 0) <;> rfl
theorem pf09_trans.ok : FentOk P 82 pf09_trans.fent := fentOk_of (by kernel_rfl) fun ds hk => by
 obtain ⟨a0, l0, rfl, h0⟩ := ds_cons hk
 obtain ⟨a1, l1, rfl, h1⟩ := ds_cons h0
 obtain rfl := ds0 h1
 exact ⟨pf09_trans.pre a0 a1, [.dat (.int .i64) (pf09_trans.spec a0 a1)], fun h hw => pf09_trans.calls 18446744073709551616 a0 a1 (pf09_trans.law (Nat.le_refl _) a0 a1 hw.1 hw.2.1 h _), fun α k => rfl⟩
end Go.VI
namespace Go.VI
open Go Go.Proofs
namespace pf09_Check
def an56 : Ann := [(6, [1, 2, 3], [1, 2]), (12, [1, 2, 5], [2])]
def L0.sh : Sh := { sl := [(1, SV.a (SA.fx (Atom.box 0 0))), (2, SV.a (SA.fx (Atom.box 1 0))), (3, SV.a (SA.d (K.int IntKind.i64)))], os := [(0, SO.box [SA.d K.str, SA.d (K.str.pr ((K.int IntKind.i64).pr (K.int IntKind.i64))).st.sl, SA.d (K.str.pr (((K.int IntKind.i64).pr (K.int IntKind.i64)).st.sl.pr (((K.int IntKind.i64).pr (K.int IntKind.i64)).st.sl.pr (((K.int IntKind.i64).pr (K.int IntKind.i64)).st.sl.pr (K.int IntKind.i64))))).st.sl]), (1, SO.box [SA.d (K.int IntKind.i64), SA.d (K.int IntKind.i64)])], nx := 2 }
def L0.x0 : Sh := { sl := [(1, SV.a (SA.fx (Atom.box 0 0))), (2, SV.a (SA.fx (Atom.box 1 0)))], os := [(0, SO.box [SA.d K.str, SA.d (K.str.pr ((K.int IntKind.i64).pr (K.int IntKind.i64))).st.sl, SA.d (K.str.pr (((K.int IntKind.i64).pr (K.int IntKind.i64)).st.sl.pr (((K.int IntKind.i64).pr (K.int IntKind.i64)).st.sl.pr (((K.int IntKind.i64).pr (K.int IntKind.i64)).st.sl.pr (K.int IntKind.i64))))).st.sl]), (1, SO.box [SA.d (K.int IntKind.i64), SA.d (K.int IntKind.i64)])], nx := 2 }
def L0.x1 : Sh := { sl := [(1, SV.a (SA.fx (Atom.box 0 0))), (2, SV.a (SA.fx (Atom.box 1 0)))], os := [(0, SO.box [SA.d K.str, SA.d (K.str.pr ((K.int IntKind.i64).pr (K.int IntKind.i64))).st.sl, SA.d (K.str.pr (((K.int IntKind.i64).pr (K.int IntKind.i64)).st.sl.pr (((K.int IntKind.i64).pr (K.int IntKind.i64)).st.sl.pr (((K.int IntKind.i64).pr (K.int IntKind.i64)).st.sl.pr (K.int IntKind.i64))))).st.sl]), (1, SO.box [SA.d (K.int IntKind.i64), SA.d (K.int IntKind.i64)])], nx := 2 }
def L0.st {α : Type} (N : Nat) (x1 : BA) (x2 : (List (BA × Int × Int))) (x3 : (List (BA × List (Int × Int) × List (Int × Int) × List (Int × Int) × Int))) (φ : (Int → Option α)) (x0 : Int) (k0 : (Int → Int → Option α)) (k1 : Option α) : Option α :=
 cond (decide (x0 < (↑x2.length : Int))) (cond (pf09_place.pre (x1, x2, x3) x0) (cond ((pf09_place.spec (x1, x2, x3) x0) != 0) (k0 ((pf09_place.spec (x1, x2, x3) x0)) (x0)) (φ (IntKind.i64.wrap (x0 + 1)))) (none)) (k1 )
def L0.f {α : Type} (N : Nat) (c0 : BA) (c1 : (List (BA × Int × Int))) (c2 : (List (BA × List (Int × Int) × List (Int × Int) × List (Int × Int) × Int))) : Nat → Int → (Int → Int → Option α) → Option α → Option α
 | 0, _, _, _ => none
 | n + 1, d0, k0, k1 => L0.st N c0 c1 c2 (fun e0 => L0.f N c0 c1 c2 n e0 k0 k1) d0 k0 k1
def L0.up (d : L0.sh.T) (e0 : Int) : L0.sh.T := (((), ((), (e0, ()))), ((d.2.1.1, (d.2.1.2.1, (d.2.1.2.2.1, ()))), ((d.2.2.1.1, (d.2.2.1.2.1, ())), ())))
def L0.k0 {α : Type} (d : L0.sh.T) (K : Cont α) : (Int → Int → Option α) := fun y0 y1 => K (Exit.ret) (L0.x0.enc (((), ((), ())), ((d.2.1.1, (d.2.1.2.1, (d.2.1.2.2.1, ()))), ((y0, (y1, ())), ()))))
def L0.k1 {α : Type} (d : L0.sh.T) (K : Cont α) : Option α := K (Exit.exit 0) (L0.x1.enc (((), ((), ())), ((d.2.1.1, (d.2.1.2.1, (d.2.1.2.2.1, ()))), ((d.2.2.1.1, (d.2.2.1.2.1, ())), ()))))
def L0.F {α : Type} (N : Nat) (d : L0.sh.T) (K : Cont α) : Option α := L0.f N d.2.1.1 d.2.1.2.1 d.2.1.2.2.1 N d.1.2.2.1 (L0.k0 d K) (L0.k1 d K)
def L1.sh : Sh := { sl := [(1, SV.a (SA.fx (Atom.box 0 0))), (2, SV.a (SA.fx (Atom.box 1 0))), (5, SV.a (SA.d (K.int IntKind.i64)))], os := [(0, SO.box [SA.d K.str, SA.d (K.str.pr ((K.int IntKind.i64).pr (K.int IntKind.i64))).st.sl, SA.d (K.str.pr (((K.int IntKind.i64).pr (K.int IntKind.i64)).st.sl.pr (((K.int IntKind.i64).pr (K.int IntKind.i64)).st.sl.pr (((K.int IntKind.i64).pr (K.int IntKind.i64)).st.sl.pr (K.int IntKind.i64))))).st.sl]), (1, SO.box [SA.d (K.int IntKind.i64), SA.d (K.int IntKind.i64)])], nx := 2 }
def L1.x0 : Sh := { sl := [(2, SV.a (SA.fx (Atom.box 0 0)))], os := [(0, SO.box [SA.d (K.int IntKind.i64), SA.d (K.int IntKind.i64)])], nx := 1 }
def L1.x1 : Sh := { sl := [(2, SV.a (SA.fx (Atom.box 0 0)))], os := [(0, SO.box [SA.d (K.int IntKind.i64), SA.d (K.int IntKind.i64)])], nx := 1 }
def L1.st {α : Type} (N : Nat) (x9 : BA) (x10 : (List (BA × Int × Int))) (x11 : (List (BA × List (Int × Int) × List (Int × Int) × List (Int × Int) × Int))) (φ : (Int → Option α)) (x8 : Int) (k0 : (Int → Int → Option α)) (k1 : Option α) : Option α :=
 cond (decide (x8 < (↑x11.length : Int))) (cond (pf09_trans.pre (x9, x10, x11) x8) (cond ((pf09_trans.spec (x9, x10, x11) x8) != 0) (k0 ((pf09_trans.spec (x9, x10, x11) x8)) (IntKind.i64.wrap ((↑x10.length : Int) + x8))) (φ (IntKind.i64.wrap (x8 + 1)))) (none)) (k1 )
def L1.f {α : Type} (N : Nat) (c0 : BA) (c1 : (List (BA × Int × Int))) (c2 : (List (BA × List (Int × Int) × List (Int × Int) × List (Int × Int) × Int))) : Nat → Int → (Int → Int → Option α) → Option α → Option α
 | 0, _, _, _ => none
 | n + 1, d0, k0, k1 => L1.st N c0 c1 c2 (fun e0 => L1.f N c0 c1 c2 n e0 k0 k1) d0 k0 k1
def L1.up (d : L1.sh.T) (e0 : Int) : L1.sh.T := (((), ((), (e0, ()))), ((d.2.1.1, (d.2.1.2.1, (d.2.1.2.2.1, ()))), ((d.2.2.1.1, (d.2.2.1.2.1, ())), ())))
def L1.k0 {α : Type} (d : L1.sh.T) (K : Cont α) : (Int → Int → Option α) := fun y0 y1 => K (Exit.ret) (L1.x0.enc (((), ()), ((y0, (y1, ())), ())))
def L1.k1 {α : Type} (d : L1.sh.T) (K : Cont α) : Option α := K (Exit.exit 2) (L1.x1.enc (((), ()), ((d.2.2.1.1, (d.2.2.1.2.1, ())), ())))
def L1.F {α : Type} (N : Nat) (d : L1.sh.T) (K : Cont α) : Option α := L1.f N d.2.1.1 d.2.1.2.1 d.2.1.2.2.1 N d.1.2.2.1 (L1.k0 d K) (L1.k1 d K)
def ents56 {α : Type} (N : Nat) : List (SmE α) := [⟨0, 50, 6, [⟨L0.sh, L0.F N⟩]⟩, ⟨0, 50, 12, [⟨L1.sh, L1.F N⟩]⟩]
def C (N : Nat) : Ctx := ⟨tys, [(80, pf09_Name.fent), (81, pf09_place.fent), (82, pf09_trans.fent)], [], N⟩
def L0.B {α : Type} (N : Nat) : Env → Cont α → Option α := evC tys 64 0 (evCall (C N) 50) (evCallQ (C N)) N an56 (smL (ents56 N) 0 50) (loopOf 6 Tryd.f56)
theorem L0.r {α : Type} (N : Nat) (φ : Env → Option α) (K : Cont α) (d : L0.sh.T) : L0.B N (L0.sh.enc d) (contL φ K (Env.norm 0 [1, 2, 3]) (Env.norm 0 [1, 2])) = L0.st N d.2.1.1 d.2.1.2.1 d.2.1.2.2.1 (fun e0 => φ (L0.sh.enc (L0.up d e0))) d.1.2.2.1 (L0.k0 d K) (L0.k1 d K) := by kernel_rfl
theorem L0.e {α : Type} (N : Nat) : ∀ (n : Nat) (d : L0.sh.T) (K : Cont α), evL (L0.B N) (Env.norm 0 [1, 2, 3]) (Env.norm 0 [1, 2]) n (L0.sh.enc d) K = L0.f N d.2.1.1 d.2.1.2.1 d.2.1.2.2.1 n d.1.2.2.1 (L0.k0 d K) (L0.k1 d K)
 | 0, d, K => rfl
 | n + 1, d, K => evL_contL.trans ((L0.r N _ K d).trans (congrArg (fun φ => L0.st N d.2.1.1 d.2.1.2.1 d.2.1.2.2.1 φ d.1.2.2.1 (L0.k0 d K) (L0.k1 d K)) (funext fun e0 => L0.e N n (L0.up d e0) K)))
def L1.B {α : Type} (N : Nat) : Env → Cont α → Option α := evC tys 64 0 (evCall (C N) 50) (evCallQ (C N)) N an56 (smL (ents56 N) 0 50) (loopOf 12 Tryd.f56)
theorem L1.r {α : Type} (N : Nat) (φ : Env → Option α) (K : Cont α) (d : L1.sh.T) : L1.B N (L1.sh.enc d) (contL φ K (Env.norm 0 [1, 2, 5]) (Env.norm 0 [2])) = L1.st N d.2.1.1 d.2.1.2.1 d.2.1.2.2.1 (fun e0 => φ (L1.sh.enc (L1.up d e0))) d.1.2.2.1 (L1.k0 d K) (L1.k1 d K) := by kernel_rfl
theorem L1.e {α : Type} (N : Nat) : ∀ (n : Nat) (d : L1.sh.T) (K : Cont α), evL (L1.B N) (Env.norm 0 [1, 2, 5]) (Env.norm 0 [2]) n (L1.sh.enc d) K = L1.f N d.2.1.1 d.2.1.2.1 d.2.1.2.2.1 n d.1.2.2.1 (L1.k0 d K) (L1.k1 d K)
 | 0, d, K => rfl
 | n + 1, d, K => evL_contL.trans ((L1.r N _ K d).trans (congrArg (fun φ => L1.st N d.2.1.1 d.2.1.2.1 d.2.1.2.2.1 φ d.1.2.2.1 (L1.k0 d K) (L1.k1 d K)) (funext fun e0 => L1.e N n (L1.up d e0) K)))
theorem ents56_ok {α : Type} (N : Nat) : AllP (EntOk (C N) Tryd.f56 an56 (ents56 (α := α) N)) (ents56 N) := ⟨entOk_of (b0 := loopOf 6 Tryd.f56) (li0 := [1, 2, 3]) (lx0 := [1, 2]) (by kernel_rfl) (by kernel_rfl) ⟨fun d K => L0.e N N d K, trivial⟩, entOk_of (b0 := loopOf 12 Tryd.f56) (li0 := [1, 2, 5]) (lx0 := [2]) (by kernel_rfl) (by kernel_rfl) ⟨fun d K => L1.e N N d K, trivial⟩, trivial⟩
def g {α : Type} (N : Nat) (a0 : BA × List (BA × Int × Int) × List (BA × List (Int × Int) × List (Int × Int) × List (Int × Int) × Int)) (kr : ((Int × Int) → Option α)) : Option α :=
 cond (!(pf09_Name.spec a0.fst)) (kr ((5, 0))) (cond (decide ((↑(List.length a0.snd.fst) : Int) < 1)) (kr ((2, 0))) (cond (decide (24 < (↑(List.length a0.snd.fst) : Int))) (kr ((2, 0))) (cond (decide (24 < (↑(List.length a0.snd.snd) : Int))) (kr ((2, 0))) (L0.f N (a0.fst) (a0.snd.fst) (a0.snd.snd) N (0) (fun x6 x7 => kr ((x6, x7))) (L1.f N (a0.fst) (a0.snd.fst) (a0.snd.snd) N (0) (fun x14 x15 => kr ((x14, x15))) (kr (((0 : Int), (0 : Int)))))))))
theorem eq (N : Nat) (a0 : BA × List (BA × Int × Int) × List (BA × List (Int × Int) × List (Int × Int) × List (Int × Int) × Int)) : evF (C N) 50 Tryd.f56 an56 (smL (ents56 N) 0 50) [((.st (.pr (.int .i64) (.int .i64)) : K), false)] [⟨.st (.pr (.str) (.pr (.sl (.st (.pr (.str) (.pr (.int .i64) (.int .i64))))) (.sl (.st (.pr (.str) (.pr (.sl (.st (.pr (.int .i64) (.int .i64)))) (.pr (.sl (.st (.pr (.int .i64) (.int .i64)))) (.pr (.sl (.st (.pr (.int .i64) (.int .i64)))) (.int .i64))))))))), a0⟩] = g N a0 (fun r0 => some [.dat (((K.int IntKind.i64).pr (K.int IntKind.i64)).st) r0]) := by kernel_rfl
theorem ctxOk (N : Nat) : CtxOk P (C N) := ctxOk_of tysOk mixedOk ⟨pf09_Name.ok, pf09_place.ok, pf09_trans.ok, trivial⟩ trivial
theorem calls (N : Nat) (a0 : BA × List (BA × Int × Int) × List (BA × List (Int × Int) × List (Int × Int) × List (Int × Int) × Int)) {rs : List Rs} (h : g N a0 (fun r0 => some [.dat (((K.int IntKind.i64).pr (K.int IntKind.i64)).st) r0]) = some rs) : CallsTo P 56 [⟨.st (.pr (.str) (.pr (.sl (.st (.pr (.str) (.pr (.int .i64) (.int .i64))))) (.sl (.st (.pr (.str) (.pr (.sl (.st (.pr (.int .i64) (.int .i64)))) (.pr (.sl (.st (.pr (.int .i64) (.int .i64)))) (.pr (.sl (.st (.pr (.int .i64) (.int .i64)))) (.int .i64))))))))), a0⟩] rs := evF_calls' (ctxOk N) (by rfl) (ents56_ok N) ((eq N a0).trans h)
def L0.l {α : Type} (N : Nat) (x1 : BA) (x2 : (List (BA × Int × Int))) (x3 : (List (BA × List (Int × Int) × List (Int × Int) × List (Int × Int) × Int))) (k0 : (Int → Int → Option α)) (k1 : Option α) : List (BA × Int × Int) → Int → Option α
 | [], x0 => k1 
 | x :: l, x0 => cond (pf09_place.pre (x1, x2, x3) x0) (cond ((pf09_place.spec (x1, x2, x3) x0) != 0) (k0 ((pf09_place.spec (x1, x2, x3) x0)) (x0)) (L0.l N x1 x2 x3 k0 k1 l (x0 + 1))) (none)
theorem L0.rng {α : Type} {N : Nat} (x1 : BA) (x2 : (List (BA × Int × Int))) (x3 : (List (BA × List (Int × Int) × List (Int × Int) × List (Int × Int) × Int))) (hl : x2.length ≤ maxLen) (k0 : (Int → Int → Option α)) (k1 : Option α) : ∀ (n j : Nat), x2.length < n + j → j ≤ x2.length → L0.f N x1 x2 x3 n (j : Int) k0 k1 = L0.l N x1 x2 x3 k0 k1 (x2.drop j) (j : Int) :=
 rng0 x2 hl (fun n i => L0.f N x1 x2 x3 n i k0 k1) (fun l i => L0.l N x1 x2 x3 k0 k1 l i) (fun n j hj h ih => by simp only [L0.f, L0.st, L0.l, h.a, h.b, h.c, h.d, h.e, Bool.true_and, Bool.and_true, Bool.and_self, cond_true, ih] <;> rfl) (fun n j h => by simp only [L0.f, L0.st, L0.l, h, cond_false])
def L1.l {α : Type} (N : Nat) (x9 : BA) (x10 : (List (BA × Int × Int))) (x11 : (List (BA × List (Int × Int) × List (Int × Int) × List (Int × Int) × Int))) (k0 : (Int → Int → Option α)) (k1 : Option α) : List (BA × List (Int × Int) × List (Int × Int) × List (Int × Int) × Int) → Int → Option α
 | [], x8 => k1 
 | x :: l, x8 => cond (pf09_trans.pre (x9, x10, x11) x8) (cond ((pf09_trans.spec (x9, x10, x11) x8) != 0) (k0 ((pf09_trans.spec (x9, x10, x11) x8)) (IntKind.i64.wrap ((↑x10.length : Int) + x8))) (L1.l N x9 x10 x11 k0 k1 l (x8 + 1))) (none)
theorem L1.rng {α : Type} {N : Nat} (x9 : BA) (x10 : (List (BA × Int × Int))) (x11 : (List (BA × List (Int × Int) × List (Int × Int) × List (Int × Int) × Int))) (hl : x11.length ≤ maxLen) (k0 : (Int → Int → Option α)) (k1 : Option α) : ∀ (n j : Nat), x11.length < n + j → j ≤ x11.length → L1.f N x9 x10 x11 n (j : Int) k0 k1 = L1.l N x9 x10 x11 k0 k1 (x11.drop j) (j : Int) :=
 rng0 x11 hl (fun n i => L1.f N x9 x10 x11 n i k0 k1) (fun l i => L1.l N x9 x10 x11 k0 k1 l i) (fun n j hj h ih => by simp only [L1.f, L1.st, L1.l, h.a, h.b, h.c, h.d, h.e, Bool.true_and, Bool.and_true, Bool.and_self, cond_true, ih] <;> rfl) (fun n j h => by simp only [L1.f, L1.st, L1.l, h, cond_false])
end pf09_Check
theorem take_names {β : Type} (l : List (BA × β)) {j : Nat} (h : j < l.length) : (l.take (j + 1)).map (·.1) = (l.take j).map (·.1) ++ [(l[j]).1] := by
 rw [List.take_succ_eq_append_getElem h, List.map_append]
 rfl
theorem pf09_Check.L0.law {α : Type} {N : Nat} (nm : BA) (ps : List (BA × Int × Int)) (ts : List TransT) (K : Int × Int → Option α) (k1 : Option α) : ∀ (l : List (BA × Int × Int)) (j : Nat), l = ps.drop j →
  pf09_Check.L0.l N nm ps ts (fun e i => K (e, i)) k1 l (j : Int) = match placesE ((ps.take j).map (·.1)) (j : Int) l with | some r => K r | none => k1
 | [], j, _ => rfl
 | x :: l, j, hl => by
  obtain ⟨hj, hx, hl'⟩ := drop_step hl
  have hpre : pf09_place.pre (nm, ps, ts) (j : Int) = true := by
   unfold pf09_place.pre
   rw [d_0, d_lt hj]
   rfl
  have hsp : pf09_place.spec (nm, ps, ts) (j : Int) = cond (addE ((ps.take j).map (·.1)) x.1 == 0) (placeE x) (addE ((ps.take j).map (·.1)) x.1) := by
   unfold pf09_place.spec plAt
   simp only
   rw [getD_at hj, hx, Int.toNat_natCast]
  have ih := pf09_Check.L0.law (N := N) nm ps ts K k1 l (j + 1) hl'
  rw [take_names ps hj, hx, succ_cast] at ih
  rw [pf09_Check.L0.l, hpre, cond_true, hsp, ih, placesE]
  have e : ∀ z : Int, (z != 0) = !(z == 0) := fun z => rfl
  rw [e]
  cases ha : addE ((ps.take j).map (·.1)) x.1 == 0
  ·
   simp only [cond_false, ha, Bool.not_false, cond_true]
  ·
   simp only [cond_true]
   cases hb : placeE x == 0 <;> rfl
theorem pf09_Check.L1.law {α : Type} {N : Nat} (nm : BA) (ps : List (BA × Int × Int)) (ts : List TransT) (hps : ps.length ≤ 1000) (hts : ts.length ≤ 1000) (K : Int × Int → Option α) (k1 : Option α) : ∀ (l : List TransT) (j : Nat), l = ts.drop j →
  pf09_Check.L1.l N nm ps ts (fun e i => K (e, i)) k1 l (j : Int) = match transesE (ps.length : Int) (ps.map (·.1) ++ (ts.take j).map (·.1)) (j : Int) l with | some r => K r | none => k1
 | [], j, _ => rfl
 | x :: l, j, hl => by
  obtain ⟨hj, hx, hl'⟩ := drop_step hl
  have hpre : pf09_trans.pre (nm, ps, ts) (j : Int) = true := by
   unfold pf09_trans.pre
   rw [d_0, d_lt hj]
   rfl
  have hsp : pf09_trans.spec (nm, ps, ts) (j : Int) = cond (addE (ps.map (·.1) ++ (ts.take j).map (·.1)) x.1 == 0) (transE x (ps.length : Int)) (addE (ps.map (·.1) ++ (ts.take j).map (·.1)) x.1) := by
   unfold pf09_trans.spec trAt
   simp only
   rw [getD_at hj, hx, Int.toNat_natCast]
  have ih := pf09_Check.L1.law (N := N) nm ps ts hps hts K k1 l (j + 1) hl'
  rw [take_names ts hj, hx, succ_cast, ← List.append_assoc] at ih
  have ew : IntKind.i64.wrap ((ps.length : Int) + (j : Int)) = (ps.length : Int) + (j : Int) := wrap_i64 (inI_i64.2 (by omega))
  rw [pf09_Check.L1.l, hpre, cond_true, hsp, ih, transesE, ew]
  have e : ∀ z : Int, (z != 0) = !(z == 0) := fun z => rfl
  rw [e]
  cases ha : addE (ps.map (·.1) ++ (ts.take j).map (·.1)) x.1 == 0
  ·
   simp only [cond_false, ha, Bool.not_false, cond_true]
  ·
   simp only [cond_true]
   cases hb : transE x (ps.length : Int) == 0 <;> rfl
theorem pf09_Check.law {α : Type} {N : Nat} (hN : 18446744073709551616 ≤ N) (a0 : BA × (List (BA × Int × Int)) × List (BA × (List (Int × Int)) × (List (Int × Int)) × (List (Int × Int)) × Int)) (w0 : K.wf (.st (.pr (.str) (.pr (.sl (.st (.pr (.str) (.pr (.int .i64) (.int .i64))))) (.sl (.st (.pr (.str) (.pr (.sl (.st (.pr (.int .i64) (.int .i64)))) (.pr (.sl (.st (.pr (.int .i64) (.int .i64)))) (.pr (.sl (.st (.pr (.int .i64) (.int .i64)))) (.int .i64)))))))))) a0) (kr : ((Int × Int) → Option α)) : pf09_Check.g N a0 kr = kr (pf09_Check.spec a0) := by
 unfold pf09_Check.g pf09_Check.spec checkN
 have en : pf09_Name.spec a0.1 = nameOk a0.1 := rfl
 rw [en]
 cases nameOk a0.1
 ·
  rfl
 ·
  simp only [Bool.not_true, cond_false, cond_true]
  by_cases h1 : List.length a0.2.1 < 1
  ·
   have e1 : decide (((List.length a0.2.1 : Nat) : Int) < 1) = true := decide_eq_true (by omega)
   rw [e1, decide_eq_true h1]
   rfl
  ·
   have e1 : decide (((List.length a0.2.1 : Nat) : Int) < 1) = false := decide_eq_false (by omega)
   rw [e1, decide_eq_false h1, cond_false, Bool.false_or]
   by_cases h2 : 24 < List.length a0.2.1
   ·
    have e2 : decide (24 < ((List.length a0.2.1 : Nat) : Int)) = true := decide_eq_true (by omega)
    rw [e2, decide_eq_true h2]
    rfl
   ·
    have e2 : decide (24 < ((List.length a0.2.1 : Nat) : Int)) = false := decide_eq_false (by omega)
    rw [e2, decide_eq_false h2, cond_false, Bool.false_or]
    by_cases h3 : 24 < List.length a0.2.2
    ·
     have e3 : decide (24 < ((List.length a0.2.2 : Nat) : Int)) = true := decide_eq_true (by omega)
     rw [e3, decide_eq_true h3]
     rfl
    ·
     have e3 : decide (24 < ((List.length a0.2.2 : Nat) : Int)) = false := decide_eq_false (by omega)
     rw [e3, decide_eq_false h3, cond_false, cond_false]
     refine (pf09_Check.L0.rng (N := N) a0.1 a0.2.1 a0.2.2 (by unfold maxLen; omega) _ _ N 0 (by omega) (Nat.zero_le _)).trans ?_
     rw [List.drop_zero]
     refine (pf09_Check.L0.law a0.1 a0.2.1 a0.2.2 (fun r => kr r) _ a0.2.1 0 rfl).trans ?_
     have e0 : (((0 : Nat) : Int)) = 0 := rfl
     rw [e0, List.take_zero, List.map_nil]
     cases placesE [] 0 a0.2.1 with
     | some r => rfl
     | none =>
      simp only
      refine (pf09_Check.L1.rng (N := N) a0.1 a0.2.1 a0.2.2 (by unfold maxLen; omega) _ _ N 0 (by omega) (Nat.zero_le _)).trans ?_
      rw [List.drop_zero]
      refine (pf09_Check.L1.law a0.1 a0.2.1 a0.2.2 (by omega) (by omega) (fun r => kr r) _ a0.2.2 0 rfl).trans ?_
      rw [List.take_zero, List.map_nil, List.append_nil, e0]
      cases transesE ((List.length a0.2.1 : Nat) : Int) (a0.2.1.map (·.1)) 0 a0.2.2 <;> rfl
theorem pf09_Check.ok : FentOk P 56 pf09_Check.fent := fentOk_of (by kernel_rfl) fun ds hk => by
 obtain ⟨a0, l0, rfl, h0⟩ := ds_cons hk
 obtain rfl := ds0 h0
 exact ⟨true, [.dat (.st (.pr (.int .i64) (.int .i64))) (pf09_Check.spec a0)], fun h hw => pf09_Check.calls 18446744073709551616 a0 (pf09_Check.law (Nat.le_refl _) a0 hw.1 _), fun α k => rfl⟩
end Go.VI
namespace Go.VI
open Go Go.Proofs
namespace pf12_known
def an66 : Ann := [(2, [1, 2, 5], [1, 2, 4]), (7, [1, 2, 6], [4])]
def L0.sh : Sh := { sl := [(1, SV.a (SA.d K.str)), (2, SV.a (SA.fx (Atom.box 0 0))), (5, SV.a (SA.d (K.int IntKind.i64)))], os := [(0, SO.box [SA.d K.str, SA.d (K.str.pr ((K.int IntKind.i64).pr (K.int IntKind.i64))).st.sl, SA.d (K.str.pr (((K.int IntKind.i64).pr (K.int IntKind.i64)).st.sl.pr (((K.int IntKind.i64).pr (K.int IntKind.i64)).st.sl.pr (((K.int IntKind.i64).pr (K.int IntKind.i64)).st.sl.pr (K.int IntKind.i64))))).st.sl])], nx := 1 }
def L0.x0 : Sh := { sl := [(1, SV.a (SA.d K.str)), (2, SV.a (SA.fx (Atom.box 0 0))), (4, SV.a (SA.d K.bool))], os := [(0, SO.box [SA.d K.str, SA.d (K.str.pr ((K.int IntKind.i64).pr (K.int IntKind.i64))).st.sl, SA.d (K.str.pr (((K.int IntKind.i64).pr (K.int IntKind.i64)).st.sl.pr (((K.int IntKind.i64).pr (K.int IntKind.i64)).st.sl.pr (((K.int IntKind.i64).pr (K.int IntKind.i64)).st.sl.pr (K.int IntKind.i64))))).st.sl])], nx := 1 }
def L0.x1 : Sh := { sl := [(1, SV.a (SA.d K.str)), (2, SV.a (SA.fx (Atom.box 0 0))), (4, SV.j)], os := [(0, SO.box [SA.d K.str, SA.d (K.str.pr ((K.int IntKind.i64).pr (K.int IntKind.i64))).st.sl, SA.d (K.str.pr (((K.int IntKind.i64).pr (K.int IntKind.i64)).st.sl.pr (((K.int IntKind.i64).pr (K.int IntKind.i64)).st.sl.pr (((K.int IntKind.i64).pr (K.int IntKind.i64)).st.sl.pr (K.int IntKind.i64))))).st.sl])], nx := 1 }
def L0.st {α : Type} (N : Nat) (x0 : BA) (x3 : (List (BA × Int × Int))) (φ : (Int → Option α)) (x1 : Int) (k0 : (Bool → Option α)) (k1 : Option α) : Option α :=
 cond (decide (x1 < (↑x3.length : Int))) (cond (decide (0 ≤ x1) && decide (x1 < (↑x3.length : Int))) (cond (sEq (x3.getD x1.toNat (eBA, 0, 0)).fst x0) (k0 (true)) (φ (IntKind.i64.wrap (x1 + 1)))) (none)) (k1 )
def L0.f {α : Type} (N : Nat) (c0 : BA) (c2 : (List (BA × Int × Int))) : Nat → Int → (Bool → Option α) → Option α → Option α
 | 0, _, _, _ => none
 | n + 1, d0, k0, k1 => L0.st N c0 c2 (fun e0 => L0.f N c0 c2 n e0 k0 k1) d0 k0 k1
def L0.up (d : L0.sh.T) (e0 : Int) : L0.sh.T := ((d.1.1, ((), (e0, ()))), ((d.2.1.1, (d.2.1.2.1, (d.2.1.2.2.1, ()))), ()))
def L0.k0 {α : Type} (d : L0.sh.T) (K : Cont α) : (Bool → Option α) := fun y0 => K (Exit.ret) (L0.x0.enc ((d.1.1, ((), (y0, ()))), ((d.2.1.1, (d.2.1.2.1, (d.2.1.2.2.1, ()))), ())))
def L0.k1 {α : Type} (d : L0.sh.T) (K : Cont α) : Option α := K (Exit.exit 0) (L0.x1.enc ((d.1.1, ((), ((), ()))), ((d.2.1.1, (d.2.1.2.1, (d.2.1.2.2.1, ()))), ())))
def L0.F {α : Type} (N : Nat) (d : L0.sh.T) (K : Cont α) : Option α := L0.f N d.1.1 d.2.1.2.1 N d.1.2.2.1 (L0.k0 d K) (L0.k1 d K)
def L1.sh : Sh := { sl := [(1, SV.a (SA.d K.str)), (2, SV.a (SA.fx (Atom.box 0 0))), (6, SV.a (SA.d (K.int IntKind.i64)))], os := [(0, SO.box [SA.d K.str, SA.d (K.str.pr ((K.int IntKind.i64).pr (K.int IntKind.i64))).st.sl, SA.d (K.str.pr (((K.int IntKind.i64).pr (K.int IntKind.i64)).st.sl.pr (((K.int IntKind.i64).pr (K.int IntKind.i64)).st.sl.pr (((K.int IntKind.i64).pr (K.int IntKind.i64)).st.sl.pr (K.int IntKind.i64))))).st.sl])], nx := 1 }
def L1.x0 : Sh := { sl := [(4, SV.a (SA.d K.bool))], os := [], nx := 0 }
def L1.x1 : Sh := { sl := [(4, SV.j)], os := [], nx := 0 }
def L1.st {α : Type} (N : Nat) (x6 : BA) (x10 : (List (BA × List (Int × Int) × List (Int × Int) × List (Int × Int) × Int))) (φ : (Int → Option α)) (x7 : Int) (k0 : (Bool → Option α)) (k1 : Option α) : Option α :=
 cond (decide (x7 < (↑x10.length : Int))) (cond (decide (0 ≤ x7) && decide (x7 < (↑x10.length : Int))) (cond (sEq (x10.getD x7.toNat (eBA, [], [], [], 0)).fst x6) (k0 (true)) (φ (IntKind.i64.wrap (x7 + 1)))) (none)) (k1 )
def L1.f {α : Type} (N : Nat) (c0 : BA) (c3 : (List (BA × List (Int × Int) × List (Int × Int) × List (Int × Int) × Int))) : Nat → Int → (Bool → Option α) → Option α → Option α
 | 0, _, _, _ => none
 | n + 1, d0, k0, k1 => L1.st N c0 c3 (fun e0 => L1.f N c0 c3 n e0 k0 k1) d0 k0 k1
def L1.up (d : L1.sh.T) (e0 : Int) : L1.sh.T := ((d.1.1, ((), (e0, ()))), ((d.2.1.1, (d.2.1.2.1, (d.2.1.2.2.1, ()))), ()))
def L1.k0 {α : Type} (d : L1.sh.T) (K : Cont α) : (Bool → Option α) := fun y0 => K (Exit.ret) (L1.x0.enc ((y0, ()), ()))
def L1.k1 {α : Type} (d : L1.sh.T) (K : Cont α) : Option α := K (Exit.exit 2) (L1.x1.enc (((), ()), ()))
def L1.F {α : Type} (N : Nat) (d : L1.sh.T) (K : Cont α) : Option α := L1.f N d.1.1 d.2.1.2.2.1 N d.1.2.2.1 (L1.k0 d K) (L1.k1 d K)
def ents66 {α : Type} (N : Nat) : List (SmE α) := [⟨0, 50, 2, [⟨L0.sh, L0.F N⟩]⟩, ⟨0, 50, 7, [⟨L1.sh, L1.F N⟩]⟩]
def C (N : Nat) : Ctx := ⟨tys, [], [], N⟩
def L0.B {α : Type} (N : Nat) : Env → Cont α → Option α := evC tys 37 0 (evCall (C N) 50) (evCallQ (C N)) N an66 (smL (ents66 N) 0 50) (loopOf 2 Tryd.f66)
theorem L0.r {α : Type} (N : Nat) (φ : Env → Option α) (K : Cont α) (d : L0.sh.T) : L0.B N (L0.sh.enc d) (contL φ K (Env.norm 0 [1, 2, 5]) (Env.norm 0 [1, 2, 4])) = L0.st N d.1.1 d.2.1.2.1 (fun e0 => φ (L0.sh.enc (L0.up d e0))) d.1.2.2.1 (L0.k0 d K) (L0.k1 d K) := by kernel_rfl
theorem L0.e {α : Type} (N : Nat) : ∀ (n : Nat) (d : L0.sh.T) (K : Cont α), evL (L0.B N) (Env.norm 0 [1, 2, 5]) (Env.norm 0 [1, 2, 4]) n (L0.sh.enc d) K = L0.f N d.1.1 d.2.1.2.1 n d.1.2.2.1 (L0.k0 d K) (L0.k1 d K)
 | 0, d, K => rfl
 | n + 1, d, K => evL_contL.trans ((L0.r N _ K d).trans (congrArg (fun φ => L0.st N d.1.1 d.2.1.2.1 φ d.1.2.2.1 (L0.k0 d K) (L0.k1 d K)) (funext fun e0 => L0.e N n (L0.up d e0) K)))
def L1.B {α : Type} (N : Nat) : Env → Cont α → Option α := evC tys 37 0 (evCall (C N) 50) (evCallQ (C N)) N an66 (smL (ents66 N) 0 50) (loopOf 7 Tryd.f66)
theorem L1.r {α : Type} (N : Nat) (φ : Env → Option α) (K : Cont α) (d : L1.sh.T) : L1.B N (L1.sh.enc d) (contL φ K (Env.norm 0 [1, 2, 6]) (Env.norm 0 [4])) = L1.st N d.1.1 d.2.1.2.2.1 (fun e0 => φ (L1.sh.enc (L1.up d e0))) d.1.2.2.1 (L1.k0 d K) (L1.k1 d K) := by kernel_rfl
theorem L1.e {α : Type} (N : Nat) : ∀ (n : Nat) (d : L1.sh.T) (K : Cont α), evL (L1.B N) (Env.norm 0 [1, 2, 6]) (Env.norm 0 [4]) n (L1.sh.enc d) K = L1.f N d.1.1 d.2.1.2.2.1 n d.1.2.2.1 (L1.k0 d K) (L1.k1 d K)
 | 0, d, K => rfl
 | n + 1, d, K => evL_contL.trans ((L1.r N _ K d).trans (congrArg (fun φ => L1.st N d.1.1 d.2.1.2.2.1 φ d.1.2.2.1 (L1.k0 d K) (L1.k1 d K)) (funext fun e0 => L1.e N n (L1.up d e0) K)))
theorem ents66_ok {α : Type} (N : Nat) : AllP (EntOk (C N) Tryd.f66 an66 (ents66 (α := α) N)) (ents66 N) := ⟨entOk_of (b0 := loopOf 2 Tryd.f66) (li0 := [1, 2, 5]) (lx0 := [1, 2, 4]) (by kernel_rfl) (by kernel_rfl) ⟨fun d K => L0.e N N d K, trivial⟩, entOk_of (b0 := loopOf 7 Tryd.f66) (li0 := [1, 2, 6]) (lx0 := [4]) (by kernel_rfl) (by kernel_rfl) ⟨fun d K => L1.e N N d K, trivial⟩, trivial⟩
def g {α : Type} (N : Nat) (a0 : BA × List (BA × Int × Int) × List (BA × List (Int × Int) × List (Int × Int) × List (Int × Int) × Int)) (a1 : BA) (kr : (Bool → Option α)) : Option α :=
 L0.f N (a1) (a0.snd.fst) N (0) (fun x5 => kr (x5)) (L1.f N (a1) (a0.snd.snd) N (0) (fun x11 => kr (x11)) (kr (false)))
theorem eq (N : Nat) (a0 : BA × List (BA × Int × Int) × List (BA × List (Int × Int) × List (Int × Int) × List (Int × Int) × Int)) (a1 : BA) : evF (C N) 50 Tryd.f66 an66 (smL (ents66 N) 0 50) [((.bool : K), false)] [⟨.st (.pr (.str) (.pr (.sl (.st (.pr (.str) (.pr (.int .i64) (.int .i64))))) (.sl (.st (.pr (.str) (.pr (.sl (.st (.pr (.int .i64) (.int .i64)))) (.pr (.sl (.st (.pr (.int .i64) (.int .i64)))) (.pr (.sl (.st (.pr (.int .i64) (.int .i64)))) (.int .i64))))))))), a0⟩, ⟨.str, a1⟩] = g N a0 a1 (fun r0 => some [.dat (K.bool) r0]) := by kernel_rfl
theorem ctxOk (N : Nat) : CtxOk P (C N) := ctxOk_of tysOk mixedOk trivial trivial
theorem calls (N : Nat) (a0 : BA × List (BA × Int × Int) × List (BA × List (Int × Int) × List (Int × Int) × List (Int × Int) × Int)) (a1 : BA) {rs : List Rs} (h : g N a0 a1 (fun r0 => some [.dat (K.bool) r0]) = some rs) : CallsTo P 66 [⟨.st (.pr (.str) (.pr (.sl (.st (.pr (.str) (.pr (.int .i64) (.int .i64))))) (.sl (.st (.pr (.str) (.pr (.sl (.st (.pr (.int .i64) (.int .i64)))) (.pr (.sl (.st (.pr (.int .i64) (.int .i64)))) (.pr (.sl (.st (.pr (.int .i64) (.int .i64)))) (.int .i64))))))))), a0⟩, ⟨.str, a1⟩] rs := evF_calls' (ctxOk N) (by rfl) (ents66_ok N) ((eq N a0 a1).trans h)
def L0.l {α : Type} (N : Nat) (x0 : BA) (x3 : (List (BA × Int × Int))) (k0 : (Bool → Option α)) (k1 : Option α) : List (BA × Int × Int) → Int → Option α
 | [], x1 => k1 
 | x :: l, x1 => (cond (sEq x.fst x0) (k0 (true)) (L0.l N x0 x3 k0 k1 l (x1 + 1)))
theorem L0.rng {α : Type} {N : Nat} (x0 : BA) (x3 : (List (BA × Int × Int))) (hl : x3.length ≤ maxLen) (k0 : (Bool → Option α)) (k1 : Option α) : ∀ (n j : Nat), x3.length < n + j → j ≤ x3.length → L0.f N x0 x3 n (j : Int) k0 k1 = L0.l N x0 x3 k0 k1 (x3.drop j) (j : Int) :=
 rng0 x3 hl (fun n i => L0.f N x0 x3 n i k0 k1) (fun l i => L0.l N x0 x3 k0 k1 l i) (fun n j hj h ih => by simp only [L0.f, L0.st, L0.l, h.a, h.b, h.c, h.d, h.e, Bool.true_and, Bool.and_true, Bool.and_self, cond_true, ih] <;> rfl) (fun n j h => by simp only [L0.f, L0.st, L0.l, h, cond_false])
def L1.l {α : Type} (N : Nat) (x6 : BA) (x10 : (List (BA × List (Int × Int) × List (Int × Int) × List (Int × Int) × Int))) (k0 : (Bool → Option α)) (k1 : Option α) : List (BA × List (Int × Int) × List (Int × Int) × List (Int × Int) × Int) → Int → Option α
 | [], x7 => k1 
 | x :: l, x7 => (cond (sEq x.fst x6) (k0 (true)) (L1.l N x6 x10 k0 k1 l (x7 + 1)))
theorem L1.rng {α : Type} {N : Nat} (x6 : BA) (x10 : (List (BA × List (Int × Int) × List (Int × Int) × List (Int × Int) × Int))) (hl : x10.length ≤ maxLen) (k0 : (Bool → Option α)) (k1 : Option α) : ∀ (n j : Nat), x10.length < n + j → j ≤ x10.length → L1.f N x6 x10 n (j : Int) k0 k1 = L1.l N x6 x10 k0 k1 (x10.drop j) (j : Int) :=
 rng0 x10 hl (fun n i => L1.f N x6 x10 n i k0 k1) (fun l i => L1.l N x6 x10 k0 k1 l i) (fun n j hj h ih => by simp only [L1.f, L1.st, L1.l, h.a, h.b, h.c, h.d, h.e, Bool.true_and, Bool.and_true, Bool.and_self, cond_true, ih] <;> rfl) (fun n j h => by simp only [L1.f, L1.st, L1.l, h, cond_false])
end pf12_known
theorem pf12_known.L0.law {α : Type} {N : Nat} (x0 : BA) (x3 : (List (BA × Int × Int))) (k0 : (Bool → Option α)) (k1 : Option α) : ∀ l j, pf12_known.L0.l N x0 x3 k0 k1 l j = cond (l.any fun p => sEq p.1 x0) (k0 true) k1
 | [], j => rfl
 | x :: l, j => by
  rw [pf12_known.L0.l, pf12_known.L0.law, List.any_cons]
  cases sEq x.1 x0 <;> rfl
theorem pf12_known.L1.law {α : Type} {N : Nat} (x6 : BA) (x10 : (List (BA × List (Int × Int) × List (Int × Int) × List (Int × Int) × Int))) (k0 : (Bool → Option α)) (k1 : Option α) : ∀ l j, pf12_known.L1.l N x6 x10 k0 k1 l j = cond (l.any fun p => sEq p.1 x6) (k0 true) k1
 | [], j => rfl
 | x :: l, j => by
  rw [pf12_known.L1.l, pf12_known.L1.law, List.any_cons]
  cases sEq x.1 x6 <;> rfl
theorem pf12_known.law {α : Type} {N : Nat} (hN : 18446744073709551616 ≤ N) (a0 : BA × (List (BA × Int × Int)) × List (BA × (List (Int × Int)) × (List (Int × Int)) × (List (Int × Int)) × Int)) (a1 : BA) (w0 : K.wf (.st (.pr (.str) (.pr (.sl (.st (.pr (.str) (.pr (.int .i64) (.int .i64))))) (.sl (.st (.pr (.str) (.pr (.sl (.st (.pr (.int .i64) (.int .i64)))) (.pr (.sl (.st (.pr (.int .i64) (.int .i64)))) (.pr (.sl (.st (.pr (.int .i64) (.int .i64)))) (.int .i64)))))))))) a0) (w1 : K.wf (.str) a1) (kr : (Bool → Option α)) : pf12_known.g N a0 a1 kr = kr (pf12_known.spec a0 a1) := by
 unfold pf12_known.g pf12_known.spec knownN
 refine (pf12_known.L0.rng (N := N) _ _ (w0.2.1.1) _ _ N 0  (by have := le_fuel (w0.2.1.1) hN; omega) (Nat.zero_le _)).trans ?_
 rw [List.drop_zero, pf12_known.L0.law]
 cases (List.any a0.2.1 _)
 ·
  simp only [cond_false, Bool.false_or]
  refine (pf12_known.L1.rng (N := N) _ _ (w0.2.2.1) _ _ N 0  (by have := le_fuel (w0.2.2.1) hN; omega) (Nat.zero_le _)).trans ?_
  rw [List.drop_zero, pf12_known.L1.law]
  cases (List.any a0.2.2 _) <;> rfl
 ·
  rfl
theorem pf12_known.ok : FentOk P 66 pf12_known.fent := fentOk_of (by kernel_rfl) fun ds hk => by
 obtain ⟨a0, l0, rfl, h0⟩ := ds_cons hk
 obtain ⟨a1, l1, rfl, h1⟩ := ds_cons h0
 obtain rfl := ds0 h1
 exact ⟨true, [.dat (.bool) (pf12_known.spec a0 a1)], fun h hw => pf12_known.calls 18446744073709551616 a0 a1 (pf12_known.law (Nat.le_refl _) a0 a1 hw.1 hw.2.1 _), fun α k => rfl⟩
end Go.VI
