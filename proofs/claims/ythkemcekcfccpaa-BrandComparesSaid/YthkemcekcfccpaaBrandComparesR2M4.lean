/-
  The reference's functions 'Same', 'Compare', 'Keys', in plain Lean, by the marks of values.
  Arguments: values that are read as data are values of plain Lean (S27), well formed.
  'lives' of posternlaw04: some of the chapter's answers.
  Keys of package brand; the law BrandCompares, walked.
-/
import Derived.Test.YthkemcekcfccpaaBrandComparesR2M3
import Derived.Test.YthkemcekcfccpaaPBrandComparesx2
import Derived.Test.YthkemcekcfccpaaPBrandComparesx5
import Derived.Test.YthkemcekcfccpaaPBrandComparesx6
import Derived.Deep.Slices
import Derived.ChangeMaps5
import Derived.WideShapes
import Derived.StillTailTactics
namespace Go.Proofs.Ythkemcekcfccpaa.PBrandCompares
open Go.RowKit Go.Proofs.YthkemcekcfccpaaW.PrintWords Go.Proofs.YthkemcekcfccpaaW.PrintLast Go.Proofs.YthkemcekcfccpaaW.PrintMore
open Go.Proofs.Ythkemcekcfccpaa.GBrandCompares
set_option linter.unusedVariables false
set_option linter.unusedSimpArgs false

abbrev sameE (x y : S27) (k : Nat) : Option Bool := posternref04_Same.f k x.f0 x.f1 x.f2 x.f3 x.f4 y.f0 y.f1 y.f2 y.f3 y.f4
abbrev sameLE (x y : S27) (i : Int) (k : Nat) : Option Bool := posternref04_Same.l0 k i x.f0 x.f1 x.f2 x.f3 x.f4 y.f0 y.f1 y.f2 y.f3 y.f4

theorem bytes_eq (s t : ByteArray) : s.toList = t.toList ↔ s = t := by
  rw [ByteArray.toList_eq, ByteArray.toList_eq]
  obtain ⟨⟨l⟩⟩ := s
  obtain ⟨⟨m⟩⟩ := t
  simp

theorem S27.ext {x y : S27} (h0 : x.f0 = y.f0) (h1 : x.f1 = y.f1) (h2 : x.f2 = y.f2) (h3 : x.f3 = y.f3) (h4 : x.f4 = y.f4) : x = y := by
  cases x; cases y; simp only at h0 h1 h2 h3 h4; simp [h0, h1, h2, h3, h4]

/-- no list of it is longer than an int says -/
inductive Lens : S27 → Prop
  | mk {x : S27} : x.f3.length ≤ 9223372036854775807 → (∀ y ∈ x.f3, Lens y) → Lens x
theorem Lens.len {x : S27} (h : Lens x) : x.f3.length ≤ 9223372036854775807 := by cases h; assumption
theorem Lens.sub {x y : S27} (h : Lens x) (hy : y ∈ x.f3) : Lens y := by cases h with | mk _ h => exact h y hy
theorem Wf.lens {x : S27} : Wf x → Lens x := by
  induction x using S27.ind with
  | h x ih => intro h; exact .mk h.len fun y hy => ih y hy (h.sub hy)

theorem same_ev (x : S27) : ∀ y : S27, Lens x → ∃ b, Ev (sameE x y) b ∧ (b = true ↔ x = y) := by
  induction x using S27.ind with
  | h x ih =>
    intro y hw
    have hlen := hw.len
    have hloop : x.f3.length = y.f3.length → ∀ (m i : Nat), m + i = x.f3.length → ∃ b, Ev (sameLE x y i) b ∧ (b = true ↔ x.f3.drop i = y.f3.drop i) := by
      intro hl m
      induction m with
      | zero =>
        intro i hi
        refine ⟨true, Ev.step (f := fun k => some true) (fun k => ?_) (Ev.now true), ?_⟩
        · simp only [sameLE, posternref04_Same.l0]; rw [if_neg (by omega)]
        · rw [List.drop_eq_nil_of_le (by omega), List.drop_eq_nil_of_le (by omega)]; simp
      | succ m ihm =>
        intro i hi
        have hlt : i < x.f3.length := by omega
        rw [drop_rd hlt, drop_rd (xs := y.f3) (i := i) (by omega)]
        obtain ⟨b1, h1, hf1⟩ := ih _ (rd_mem hlt) (rd_T27 y.f3 i) (hw.sub (rd_mem hlt))
        have hstep : ∀ k, sameLE x y i (k + 1) = (sameE (rd_T27 x.f3 i) (rd_T27 y.f3 i) k).bind fun t => if t = true then sameLE x y ((i + 1 : Nat) : Int) k else some false := by
          intro k
          simp only [sameLE, posternref04_Same.l0]
          rw [if_pos (by omega), if_pos (by omega), if_pos (by omega), wrap_id (n := (i : Int) + 1) (by omega) (by omega)]
          rfl
        cases b1
        · refine ⟨false, Ev.step hstep (Ev.bind h1 (by simpa using Ev.now false)), ?_⟩
          refine ⟨fun h => by simp at h, fun h => ?_⟩
          have := hf1.2 (List.cons.inj h).1
          simp at this
        · obtain ⟨b2, h2, hf2⟩ := ihm (i + 1) (by omega)
          refine ⟨b2, Ev.step hstep (Ev.bind h1 (by simpa using h2)), ?_⟩
          rw [hf2, hf1.1 rfl]
          simp
    have hjt : Ev (fun k => posternref04_Same.j0 k true x.f0 x.f1 x.f2 x.f3 x.f4 y.f0 y.f1 y.f2 y.f3 y.f4) false := Ev.step (f := fun k => some false) (fun k => by simp [posternref04_Same.j0]) (Ev.now false)
    by_cases h0 : x.f0 = y.f0
    · by_cases h1 : x.f1 = y.f1
      · by_cases h2 : x.f2 = y.f2
        · by_cases h4 : x.f4 = y.f4
          · by_cases hl : x.f3.length = y.f3.length
            · obtain ⟨b, hb, hf⟩ := hloop hl x.f3.length 0 (by omega)
              refine ⟨b, Ev.step (f := fun k => posternref04_Same.j0 k ((x.f3.length : Int) != (y.f3.length : Int)) x.f0 x.f1 x.f2 x.f3 x.f4 y.f0 y.f1 y.f2 y.f3 y.f4) (fun k => ?_) ?_, ?_⟩
              · simp only [sameE, posternref04_Same.f]; rw [if_pos h0, if_pos h1, if_pos ((bytes_eq _ _).2 h2), if_pos h4]
              · refine Ev.step (f := fun k => sameLE x y 0 k) (fun k => ?_) (by simpa using hb)
                have : ((x.f3.length : Int) != (y.f3.length : Int)) = false := by simp [hl]
                simp [posternref04_Same.j0, this]
              · rw [hf]
                simp only [List.drop_zero]
                exact ⟨fun h => S27.ext h0 h1 h2 h h4, fun h => by rw [h]⟩
            · refine ⟨false, Ev.step (f := fun k => posternref04_Same.j0 k ((x.f3.length : Int) != (y.f3.length : Int)) x.f0 x.f1 x.f2 x.f3 x.f4 y.f0 y.f1 y.f2 y.f3 y.f4) (fun k => ?_) ?_, ?_⟩
              · simp only [sameE, posternref04_Same.f]; rw [if_pos h0, if_pos h1, if_pos ((bytes_eq _ _).2 h2), if_pos h4]
              · rw [show ((x.f3.length : Int) != (y.f3.length : Int)) = true by simp; omega]; exact hjt
              · refine ⟨fun h => by simp at h, fun h => absurd (by rw [h]) hl⟩
          · refine ⟨false, Ev.step (fun k => ?_) hjt, ⟨fun h => by simp at h, fun h => absurd (by rw [h]) h4⟩⟩
            simp only [sameE, posternref04_Same.f]; rw [if_pos h0, if_pos h1, if_pos ((bytes_eq _ _).2 h2), if_neg h4]
        · refine ⟨false, Ev.step (fun k => ?_) hjt, ⟨fun h => by simp at h, fun h => absurd (by rw [h]) h2⟩⟩
          simp only [sameE, posternref04_Same.f]; rw [if_pos h0, if_pos h1, if_neg (fun h => h2 ((bytes_eq _ _).1 h))]
      · refine ⟨false, Ev.step (fun k => ?_) hjt, ⟨fun h => by simp at h, fun h => absurd (by rw [h]) h1⟩⟩
        simp only [sameE, posternref04_Same.f]; rw [if_pos h0, if_neg h1]
    · refine ⟨false, Ev.step (fun k => ?_) hjt, ⟨fun h => by simp at h, fun h => absurd (by rw [h]) h0⟩⟩
      simp only [sameE, posternref04_Same.f]; rw [if_neg h0]

/-! shape -/
def shapeV (x : S27) : Int := if x.f0 = 3 then (if x.f3.length = 2 then 3 else 5) else x.f0
theorem shape_eq (x : S27) (hw : Wf x) : posternref04_shape.f x.f0 x.f1 x.f2 x.f3 x.f4 = some (shapeV x) := by
  have h0 := hw.lo
  have h1 := hw.hi
  unfold posternref04_shape.f shapeV
  rw [wrap_id (n := x.f0) (by omega) (by omega)]
  split
  · rename_i h
    split
    · rw [if_pos (by omega), h]
    · rw [if_neg (by omega)]
  · rfl

theorem mark_shape {x : S27} {m : Mk} (hf : Field x) (h : MarkOf x m) : shapeV x = match m with | .nothing => 0 | .number _ => 1 | .text _ => 2 | .refer _ => 4 | .pair _ _ => 3 | .row _ => 5 := by
  unfold shapeV
  unfold Field at hf
  cases m with
  | nothing => have := h.1; have := h.2.1; have := h.2.2.1; have := h.2.2.2; rw [if_neg (by omega)]; show x.f0 = 0; omega
  | number n => have := h.1; rw [if_neg (by omega)]; exact this
  | text s => have := h.1; rw [if_neg (by omega)]; exact this
  | refer r => have := h.1; rw [if_neg (by omega)]; exact this
  | pair a b =>
    obtain ⟨h3, y, z, hl, _⟩ := h
    rw [if_pos h3, if_pos (by rw [hl]; rfl)]
  | row v => rw [if_pos h.1, if_neg h.2]

theorem nil_of_size {s : ByteArray} (h : s.size = 0) : s = ByteArray.empty := by
  obtain ⟨⟨l⟩⟩ := s
  have : l.length = 0 := h
  rw [List.length_eq_zero_iff] at this
  subst this
  rfl
theorem same_of_nil {s t : ByteArray} (h : s.size = 0) (h' : t.size = 0) : s = t := (nil_of_size h).trans (nil_of_size h').symm
theorem list_of_nil {l m : List S27} (h : l.length = 0) (h' : m.length = 0) : l = m := by rw [List.length_eq_zero_iff.1 h, List.length_eq_zero_iff.1 h']

/-- of two of one plain kind: equal just if their marks are -/
theorem plain_cmp {x y : S27} {m m2 : Mk} (hf : Field x) (hg : Field y) (h : MarkOf x m) (h2 : MarkOf y m2) (hs : shapeV x = shapeV y) (h5 : shapeV x ≠ 5) (h3 : shapeV x ≠ 3) : (x = y → m.cmp m2 = 1) ∧ (x ≠ y → m.cmp m2 = 0) := by
  have e1 := mark_shape hf h
  have e2 := mark_shape hg h2
  rw [hs, e2] at e1
  rw [hs, e2] at h5 h3
  cases m with
  | nothing =>
    cases m2 <;> simp at e1
    have k1 : x.f0 = 0 := by have := h.1; have := h.2.1; have := h.2.2.1; have := h.2.2.2; unfold Field at hf; omega
    have k2 : y.f0 = 0 := by have := h2.1; have := h2.2.1; have := h2.2.2.1; have := h2.2.2.2; unfold Field at hg; omega
    refine ⟨fun _ => rfl, fun hn => absurd ?_ hn⟩
    unfold Field at hf hg
    exact S27.ext (by omega) (by omega) (same_of_nil (by omega) (by omega)) (list_of_nil (by omega) (by omega)) (by omega)
  | number n =>
    cases m2 <;> simp at e1
    rename_i n2
    have k1 := h.1; have k2 := h2.1; have l1 := h.2; have l2 := h2.2
    simp only [Mk.cmp]
    refine ⟨fun he => if_pos (by rw [l1, l2, he]), fun hn => if_neg fun he => hn ?_⟩
    unfold Field at hf hg
    exact S27.ext (by omega) (by omega) (same_of_nil (by omega) (by omega)) (list_of_nil (by omega) (by omega)) (by omega)
  | text s =>
    cases m2 <;> simp at e1
    rename_i s2
    have k1 := h.1; have k2 := h2.1; have l1 := h.2; have l2 := h2.2
    simp only [Mk.cmp]
    refine ⟨fun he => if_pos (by rw [l1, l2, he]), fun hn => if_neg fun he => hn ?_⟩
    unfold Field at hf hg
    exact S27.ext (by omega) (by omega) (by rw [← l1, ← l2, he]) (list_of_nil (by omega) (by omega)) (by omega)
  | refer r =>
    cases m2 <;> simp at e1
    rename_i r2
    have k1 := h.1; have k2 := h2.1; have l1 := h.2; have l2 := h2.2
    simp only [Mk.cmp]
    refine ⟨fun he => if_pos (by rw [l1, l2, he]), fun hn => if_neg fun he => hn ?_⟩
    unfold Field at hf hg
    exact S27.ext (by omega) (by omega) (same_of_nil (by omega) (by omega)) (list_of_nil (by omega) (by omega)) (by omega)
  | pair a b => cases m2 <;> simp at e1 <;> exact absurd rfl h3
  | row v => cases m2 <;> simp at e1 <;> exact absurd rfl h5

theorem cmp_unlike {x y : S27} {m m2 : Mk} (hf : Field x) (hg : Field y) (h : MarkOf x m) (h2 : MarkOf y m2) (hs : shapeV x ≠ shapeV y) : m.cmp m2 = 0 := by
  rw [mark_shape hf h, mark_shape hg h2] at hs
  cases m <;> cases m2 <;> first | rfl | exact absurd rfl hs

abbrev compareE (x y : S27) (k : Nat) : Option Int := posternref04_Compare.f k x.f0 x.f1 x.f2 x.f3 x.f4 y.f0 y.f1 y.f2 y.f3 y.f4

theorem rd_two {y z : S27} : rd_T27 [y, z] 0 = y ∧ rd_T27 [y, z] 1 = z := ⟨rfl, rfl⟩

theorem compare_ev (m : Mk) : ∀ (x y : S27) (m2 : Mk), MarkOf x m → MarkOf y m2 → Fields x → Fields y → Wf x → Wf y → Ev (compareE x y) (m.cmp m2 : Int) := by
  have hplain : ∀ (m : Mk) (x y : S27) (m2 : Mk), MarkOf x m → MarkOf y m2 → Fields x → Fields y → Wf x → Wf y → (shapeV x = shapeV y → shapeV x ≠ 3) → Ev (compareE x y) (m.cmp m2 : Int) := by
    intro m x y m2 h h2 hf hg hw hv h3
    have s1 := shape_eq x hw
    have s2 := shape_eq y hv
    by_cases hs : shapeV x = shapeV y
    · by_cases h5 : shapeV x = 5
      · have hc : m.cmp m2 = 2 := by
          have e1 := mark_shape hf.now h
          have e2 := mark_shape hg.now h2
          rw [h5] at e1
          rw [← hs, h5] at e2
          cases m <;> simp at e1
          cases m2 <;> simp at e2
          rfl
        rw [hc]
        refine Ev.step (f := fun k => some 2) (fun k => ?_) (Ev.now _)
        simp only [compareE, posternref04_Compare.f, s1, s2, Option.bind_some]
        rw [if_pos hs, if_pos h5]
      · obtain ⟨b, hb, hbi⟩ := same_ev x y hw.lens
        have hp := plain_cmp hf.now hg.now h h2 hs h5 (h3 hs)
        refine Ev.step (f := fun k => (sameE x y k).bind fun t => if t = true then some 1 else some 0) (fun k => ?_) (Ev.bind hb ?_)
        · simp only [compareE, posternref04_Compare.f, s1, s2, Option.bind_some]
          rw [if_pos hs, if_neg h5, if_neg (h3 hs)]
        · cases b
          · have hn : x ≠ y := fun he => by have := hbi.2 he; simp at this
            rw [hp.2 hn]
            simpa using Ev.now (0 : Int)
          · rw [hp.1 (hbi.1 rfl)]
            simpa using Ev.now (1 : Int)
    · rw [cmp_unlike hf.now hg.now h h2 hs]
      refine Ev.step (f := fun k => some 0) (fun k => ?_) (Ev.now _)
      simp only [compareE, posternref04_Compare.f, s1, s2, Option.bind_some]
      rw [if_neg hs]
  induction m with
  | pair a b iha ihb =>
    intro x y m2 h h2 hf hg hw hv
    by_cases hs : shapeV x = shapeV y
    · have e1 := mark_shape hf.now h
      have e2 := mark_shape hg.now h2
      cases m2 with
      | pair a2 b2 =>
        have s1 := shape_eq x hw
        have s2 := shape_eq y hv
        obtain ⟨k3, y1, z1, hl, ha, hb⟩ := h
        obtain ⟨k32, y2, z2, hl2, ha2, hb2⟩ := h2
        have m1 : y1 ∈ x.f3 := by rw [hl]; simp
        have m2 : z1 ∈ x.f3 := by rw [hl]; simp
        have m3 : y2 ∈ y.f3 := by rw [hl2]; simp
        have m4 : z2 ∈ y.f3 := by rw [hl2]; simp
        have c1 := iha y1 y2 a2 ha ha2 (hf.sub m1) (hg.sub m3) (hw.sub m1) (hv.sub m3)
        have c2 := ihb z1 z2 b2 hb hb2 (hf.sub m2) (hg.sub m4) (hw.sub m2) (hv.sub m4)
        refine Ev.step (f := fun k => (compareE y1 y2 k).bind fun t => if t = 1 then (compareE z1 z2 k).bind fun t => some t else some t) (fun k => ?_) (Ev.bind c1 ?_)
        · simp only [compareE, posternref04_Compare.f, s1, s2, Option.bind_some]
          rw [if_pos hs, if_neg (by rw [e1]; simp), if_pos (by rw [e1]), hl, hl2]
          simp only [rd_two.1, rd_two.2]
          rw [if_pos (by simp), if_pos (by simp), if_pos (by simp), if_pos (by simp)]
        · simp only [Mk.cmp]
          by_cases hc : a.cmp a2 = 1
          · simp only [hc, if_true, Int.ofNat_one, Int.cast_ofNat_Int]
            exact Ev.bind c2 (Ev.now _)
          · rw [if_neg hc]
            simp only [if_neg (show ¬ ((a.cmp a2 : Nat) : Int) = 1 by omega)]
            exact Ev.now _
      | nothing => rw [hs, e2] at e1; simp at e1
      | number n => rw [hs, e2] at e1; simp at e1
      | text s => rw [hs, e2] at e1; simp at e1
      | refer r => rw [hs, e2] at e1; simp at e1
      | row v => rw [hs, e2] at e1; simp at e1
    · exact hplain _ x y m2 h h2 hf hg hw hv (fun he => absurd he hs)
  | _ => 
    intro x y m2 h h2 hf hg hw hv
    refine hplain _ x y m2 h h2 hf hg hw hv (fun _ => ?_)
    rw [mark_shape hf.now h]
    simp

abbrev keysE (x : S27) (k : Nat) : Option Bool := posternref04_Keys.f k x.f0 x.f1 x.f2 x.f3 x.f4
abbrev keysLE (x : S27) (i : Int) (k : Nat) : Option Bool := posternref04_Keys.l0 k i x.f0 x.f1 x.f2 x.f3 x.f4
theorem keysL_next (x : S27) (hw : Wf x) (i : Nat) (hlt : i < x.f3.length) (k : Nat) : keysLE x i (k + 1) = (keysE (rd_T27 x.f3 i) k).bind fun t => if t = true then keysLE x ((i + 1 : Nat) : Int) k else some false := by
  have := hw.len
  simp only [keysLE, posternref04_Keys.l0]
  rw [if_pos (by omega), if_pos (by omega), wrap_id (n := (i : Int) + 1) (by omega) (by omega)]
  rfl
theorem keysL_end (x : S27) (i : Nat) (hlt : x.f3.length ≤ i) : Ev (keysLE x i) true := by
  refine Ev.step (f := fun k => some true) (fun k => ?_) (Ev.now true)
  simp only [keysLE, posternref04_Keys.l0]; rw [if_neg (by omega)]

theorem keys_ev (m : Mk) : ∀ x : S27, MarkOf x m → Fields x → Wf x → Ev (keysE x) m.keys := by
  induction m with
  | pair a b iha ihb =>
    intro x h hf hw
    have e1 := mark_shape hf.now h
    have s1 := shape_eq x hw
    obtain ⟨k3, y, z, hl, ha, hb⟩ := h
    have m1 : y ∈ x.f3 := by rw [hl]; simp
    have m2 : z ∈ x.f3 := by rw [hl]; simp
    have c1 := iha y ha (hf.sub m1) (hw.sub m1)
    have c2 := ihb z hb (hf.sub m2) (hw.sub m2)
    have r0 : rd_T27 x.f3 (0 : Nat) = y := by rw [hl]; rfl
    have r1 : rd_T27 x.f3 (1 : Nat) = z := by rw [hl]; rfl
    have n0 := keysL_next x hw 0 (by rw [hl]; simp)
    have n1 := keysL_next x hw 1 (by rw [hl]; simp)
    rw [r0] at n0
    rw [r1] at n1
    refine Ev.step (f := fun k => keysLE x 0 k) (fun k => ?_) ?_
    · simp only [keysE, posternref04_Keys.f, s1, Option.bind_some]
      rw [if_neg (by rw [e1]; simp)]
    · refine Ev.step n0 (Ev.bind c1 ?_)
      simp only [Mk.keys]
      cases a.keys
      · simpa using Ev.now false
      · simp only [if_true, Bool.true_and]
        refine Ev.step n1 (Ev.bind c2 ?_)
        cases b.keys
        · simpa using Ev.now false
        · simp only [if_true]
          exact keysL_end x 2 (by rw [hl]; simp)
  | row v =>
    intro x h hf hw
    have e1 := mark_shape hf.now h
    have s1 := shape_eq x hw
    refine Ev.step (f := fun k => some false) (fun k => ?_) (Ev.now false)
    simp only [keysE, posternref04_Keys.f, s1, Option.bind_some]
    rw [if_pos e1]
  | _ =>
    intro x h hf hw
    have e1 := mark_shape hf.now h
    have s1 := shape_eq x hw
    have hl : x.f3.length = 0 := by
      have := hf.now
      unfold Field at this
      unfold MarkOf at h
      omega
    refine Ev.step (f := fun k => keysLE x 0 k) (fun k => ?_) (keysL_end x 0 (by omega))
    simp only [keysE, posternref04_Keys.f, s1, Option.bind_some]
    rw [if_neg (by rw [e1]; simp)]

theorem keyv_iff {x : S27} {m : Mk} (h : MarkOf x m) : KeyV x ↔ m.keys = true := ⟨fun ⟨m2, h2, hk⟩ => (mark_one m x m2 h h2).1.trans hk, fun hk => ⟨m, h, hk⟩⟩

end Go.Proofs.Ythkemcekcfccpaa.PBrandCompares

namespace Go.Proofs.Ythkemcekcfccpaa.PBrandCompares
open Go.RowKit Go.Proofs.YthkemcekcfccpaaW.PrintWords Go.Proofs.YthkemcekcfccpaaW.PrintLast Go.Proofs.YthkemcekcfccpaaW.PrintMore
open Go.Proofs.Ythkemcekcfccpaa.GBrandCompares
set_option linter.unusedVariables false
set_option linter.unusedSimpArgs false

theorem cells27 : Try.prog.cellsOf 27 = 5 := by kernel_rfl
theorem cells23 : Try.prog.cellsOf 23 = 1 := by kernel_rfl
theorem cells2 : Try.prog.cellsOf 2 = 1 := by kernel_rfl
theorem cells9 : Try.prog.cellsOf 9 = 1 := by kernel_rfl
theorem cells24 : Try.prog.cellsOf 24 = 1 := by kernel_rfl
theorem cells25 : Try.prog.cellsOf 25 = 1 := by kernel_rfl

section
variable {H : Type} {enc : TypeId × Value → H} {w : World} {base : Nat} {spare : Nat → Bool} {held : Bool}

theorem u8_wf {k : Int} (h : (Lit.int .u8 k).wf = true) : 0 ≤ k ∧ k < 256 := by
  simp [Lit.wf] at h
  have h1 : IntKind.u8.min = 0 := by kernel_rfl
  have h2 : IntKind.u8.max = 255 := by kernel_rfl
  omega
theorem five {cs : List Value} (h : cs.length = 5) : ∃ a b c d e, cs = [a, b, c, d, e] := by
  match cs, h with
  | [a, b, c, d, e], _ => exact ⟨a, b, c, d, e, rfl⟩

theorem trod_value (n : Nat) : ∀ (cs : List Value) (x : DataW H × List MemPlace), DataW.trod enc Try.prog w base spare held n 27 cs = some x → ∃ s : S27, k27.K w s cs ∧ Wf s := by
  induction n using Nat.strongRecOn with
  | _ n ih =>
  intro cs x h
  obtain ⟨xs, n1, rfl, _, hl0, hn5, hf⟩ := DataW.trod_struct Try.underlying27 h
  rw [cells27] at hl0
  obtain ⟨v0, v1, v2, v3, v4, rfl⟩ := five hl0
  have g0 : DataW.trod enc Try.prog w base spare held n1 23 (List.take (Try.prog.cellsOf 23) (List.drop 0 [v0, v1, v2, v3, v4])) = xs[0]? := hf 0 _ rfl
  have g1 : DataW.trod enc Try.prog w base spare held n1 2 (List.take (Try.prog.cellsOf 2) (List.drop 1 [v0, v1, v2, v3, v4])) = xs[1]? := hf 1 _ rfl
  have g2 : DataW.trod enc Try.prog w base spare held n1 9 (List.take (Try.prog.cellsOf 9) (List.drop 2 [v0, v1, v2, v3, v4])) = xs[2]? := hf 2 _ rfl
  have g3 : DataW.trod enc Try.prog w base spare held n1 24 (List.take (Try.prog.cellsOf 24) (List.drop 3 [v0, v1, v2, v3, v4])) = xs[3]? := hf 3 _ rfl
  have g4 : DataW.trod enc Try.prog w base spare held n1 25 (List.take (Try.prog.cellsOf 25) (List.drop 4 [v0, v1, v2, v3, v4])) = xs[4]? := hf 4 _ rfl
  have hlen : xs.length = 5 := by rw [hn5]; rfl
  simp only [cells23, cells2, cells9, cells24, cells25, List.drop_zero, List.drop_succ_cons, List.take_succ_cons, List.take_zero] at g0 g1 g2 g3 g4
  rw [List.getElem?_eq_getElem (by omega)] at g0 g1 g2 g3 g4
  obtain ⟨k, e0, _, w0⟩ := DataW.trod_int Try.underlying23 g0
  obtain ⟨a, e1, _, _⟩ := DataW.trod_int Try.underlying2 g1
  obtain ⟨s, e2, _, _⟩ := DataW.trod_string Try.underlying9 g2
  obtain ⟨r, e4, _, _⟩ := DataW.trod_int Try.underlying25 g4
  simp only [List.cons.injEq, and_true] at e0 e1 e2 e4
  subst e0
  subst e1
  subst e2
  subst e4
  have w0' : 0 ≤ k ∧ k < 256 := by
    have := u8_wf w0
    omega
  clear g0 g1 g2 g4
  rcases DataW.trod_slice Try.underlying24 g3 with ⟨e3, _⟩ | ⟨ad, len, cap, elems, rest, n2, hn2, e3, _, hb, hl, hm, hle, hx, _⟩
  · simp only [List.cons.injEq, and_true] at e3
    subst e3
    exact ⟨⟨k, a, s, [], r⟩, k27_mk w ⟨k, a, s, [], r⟩ (A3 := none) (c3 := 0) (Nat.le_refl _) (Kd.C_nil k27 w), .mk w0'.1 w0'.2 (by simp) (by simp)⟩
  · simp only [List.cons.injEq, and_true] at e3
    subst e3
    have hlt : n2 < n1 + 1 := by omega
    have hel : ∀ i, i < len → ∃ s : S27, (∃ cs, cs.length = 5 ∧ k27.K w s cs ∧ ∀ j u, cs[j]? = some u → w.cell? (ad.add (i * 5 + j)) = some u) ∧ Wf s := by
      intro i hi
      have hxi := hx i hi
      rw [List.getElem?_eq_getElem (by omega)] at hxi
      obtain ⟨cs, h1, h2⟩ := Option.bind_eq_some_iff.1 hxi
      rw [cells27] at h1
      obtain ⟨s', hK, hW⟩ := ih n2 hlt cs _ h2
      obtain ⟨_, hl5, hc⟩ := World.cells?_some h1
      refine ⟨s', ⟨cs, hl5, hK, fun j u hj => ?_⟩, hW⟩
      have hj5 : j < 5 := by have := (List.getElem?_eq_some_iff.1 hj).1; omega
      rw [← Go.Deep.add_add, hc j hj5, hj]
    have : Inhabited S27 := ⟨z27⟩
    obtain ⟨S, hS⟩ := Go.Deep.choose_lt hel
    have hlm : len ≤ 9223372036854775807 := by unfold maxLen at hm; omega
    have hlS : ((List.range len).map S).length = len := by simp
    refine ⟨⟨k, a, s, (List.range len).map S, r⟩, ?_, .mk w0'.1 w0'.2 (by rw [hlS]; exact hlm) ?_⟩
    · have hK := k27_mk w ⟨k, a, s, (List.range len).map S, r⟩ (A3 := some ad) (c3 := cap) (by rw [hlS]; exact hl) ?_
      · rw [hlS] at hK; exact hK
      · refine ⟨rfl, by rw [hlS]; exact hlm, fun _ => ⟨ad, rfl, fun j p hj => ?_⟩⟩
        have hj' : j < len := by have := (List.getElem?_eq_some_iff.1 hj).1; simpa using this
        have hp : p = S j := by rw [List.getElem?_map, List.getElem?_range hj'] at hj; exact (Option.some.inj hj).symm
        subst hp
        obtain ⟨⟨cs, h5, hK, hc⟩, _⟩ := hS j hj'
        exact ⟨cs, h5, hK, hc⟩
    · intro y hy
      obtain ⟨i, hi, rfl⟩ := List.mem_map.1 hy
      exact (hS i (List.mem_range.1 hi)).2

set_option maxRecDepth 100000 in
/-- an argument of the values' type -/
theorem open_value {r : Reach} {b0 : Nat} {v : Value} {d : DataW H} {p : List MemPlace} (hv : Value.okWide Try.prog w r b0 27 v) (h : DataW.Trod enc Try.prog w base spare held 27 v d p) :
    ∃ (x : S27) (A : Option Addr) (c : Nat), v = .agg #[.int .u8 x.f0, .int .i64 x.f1, .string x.f2, .slice A x.f3.length c, .int .i64 x.f4] ∧ x.f3.length ≤ c ∧ Kd.C k27 w A x.f3.length x.f3 ∧ Wf x := by
  obtain ⟨⟨cs⟩, rfl, _⟩ := Go.WideShapes.okWide_struct Try.underlying27 hv
  obtain ⟨n, hf⟩ := h
  obtain ⟨x, hK, hW⟩ := trod_value n _ _ hf
  obtain ⟨A, c, hcs, hl, hC⟩ := k27_open hK
  refine ⟨x, A, c, ?_, hl, hC, hW⟩
  have hcs' : cs = [.int .u8 x.f0, .int .i64 x.f1, .string x.f2, .slice A x.f3.length c, .int .i64 x.f4] := hcs
  rw [hcs']

/-- a row of values that is read, as one whose blocks are all that there is -/
theorem heap27 : Kd.Heap k27 := Kd.heap_fix fun d hd => Kd.heap_iso _ (Kd.heap_pair (Kd.heap_int _) (Kd.heap_pair (Kd.heap_int _) (Kd.heap_pair Kd.heap_string (Kd.heap_pair (Kd.heap_slice 27 hd) (Kd.heap_int _)))))
theorem all_F {W : World} {A : Option Addr} {n : Nat} {xs : List S27} (h : Kd.C k27 W A n xs) : Kd.F k27 W (fun k => k < W.heap.size) A n xs := Kd.C_F heap27 h

end

end Go.Proofs.Ythkemcekcfccpaa.PBrandCompares

namespace Go.Proofs.Ythkemcekcfccpaa.PBrandCompares
open Go.RowKit Go.Proofs.YthkemcekcfccpaaW.PrintWords Go.Proofs.YthkemcekcfccpaaW.PrintLast Go.Proofs.YthkemcekcfccpaaW.PrintMore
open Go.Proofs.Ythkemcekcfccpaa.GBrandCompares
set_option linter.unusedVariables false
set_option linter.unusedSimpArgs false

theorem empty_b : (⟨#[]⟩ : ByteArray) = ByteArray.empty := rfl
theorem may_num (n : Int) : mayV (num n) = true := by simp [mayV, measureV, takeV, num, empty_b]
theorem may_txt (s : ByteArray) (h : s.size ≤ 256) : mayV (txt s) = true := by
  have : ¬ 256 < s.size := by omega
  simp [mayV, measureV, takeV, txt, this]
theorem may_nil : mayV (lst []) = true := by simp [mayV, measureV, takeV, takeL, lst, empty_b]
theorem may_two (m n : Int) : mayV (lst [num m, num n]) = true := by simp [mayV, measureV, takeV, takeL, lst, num, empty_b]

theorem of_num {n : Int} {m : Mk} (h : MarkOf (num n) m) : m = .number n := by
  cases m with
  | nothing => exact absurd rfl h.1
  | number k => rw [h.2]; rfl
  | text x => exact absurd (show (1 : Int) = 2 from h.1) (by decide)
  | refer x => exact absurd (show (1 : Int) = 4 from h.1) (by decide)
  | row v => exact absurd (show (1 : Int) = 3 from h.1) (by decide)
  | pair x y => exact absurd (show (1 : Int) = 3 from h.1) (by decide)
theorem of_txt {s : ByteArray} {m : Mk} (h : MarkOf (txt s) m) : m = .text s := by
  cases m with
  | nothing => exact absurd rfl h.2.1
  | number x => exact absurd (show (2 : Int) = 1 from h.1) (by decide)
  | text k => rw [h.2]; rfl
  | refer x => exact absurd (show (2 : Int) = 4 from h.1) (by decide)
  | row v => exact absurd (show (2 : Int) = 3 from h.1) (by decide)
  | pair x y => exact absurd (show (2 : Int) = 3 from h.1) (by decide)
theorem of_nil {m : Mk} (h : MarkOf (lst []) m) : ∃ v, m = .row v := by
  cases m with
  | nothing => exact absurd rfl h.2.2.2
  | number x => exact absurd (show (3 : Int) = 1 from h.1) (by decide)
  | text x => exact absurd (show (3 : Int) = 2 from h.1) (by decide)
  | refer x => exact absurd (show (3 : Int) = 4 from h.1) (by decide)
  | row v => exact ⟨v, rfl⟩
  | pair a b =>
    obtain ⟨_, y, z, hl, _⟩ := h
    cases hl
theorem of_two {a b : Int} {m : Mk} (h : MarkOf (lst [num a, num b]) m) : m = .pair (.number a) (.number b) := by
  cases m with
  | nothing => exact absurd rfl h.2.2.2
  | number x => exact absurd (show (3 : Int) = 1 from h.1) (by decide)
  | text x => exact absurd (show (3 : Int) = 2 from h.1) (by decide)
  | refer x => exact absurd (show (3 : Int) = 4 from h.1) (by decide)
  | row v => exact absurd rfl h.2
  | pair x y =>
    obtain ⟨_, y, z, hl, h1, h2⟩ := h
    cases hl
    rw [of_num h1, of_num h2]

set_option maxRecDepth 100000 in
set_option maxHeartbeats 4000000 in
theorem lives_calls (w : World) : Calls Try.prog 8 #[] w fun e w' => e = .returned (.bool true) ∧ Ex (fun _ => False) w w' := by
  have HX0 := Aside0.mk (Ex.refl (fun _ => False) w)
  go_enter Try.func8, Try.ntmps8
  go_wp2_with fail
  refine (number_calls 1 _).mono ?_
  rintro e w1 ⟨rfl, hx⟩
  have HX1 := Aside0.mk (HX0.out.trans hx (fun _ h => h.elim))
  clear hx
  go_wp2_with fail
  refine (word_calls _ _).mono ?_
  rintro e w2 ⟨rfl, hx⟩
  have HX2 := Aside0.mk (HX1.out.trans hx (fun _ h => h.elim))
  clear hx
  go_wp2_with fail
  refine (compare_unlike (num 1) (txt ⟨#[49]⟩) none none 0 0 _ (fun _ => False) (Kd.F_nil _ _ _) (Kd.F_nil _ _ _) (may_num 1) (may_txt _ (by decide)) (by intro m m2 h1 h2; rw [of_num h1, of_txt h2]; rfl)).mono ?_
  rintro e w3 ⟨rfl, hx⟩
  have HX3 := Aside0.mk (HX2.out.trans hx (fun _ h => h.elim))
  clear hx
  go_wp2_with fail
  refine (number_calls 1 _).mono ?_
  rintro e w4 ⟨rfl, hx⟩
  have HX4 := Aside0.mk (HX3.out.trans hx (fun _ h => h.elim))
  clear hx
  go_wp2_with fail
  refine (number_calls 2 _).mono ?_
  rintro e w5 ⟨rfl, hx⟩
  have HX5 := Aside0.mk (HX4.out.trans hx (fun _ h => h.elim))
  clear hx
  go_wp2_with fail
  refine (list_calls (some ⟨w5.heap.size, 0, none⟩) 2 2 _).mono ?_
  rintro e w6 ⟨rfl, hx⟩
  have HFa := Aside0.mk (ex_F hx (F_pair 1 2 (blk_new1 w5 (.cells #[.int .u8 1, .int .i64 1, .string ⟨#[]⟩, .slice none 0 0, .int .i64 0, .int .u8 1, .int .i64 2, .string ⟨#[]⟩, .slice none 0 0, .int .i64 0] 27))) (fun _ _ h => h))
  have HX6 := Aside0.mk ((HX5.out.alloc _).trans hx (fun _ h => h.elim))
  clear hx
  go_wp2_with fail
  refine (number_calls 1 _).mono ?_
  rintro e w7 ⟨rfl, hx⟩
  have HFa1 := Aside0.mk (ex_F hx HFa.out (fun _ _ h => h))
  have HX7 := Aside0.mk (HX6.out.trans hx (fun _ h => h.elim))
  clear hx
  go_wp2_with fail
  refine (number_calls 2 _).mono ?_
  rintro e w8 ⟨rfl, hx⟩
  have HFa2 := Aside0.mk (ex_F hx HFa1.out (fun _ _ h => h))
  have HX8 := Aside0.mk (HX7.out.trans hx (fun _ h => h.elim))
  clear hx
  go_wp2_with fail
  refine (list_calls (some ⟨w8.heap.size, 0, none⟩) 2 2 _).mono ?_
  rintro e w9 ⟨rfl, hx⟩
  have HFb := Aside0.mk (ex_F hx (F_pair 1 2 (blk_new1 w8 (.cells #[.int .u8 1, .int .i64 1, .string ⟨#[]⟩, .slice none 0 0, .int .i64 0, .int .u8 1, .int .i64 2, .string ⟨#[]⟩, .slice none 0 0, .int .i64 0] 27))) (fun _ _ h => h))
  have HFa3 := Aside0.mk (ex_F hx (Kd.F_alloc HFa2.out _) (fun _ _ h => h))
  have HX9 := Aside0.mk ((HX8.out.alloc _).trans hx (fun _ h => h.elim))
  clear hx
  go_wp2_with fail
  refine (compare_same (lst [num 1, num 2]) (lst [num 1, num 2]) (some ⟨w5.heap.size, 0, none⟩) (some ⟨w8.heap.size, 0, none⟩) 2 2 _ (fun k => k = w5.heap.size ∨ k = w8.heap.size) (Kd.F_mono HFa3.out (fun _ h => .inl h)) (Kd.F_mono HFb.out (fun _ h => .inr h)) (may_two 1 2) (may_two 1 2) (by intro m m2 h1 h2; rw [of_two h1, of_two h2]; rfl)).mono ?_
  rintro e w10 ⟨rfl, hx⟩
  have HX10 := Aside0.mk (HX9.out.trans hx (fun _ h => h.elim))
  clear hx
  go_wp2_with fail
  refine (list_calls none 0 0 _).mono ?_
  rintro e w11 ⟨rfl, hx⟩
  have HX11 := Aside0.mk (HX10.out.trans hx (fun _ h => h.elim))
  clear hx
  go_wp2_with fail
  refine (list_calls none 0 0 _).mono ?_
  rintro e w12 ⟨rfl, hx⟩
  have HX12 := Aside0.mk (HX11.out.trans hx (fun _ h => h.elim))
  clear hx
  go_wp2_with fail
  refine (compare_panic (lst []) (lst []) none none 0 0 _ (fun _ => False) (Kd.F_nil _ _ _) (Kd.F_nil _ _ _) may_nil may_nil (by intro m m2 h1 h2; obtain ⟨v, rfl⟩ := of_nil h1; obtain ⟨u, rfl⟩ := of_nil h2; rfl)).mono ?_
  rintro e w13 ⟨rfl, hx⟩
  have HX13 := Aside0.mk (HX12.out.trans hx (fun _ h => h.elim))
  clear hx
  go_wp2_with fail
  refine (new_calls _).mono ?_
  rintro e w14 ⟨rfl, hw⟩
  have HX14 := Aside0.mk (show Ex (fun _ => False) w w14 by rw [hw]; exact ((HX13.out.alloc _).alloc _).alloc _)
  have HT14 := Aside0.mk (show Tab w14 (w13.heap.size + 2) w13.heap.size (w13.heap.size + 1) (fun b => w13.heap.size ≤ b) [] 0 by rw [hw]; exact tab_new w13)
  clear hw
  go_wp2_with fail
  refine (word_calls _ _).mono ?_
  rintro e w15 ⟨rfl, hx⟩
  have HT15 := Aside0.mk (HT14.out.ex0 hx)
  have HX15 := Aside0.mk (HX14.out.trans hx (fun _ h => h.elim))
  clear hx
  go_wp2_with fail
  refine (number_calls 1 _).mono ?_
  rintro e w16 ⟨rfl, hx⟩
  have HT16 := Aside0.mk (HT15.out.ex0 hx)
  have HX16 := Aside0.mk (HX15.out.trans hx (fun _ h => h.elim))
  clear hx
  go_wp2_with fail
  refine (put_new (txt ⟨#[97]⟩) (num 1) none none 0 0 (w13.heap.size + 2) w13.heap.size (w13.heap.size + 1) _ (fun _ => False) [] 0 _ HT16.out (by omega) (Nat.le_refl _) (Nat.le_refl _) (Kd.F_nil _ _ _) (Kd.F_nil _ _ _) (fun _ h => h.elim) (may_txt _ (by decide)) (may_num 1) (.text ⟨#[97]⟩) (fun _ h => of_txt h) ⟨rfl, Nat.zero_le _⟩ rfl).mono ?_
  rintro e w17 ⟨rfl, hx, r, hr1, hr2, hr3, hr4, hT⟩
  obtain ⟨rm, rk, rv, rA, rca, rB, rcb, rn, rb1, rb2⟩ := r
  dsimp only at hr1 hr2 hr3 hr4
  subst hr1 hr2 hr3 hr4
  have HT17 := Aside0.mk hT
  have HX17 := Aside0.mk (HX16.out.trans hx (fun b hb => .inr (by have := HX13.out.size; rcases hb with rfl | rfl | rfl <;> omega)))
  clear hx hT
  simp only [zval]
  go_wp2_with fail
  refine (word_calls _ _).mono ?_
  rintro e w18 ⟨rfl, hx⟩
  have HT18 := Aside0.mk (HT17.out.ex0 (((Ex.refl _ _).alloc _).trans hx (fun _ h => h.elim)))
  have HX18 := Aside0.mk ((HX17.out.alloc _).trans hx (fun _ h => h.elim))
  clear hx
  go_wp2_with fail
  refine (number_calls 2 _).mono ?_
  rintro e w19 ⟨rfl, hx⟩
  have HT19 := Aside0.mk (HT18.out.ex0 hx)
  have HX19 := Aside0.mk (HX18.out.trans hx (fun _ h => h.elim))
  clear hx
  go_wp2_with fail
  refine (put_old (txt ⟨#[97]⟩) (num 2) none none 0 0 (w13.heap.size + 2) w13.heap.size (w13.heap.size + 1) _ (fun _ => False) _ (0 + 1) _ HT19.out (by omega) (Nat.le_refl _) (Nat.le_refl _) (Kd.F_nil _ _ _) (Kd.F_nil _ _ _) (fun _ h => h.elim) (may_txt _ (by decide)) (may_num 2) (.text ⟨#[97]⟩) (fun _ h => of_txt h) ⟨rfl, Nat.zero_le _⟩ 0 ⟨.text ⟨#[97]⟩, txt ⟨#[97]⟩, num 1, rA, rca, rB, rcb, 0 + 1, rb1, rb2⟩ rfl rfl rfl).mono ?_
  rintro e w20 ⟨rfl, hx, hFo, B2, d2, hT⟩
  have HT20 := Aside0.mk hT
  have HFo20 := Aside0.mk hFo
  have HX20 := Aside0.mk (HX19.out.trans hx (fun b hb => .inr (by have := HX13.out.size; rcases hb with rfl | rfl | rfl <;> omega)))
  clear hx hT hFo
  go_wp2_with fail
  refine (list_calls none 0 0 _).mono ?_
  rintro e w21 ⟨rfl, hx⟩
  have HT21 := Aside0.mk (HT20.out.ex0 (((Ex.refl _ _).alloc _).trans hx (fun _ h => h.elim)))
  have HO21 := Aside0.mk (hx.blk (blk_new1 w20 (.cells #[.int .u8 (num 1).f0, .int .i64 (num 1).f1, .string (num 1).f2, .slice rB (num 1).f3.length rcb, .int .i64 (num 1).f4] 27)) (fun h => h))
  have HX21 := Aside0.mk ((HX20.out.alloc _).trans hx (fun _ h => h.elim))
  clear hx
  go_wp2_with fail
  refine (number_calls 2 _).mono ?_
  rintro e w22 ⟨rfl, hx⟩
  have HT22 := Aside0.mk (HT21.out.ex0 hx)
  have HO22 := Aside0.mk (hx.blk HO21.out (fun h => h))
  have HX22 := Aside0.mk (HX21.out.trans hx (fun _ h => h.elim))
  clear hx
  go_wp2_with fail
  refine (put_key (lst []) (num 2) none none 0 0 (w13.heap.size + 2) w13.heap.size _ _ _ (fun _ => False) HT22.out.hg (Kd.F_nil _ _ _) (Kd.F_nil _ _ _) may_nil (may_num 2) (by intro m h; obtain ⟨v, rfl⟩ := of_nil h; rfl)).mono ?_
  rintro e w23 ⟨rfl, hx⟩
  have HT23 := Aside0.mk (HT22.out.ex0 hx)
  have HO23 := Aside0.mk (hx.blk HO22.out (fun h => h))
  have HX23 := Aside0.mk (HX22.out.trans hx (fun _ h => h.elim))
  have HFo23 := Aside0.mk (Kd.F_mono (ok' := fun _ => True) HFo20.out (fun _ _ => trivial))
  clear hx
  simp only [zval]
  go_wp2_with fail
  have HO := Aside0.mk (blk_alloc HO23.out (.cells #[.int .u8 0, .int .i64 0, .string ⟨#[]⟩, .slice none 0 0, .int .i64 0] 27))
  have HT := Aside0.mk (HT23.out.ex0 ((Ex.refl (fun _ => False) w23).alloc (.cells #[.int .u8 0, .int .i64 0, .string ⟨#[]⟩, .slice none 0 0, .int .i64 0] 27)))
  have HX := Aside0.mk (HX23.out.alloc (.cells #[.int .u8 0, .int .i64 0, .string ⟨#[]⟩, .slice none 0 0, .int .i64 0] 27))
  generalize w23.alloc (.cells #[.int .u8 0, .int .i64 0, .string ⟨#[]⟩, .slice none 0 0, .int .i64 0] 27) = W at HO HT HX ⊢
  have oc0 := (blk_cell HO.out 0).trans rfl
  have oc1 := (blk_cell HO.out 1).trans rfl
  have oc2 := (blk_cell HO.out 2).trans rfl
  have oc3 := (blk_cell HO.out 3).trans rfl
  have oc4 := (blk_cell HO.out 4).trans rfl
  have ol := lt_of_blk HO.out
  refine start_ (n := 52) (S := Any) (ds := [0, 1, 2, 3, 4, 5, 6, 7, 8, 9, 10, 11, 12, 13, 14, 15, 16, 17, 18, 19, 20, 21, 22, 23, 24, 25, 26, 27, 28, 29, 30, 31, 32, 33, 34, 35, 36, 37, 38, 39, 40, 41, 42, 43, 44, 45, 46, 47, 48, 49, 50, 51]) #[false, false, false, false, false, false, false, false, false, false, false, false, false, false, false, false, false, false, false, false, false, false, false, false, false, false, false, false, false, false, false, false, false, false, false, false, false, false, false, false, false, false, false, false, false, false, false, false, false, false, false, false] (by kernel_rfl) (by rfl) (by rfl) trivial (fun _ => ?_)
  refine stepV (i := 0) (N := some 68) #[true, false, false, false, false, false, false, false, false, false, false, false, false, false, false, false, false, false, false, false, false, false, false, false, false, false, false, false, false, false, false, false, false, false, false, false, false, false, false, false, false, false, false, false, false, false, false, false, false, false, false, false] rfl (by kernel_rfl) (by decide) rfl (by rfl) (.int .u8 0) (w1 := W.drew) (by rfl) (by simp only [Act.put, List.setIfInBounds_toArray, List.set_cons_zero, List.set_cons_succ]; rfl) ?_
  refine stepV (i := 1) (N := some 69) #[true, true, false, false, false, false, false, false, false, false, false, false, false, false, false, false, false, false, false, false, false, false, false, false, false, false, false, false, false, false, false, false, false, false, false, false, false, false, false, false, false, false, false, false, false, false, false, false, false, false, false, false] rfl (by kernel_rfl) (by decide) rfl (by rfl) (.bool true) (w1 := W.drew) (by rfl) (by simp only [Act.put, List.setIfInBounds_toArray, List.set_cons_zero, List.set_cons_succ]; rfl) ?_
  refine stepV (i := 2) (N := some 70) #[true, true, true, false, false, false, false, false, false, false, false, false, false, false, false, false, false, false, false, false, false, false, false, false, false, false, false, false, false, false, false, false, false, false, false, false, false, false, false, false, false, false, false, false, false, false, false, false, false, false, false, false] rfl (by kernel_rfl) (by decide) rfl (by rfl) (.bool true) (w1 := W.drew) (by rfl) (by simp only [Act.put, List.setIfInBounds_toArray, List.set_cons_zero, List.set_cons_succ]; rfl) ?_
  refine stepV (i := 3) (N := some 71) #[true, true, true, true, false, false, false, false, false, false, false, false, false, false, false, false, false, false, false, false, false, false, false, false, false, false, false, false, false, false, false, false, false, false, false, false, false, false, false, false, false, false, false, false, false, false, false, false, false, false, false, false] rfl (by kernel_rfl) (by decide) rfl (by rfl) (.int .i64 0) (w1 := W.drew) (by rfl) (by simp only [Act.put, List.setIfInBounds_toArray, List.set_cons_zero, List.set_cons_succ]; rfl) ?_
  refine stepV (i := 4) (N := some 72) #[true, true, true, true, true, false, false, false, false, false, false, false, false, false, false, false, false, false, false, false, false, false, false, false, false, false, false, false, false, false, false, false, false, false, false, false, false, false, false, false, false, false, false, false, false, false, false, false, false, false, false, false] rfl (by kernel_rfl) (by decide) rfl (by rfl) (.bool true) (w1 := W.drew) (by rfl) (by simp only [Act.put, List.setIfInBounds_toArray, List.set_cons_zero, List.set_cons_succ]; rfl) ?_
  refine stepV (i := 5) (N := some 73) #[true, true, true, true, true, true, false, false, false, false, false, false, false, false, false, false, false, false, false, false, false, false, false, false, false, false, false, false, false, false, false, false, false, false, false, false, false, false, false, false, false, false, false, false, false, false, false, false, false, false, false, false] rfl (by kernel_rfl) (by decide) rfl (by rfl) (.bool true) (w1 := W.drew) (by rfl) (by simp only [Act.put, List.setIfInBounds_toArray, List.set_cons_zero, List.set_cons_succ]; rfl) ?_
  refine stepV (i := 6) (N := some 74) #[true, true, true, true, true, true, true, false, false, false, false, false, false, false, false, false, false, false, false, false, false, false, false, false, false, false, false, false, false, false, false, false, false, false, false, false, false, false, false, false, false, false, false, false, false, false, false, false, false, false, false, false] rfl (by kernel_rfl) (by decide) rfl (by rfl) (.bool true) (w1 := W.drew) (by rfl) (by simp only [Act.put, List.setIfInBounds_toArray, List.set_cons_zero, List.set_cons_succ]; rfl) ?_
  refine stepV (i := 7) (N := some 75) #[true, true, true, true, true, true, true, true, false, false, false, false, false, false, false, false, false, false, false, false, false, false, false, false, false, false, false, false, false, false, false, false, false, false, false, false, false, false, false, false, false, false, false, false, false, false, false, false, false, false, false, false] rfl (by kernel_rfl) (by decide) rfl (by rfl) (.int .u8 1) (w1 := W.drew) (by rfl) (by simp only [Act.put, List.setIfInBounds_toArray, List.set_cons_zero, List.set_cons_succ]; rfl) ?_
  refine stepV (i := 8) (N := some 76) #[true, true, true, true, true, true, true, true, true, false, false, false, false, false, false, false, false, false, false, false, false, false, false, false, false, false, false, false, false, false, false, false, false, false, false, false, false, false, false, false, false, false, false, false, false, false, false, false, false, false, false, false] rfl (by kernel_rfl) (by decide) rfl (by rfl) (.bool true) (w1 := W.drew) (by rfl) (by simp only [Act.put, List.setIfInBounds_toArray, List.set_cons_zero, List.set_cons_succ]; rfl) ?_
  refine stepV (i := 9) (N := some 77) #[true, true, true, true, true, true, true, true, true, true, false, false, false, false, false, false, false, false, false, false, false, false, false, false, false, false, false, false, false, false, false, false, false, false, false, false, false, false, false, false, false, false, false, false, false, false, false, false, false, false, false, false] rfl (by kernel_rfl) (by decide) rfl (by rfl) (.bool true) (w1 := W.drew) (by rfl) (by simp only [Act.put, List.setIfInBounds_toArray, List.set_cons_zero, List.set_cons_succ]; rfl) ?_
  refine stepV (i := 10) (N := some 78) #[true, true, true, true, true, true, true, true, true, true, true, false, false, false, false, false, false, false, false, false, false, false, false, false, false, false, false, false, false, false, false, false, false, false, false, false, false, false, false, false, false, false, false, false, false, false, false, false, false, false, false, false] rfl (by kernel_rfl) (by decide) rfl (by rfl) (.bool true) (w1 := W.drew) (by rfl) (by simp only [Act.put, List.setIfInBounds_toArray, List.set_cons_zero, List.set_cons_succ]; rfl) ?_
  refine stepV (i := 11) (N := some 79) #[true, true, true, true, true, true, true, true, true, true, true, true, false, false, false, false, false, false, false, false, false, false, false, false, false, false, false, false, false, false, false, false, false, false, false, false, false, false, false, false, false, false, false, false, false, false, false, false, false, false, false, false] rfl (by kernel_rfl) (by decide) rfl (by rfl) (.int .i64 0) (w1 := W.drew) (by rfl) (by simp only [Act.put, List.setIfInBounds_toArray, List.set_cons_zero, List.set_cons_succ]; rfl) ?_
  refine stepV (i := 12) (N := some 80) #[true, true, true, true, true, true, true, true, true, true, true, true, true, false, false, false, false, false, false, false, false, false, false, false, false, false, false, false, false, false, false, false, false, false, false, false, false, false, false, false, false, false, false, false, false, false, false, false, false, false, false, false] rfl (by kernel_rfl) (by decide) rfl (by rfl) (.bool true) (w1 := W.drew) (by rfl) (by simp only [Act.put, List.setIfInBounds_toArray, List.set_cons_zero, List.set_cons_succ]; rfl) ?_
  refine stepV (i := 13) (N := some 81) #[true, true, true, true, true, true, true, true, true, true, true, true, true, true, false, false, false, false, false, false, false, false, false, false, false, false, false, false, false, false, false, false, false, false, false, false, false, false, false, false, false, false, false, false, false, false, false, false, false, false, false, false] rfl (by kernel_rfl) (by decide) rfl (by rfl) (.bool true) (w1 := W.drew) (by rfl) (by simp only [Act.put, List.setIfInBounds_toArray, List.set_cons_zero, List.set_cons_succ]; rfl) ?_
  refine stepV (i := 14) (N := some 82) #[true, true, true, true, true, true, true, true, true, true, true, true, true, true, true, false, false, false, false, false, false, false, false, false, false, false, false, false, false, false, false, false, false, false, false, false, false, false, false, false, false, false, false, false, false, false, false, false, false, false, false, false] rfl (by kernel_rfl) (by decide) rfl (by rfl) (.bool true) (w1 := W.drew) (by rfl) (by simp only [Act.put, List.setIfInBounds_toArray, List.set_cons_zero, List.set_cons_succ]; rfl) ?_
  refine stepV (i := 15) (N := some 83) #[true, true, true, true, true, true, true, true, true, true, true, true, true, true, true, true, false, false, false, false, false, false, false, false, false, false, false, false, false, false, false, false, false, false, false, false, false, false, false, false, false, false, false, false, false, false, false, false, false, false, false, false] rfl (by kernel_rfl) (by decide) rfl (by rfl) (.int .u8 2) (w1 := W.drew) (by rfl) (by simp only [Act.put, List.setIfInBounds_toArray, List.set_cons_zero, List.set_cons_succ]; rfl) ?_
  refine stepV (i := 16) (N := some 84) #[true, true, true, true, true, true, true, true, true, true, true, true, true, true, true, true, true, false, false, false, false, false, false, false, false, false, false, false, false, false, false, false, false, false, false, false, false, false, false, false, false, false, false, false, false, false, false, false, false, false, false, false] rfl (by kernel_rfl) (by decide) rfl (by rfl) (.bool true) (w1 := W.drew) (by rfl) (by simp only [Act.put, List.setIfInBounds_toArray, List.set_cons_zero, List.set_cons_succ]; rfl) ?_
  refine stepV (i := 17) (N := some 85) #[true, true, true, true, true, true, true, true, true, true, true, true, true, true, true, true, true, true, false, false, false, false, false, false, false, false, false, false, false, false, false, false, false, false, false, false, false, false, false, false, false, false, false, false, false, false, false, false, false, false, false, false] rfl (by kernel_rfl) (by decide) rfl (by rfl) (.bool true) (w1 := W.drew) (by rfl) (by simp only [Act.put, List.setIfInBounds_toArray, List.set_cons_zero, List.set_cons_succ]; rfl) ?_
  refine stepV (i := 18) (N := some 86) #[true, true, true, true, true, true, true, true, true, true, true, true, true, true, true, true, true, true, true, false, false, false, false, false, false, false, false, false, false, false, false, false, false, false, false, false, false, false, false, false, false, false, false, false, false, false, false, false, false, false, false, false] rfl (by kernel_rfl) (by decide) rfl (by rfl) (.bool true) (w1 := W.drew) (by rfl) (by simp only [Act.put, List.setIfInBounds_toArray, List.set_cons_zero, List.set_cons_succ]; rfl) ?_
  refine stepV (i := 19) (N := some 87) #[true, true, true, true, true, true, true, true, true, true, true, true, true, true, true, true, true, true, true, true, false, false, false, false, false, false, false, false, false, false, false, false, false, false, false, false, false, false, false, false, false, false, false, false, false, false, false, false, false, false, false, false] rfl (by kernel_rfl) (by decide) rfl (by rfl) (.int .i64 0) (w1 := W.drew) (by rfl) (by simp only [Act.put, List.setIfInBounds_toArray, List.set_cons_zero, List.set_cons_succ]; rfl) ?_
  refine stepV (i := 20) (N := some 88) #[true, true, true, true, true, true, true, true, true, true, true, true, true, true, true, true, true, true, true, true, true, false, false, false, false, false, false, false, false, false, false, false, false, false, false, false, false, false, false, false, false, false, false, false, false, false, false, false, false, false, false, false] rfl (by kernel_rfl) (by decide) rfl (by rfl) (.bool true) (w1 := W.drew) (by rfl) (by simp only [Act.put, List.setIfInBounds_toArray, List.set_cons_zero, List.set_cons_succ]; rfl) ?_
  refine stepV (i := 21) (N := some 89) #[true, true, true, true, true, true, true, true, true, true, true, true, true, true, true, true, true, true, true, true, true, true, false, false, false, false, false, false, false, false, false, false, false, false, false, false, false, false, false, false, false, false, false, false, false, false, false, false, false, false, false, false] rfl (by kernel_rfl) (by decide) rfl (by rfl) (.bool true) (w1 := W.drew) (by rfl) (by simp only [Act.put, List.setIfInBounds_toArray, List.set_cons_zero, List.set_cons_succ]; rfl) ?_
  refine stepV (i := 22) (N := some 90) #[true, true, true, true, true, true, true, true, true, true, true, true, true, true, true, true, true, true, true, true, true, true, true, false, false, false, false, false, false, false, false, false, false, false, false, false, false, false, false, false, false, false, false, false, false, false, false, false, false, false, false, false] rfl (by kernel_rfl) (by decide) rfl (by rfl) (.bool true) (w1 := W.drew) (by rfl) (by simp only [Act.put, List.setIfInBounds_toArray, List.set_cons_zero, List.set_cons_succ]; rfl) ?_
  refine stepV (i := 23) (N := some 91) #[true, true, true, true, true, true, true, true, true, true, true, true, true, true, true, true, true, true, true, true, true, true, true, true, false, false, false, false, false, false, false, false, false, false, false, false, false, false, false, false, false, false, false, false, false, false, false, false, false, false, false, false] rfl (by kernel_rfl) (by decide) rfl (by rfl) (.bool false) (w1 := W.drew) (by rfl) (by simp only [Act.put, List.setIfInBounds_toArray, List.set_cons_zero, List.set_cons_succ]; rfl) ?_
  refine stepV (i := 24) (N := some 92) #[true, true, true, true, true, true, true, true, true, true, true, true, true, true, true, true, true, true, true, true, true, true, true, true, true, false, false, false, false, false, false, false, false, false, false, false, false, false, false, false, false, false, false, false, false, false, false, false, false, false, false, false] rfl (by kernel_rfl) (by decide) rfl (by rfl) (.bool true) (w1 := W.drew) (by rfl) (by simp only [Act.put, List.setIfInBounds_toArray, List.set_cons_zero, List.set_cons_succ]; rfl) ?_
  refine stepV (i := 25) (N := some 93) #[true, true, true, true, true, true, true, true, true, true, true, true, true, true, true, true, true, true, true, true, true, true, true, true, true, true, false, false, false, false, false, false, false, false, false, false, false, false, false, false, false, false, false, false, false, false, false, false, false, false, false, false] rfl (by kernel_rfl) (by decide) rfl (by rfl) (.bool true) (w1 := W.drew) (by rfl) (by simp only [Act.put, List.setIfInBounds_toArray, List.set_cons_zero, List.set_cons_succ]; rfl) ?_
  refine stepV (i := 26) (N := some 94) #[true, true, true, true, true, true, true, true, true, true, true, true, true, true, true, true, true, true, true, true, true, true, true, true, true, true, true, false, false, false, false, false, false, false, false, false, false, false, false, false, false, false, false, false, false, false, false, false, false, false, false, false] rfl (by kernel_rfl) (by decide) rfl (by rfl) (.bool true) (w1 := W.drew) (by rfl) (by simp only [Act.put, List.setIfInBounds_toArray, List.set_cons_zero, List.set_cons_succ]; rfl) ?_
  refine stepV (i := 27) (N := some 95) #[true, true, true, true, true, true, true, true, true, true, true, true, true, true, true, true, true, true, true, true, true, true, true, true, true, true, true, true, false, false, false, false, false, false, false, false, false, false, false, false, false, false, false, false, false, false, false, false, false, false, false, false] rfl (by kernel_rfl) (by decide) rfl (by rfl) (.int .i64 0) (w1 := W.drew) (by rfl) (by simp only [Act.put, List.setIfInBounds_toArray, List.set_cons_zero, List.set_cons_succ]; rfl) ?_
  refine stepV (i := 28) (N := some 96) #[true, true, true, true, true, true, true, true, true, true, true, true, true, true, true, true, true, true, true, true, true, true, true, true, true, true, true, true, true, false, false, false, false, false, false, false, false, false, false, false, false, false, false, false, false, false, false, false, false, false, false, false] rfl (by kernel_rfl) (by decide) rfl (by rfl) (.bool true) (w1 := W.drew) (by rfl) (by simp only [Act.put, List.setIfInBounds_toArray, List.set_cons_zero, List.set_cons_succ]; rfl) ?_
  refine stepV (i := 29) (N := some 97) #[true, true, true, true, true, true, true, true, true, true, true, true, true, true, true, true, true, true, true, true, true, true, true, true, true, true, true, true, true, true, false, false, false, false, false, false, false, false, false, false, false, false, false, false, false, false, false, false, false, false, false, false] rfl (by kernel_rfl) (by decide) rfl (by rfl) (.bool true) (w1 := W.drew) (by rfl) (by simp only [Act.put, List.setIfInBounds_toArray, List.set_cons_zero, List.set_cons_succ]; rfl) ?_
  refine stepV (i := 30) (N := some 98) #[true, true, true, true, true, true, true, true, true, true, true, true, true, true, true, true, true, true, true, true, true, true, true, true, true, true, true, true, true, true, true, false, false, false, false, false, false, false, false, false, false, false, false, false, false, false, false, false, false, false, false, false] rfl (by kernel_rfl) (by decide) rfl (by rfl) (.bool true) (w1 := W.drew) (by rfl) (by simp only [Act.put, List.setIfInBounds_toArray, List.set_cons_zero, List.set_cons_succ]; rfl) ?_
  refine branchVC (i := 31) (j := 32) (Ni := some 99) (Nj := some 100) #[true, true, true, true, true, true, true, true, true, true, true, true, true, true, true, true, true, true, true, true, true, true, true, true, true, true, true, true, true, true, true, true, false, false, false, false, false, false, false, false, false, false, false, false, false, false, false, false, false, false, false, false] #[true, true, true, true, true, true, true, true, true, true, true, true, true, true, true, true, true, true, true, true, true, true, true, true, true, true, true, true, true, true, true, false, true, false, false, false, false, false, false, false, false, false, false, false, false, false, false, false, false, false, false, false] rfl rfl (by kernel_rfl) (by decide) (by decide) rfl rfl (by rfl) (.agg #[.int .u8 (num 1).f0, .int .i64 (num 1).f1, .string (num 1).f2, .slice rB (num 1).f3.length rcb, .int .i64 (num 1).f4]) (w1 := W.drew) (by go_simp) (by rfl) 27 #[.int .i64 1] (exec_call Try.func27 (by kernel_rfl) rfl _ rfl (by (try simp only [List.map_toArray, List.map_cons, List.map_nil]); first | done | rfl)) (by simp only [Act.put, List.setIfInBounds_toArray, List.set_cons_zero, List.set_cons_succ]; rfl) ?_ ?_
  · refine stepC (i := 32) (N := some 100) #[true, true, true, true, true, true, true, true, true, true, true, true, true, true, true, true, true, true, true, true, true, true, true, true, true, true, true, true, true, true, true, true, true, false, false, false, false, false, false, false, false, false, false, false, false, false, false, false, false, false, false, false] rfl (by kernel_rfl) (by decide) rfl (by rfl) 27 #[.int .i64 1] (exec_call Try.func27 (by kernel_rfl) rfl _ rfl (by (try simp only [List.map_toArray, List.map_cons, List.map_nil]); first | done | rfl)) ?_
    refine (number_calls 1 _).mono ?_
    rintro e w24 ⟨rfl, hx⟩
    refine ⟨_, rfl, ?_⟩
    simp only [Act.put, List.setIfInBounds_toArray, List.set_cons_zero, List.set_cons_succ]
    have HX24 := Aside0.mk (HX.out.drew.trans hx (fun _ h => h.elim))
    have HO24 := Aside0.mk (hx.blk (blk_drew HO.out) (fun h => h))
    have HT24 := Aside0.mk (HT.out.ex0 (((Ex.refl _ _).drew).trans hx (fun _ h => h.elim)))
    clear hx
    refine stepC (i := 33) (N := some 101) #[true, true, true, true, true, true, true, true, true, true, true, true, true, true, true, true, true, true, true, true, true, true, true, true, true, true, true, true, true, true, true, true, true, true, false, false, false, false, false, false, false, false, false, false, false, false, false, false, false, false, false, false] rfl (by kernel_rfl) (by decide) rfl (by rfl) 26 #[.agg #[.int .u8 (num 1).f0, .int .i64 (num 1).f1, .string (num 1).f2, .slice rB (num 1).f3.length rcb, .int .i64 (num 1).f4], .agg #[.int .u8 1, .int .i64 1, .string ⟨#[]⟩, .slice none 0 0, .int .i64 0]] (exec_call Try.func26 (by kernel_rfl) rfl _ rfl (by (try simp only [List.map_toArray, List.map_cons, List.map_nil]); first | done | rfl)) ?_
    refine (posternref04_Same.calls 3 1 1 ⟨#[]⟩ rB rcb [] 0 1 1 ⟨#[]⟩ none 0 [] 0 true _ ⟨rfl, by decide, fun h => absurd h (by decide)⟩ (Nat.zero_le _) (Kd.C_nil _ _) (Nat.le_refl _) (by first | rfl | decide | (simp [posternref04_Same.f, posternref04_Same.j0, posternref04_Same.l0]; done))).mono ?_
    rintro e w25 ⟨rfl, hb⟩
    refine ⟨_, rfl, ?_⟩
    simp only [Act.put, List.setIfInBounds_toArray, List.set_cons_zero, List.set_cons_succ]
    have HX25 := Aside0.mk (HX24.out.then_below hb)
    have HT25 := Aside0.mk (HT24.out.ex0 (Ex.of_below hb))
    clear hb
    refine stepV (i := 34) (N := some 102) #[true, true, true, true, true, true, true, true, true, true, true, true, true, true, true, true, true, true, true, true, true, true, true, true, true, true, true, true, true, true, true, true, true, true, true, false, false, false, false, false, false, false, false, false, false, false, false, false, false, false, false, false] rfl (by kernel_rfl) (by decide) rfl (by rfl) (.bool true) (w1 := w25) (by rfl) (by simp only [Act.put, List.setIfInBounds_toArray, List.set_cons_zero, List.set_cons_succ]; rfl) ?_
    refine stepV (i := 35) (N := some 103) #[true, true, true, true, true, true, true, true, true, true, true, true, true, true, true, true, true, true, true, true, true, true, true, true, true, true, true, true, true, true, true, true, true, true, true, true, false, false, false, false, false, false, false, false, false, false, false, false, false, false, false, false] rfl (by kernel_rfl) (by decide) rfl (by rfl) (.bool true) (w1 := w25) (by rfl) (by simp only [Act.put, List.setIfInBounds_toArray, List.set_cons_zero, List.set_cons_succ]; rfl) ?_
    refine stepV (i := 36) (N := some 104) #[true, true, true, true, true, true, true, true, true, true, true, true, true, true, true, true, true, true, true, true, true, true, true, true, true, true, true, true, true, true, true, true, true, true, true, true, true, false, false, false, false, false, false, false, false, false, false, false, false, false, false, false] rfl (by kernel_rfl) (by decide) rfl (by rfl) (.bool true) (w1 := w25) (by rfl) (by simp only [Act.put, List.setIfInBounds_toArray, List.set_cons_zero, List.set_cons_succ]; rfl) ?_
    refine stepV (i := 37) (N := some 105) #[true, true, true, true, true, true, true, true, true, true, true, true, true, true, true, true, true, true, true, true, true, true, true, true, true, true, true, true, true, true, true, true, true, true, true, true, true, true, false, false, false, false, false, false, false, false, false, false, false, false, false, false] rfl (by kernel_rfl) (by decide) rfl (by rfl) (.bool true) (w1 := w25) (by rfl) (by simp only [Act.put, List.setIfInBounds_toArray, List.set_cons_zero, List.set_cons_succ]; rfl) ?_
    refine stepV (i := 38) (N := some 106) #[true, true, true, true, true, true, true, true, true, true, true, true, true, true, true, true, true, true, true, true, true, true, true, true, true, true, true, true, true, true, true, true, true, true, true, true, true, true, true, false, false, false, false, false, false, false, false, false, false, false, false, false] rfl (by kernel_rfl) (by decide) rfl (by rfl) (.bool true) (w1 := w25) (by rfl) (by simp only [Act.put, List.setIfInBounds_toArray, List.set_cons_zero, List.set_cons_succ]; rfl) ?_
    refine stepV (i := 39) (N := some 107) #[true, true, true, true, true, true, true, true, true, true, true, true, true, true, true, true, true, true, true, true, true, true, true, true, true, true, true, true, true, true, true, true, true, true, true, true, true, true, true, true, false, false, false, false, false, false, false, false, false, false, false, false] rfl (by kernel_rfl) (by decide) rfl (by rfl) (.int .i64 0) (w1 := w25) (by rfl) (by simp only [Act.put, List.setIfInBounds_toArray, List.set_cons_zero, List.set_cons_succ]; rfl) ?_
    refine stepV (i := 40) (N := some 108) #[true, true, true, true, true, true, true, true, true, true, true, true, true, true, true, true, true, true, true, true, true, true, true, true, true, true, true, true, true, true, true, true, true, true, true, true, true, true, true, true, true, false, false, false, false, false, false, false, false, false, false, false] rfl (by kernel_rfl) (by decide) rfl (by rfl) (.bool true) (w1 := w25) (by rfl) (by simp only [Act.put, List.setIfInBounds_toArray, List.set_cons_zero, List.set_cons_succ]; rfl) ?_
    refine stepV (i := 41) (N := some 109) #[true, true, true, true, true, true, true, true, true, true, true, true, true, true, true, true, true, true, true, true, true, true, true, true, true, true, true, true, true, true, true, true, true, true, true, true, true, true, true, true, true, true, false, false, false, false, false, false, false, false, false, false] rfl (by kernel_rfl) (by decide) rfl (by rfl) (.bool true) (w1 := w25) (by rfl) (by simp only [Act.put, List.setIfInBounds_toArray, List.set_cons_zero, List.set_cons_succ]; rfl) ?_
    refine stepV (i := 42) (N := some 110) #[true, true, true, true, true, true, true, true, true, true, true, true, true, true, true, true, true, true, true, true, true, true, true, true, true, true, true, true, true, true, true, true, true, true, true, true, true, true, true, true, true, true, true, false, false, false, false, false, false, false, false, false] rfl (by kernel_rfl) (by decide) rfl (by rfl) (.bool true) (w1 := w25) (by rfl) (by simp only [Act.put, List.setIfInBounds_toArray, List.set_cons_zero, List.set_cons_succ]; rfl) ?_
    refine stepV (i := 43) (N := some 111) #[true, true, true, true, true, true, true, true, true, true, true, true, true, true, true, true, true, true, true, true, true, true, true, true, true, true, true, true, true, true, true, true, true, true, true, true, true, true, true, true, true, true, true, true, false, false, false, false, false, false, false, false] rfl (by kernel_rfl) (by decide) rfl (by rfl) (.int .i64 40) (w1 := w25) (by rfl) (by simp only [Act.put, List.setIfInBounds_toArray, List.set_cons_zero, List.set_cons_succ]; rfl) ?_
    refine stepV (i := 44) (N := some 112) #[true, true, true, true, true, true, true, true, true, true, true, true, true, true, true, true, true, true, true, true, true, true, true, true, true, true, true, true, true, true, true, true, true, true, true, true, true, true, true, true, true, true, true, true, true, false, false, false, false, false, false, false] rfl (by kernel_rfl) (by decide) rfl (by rfl) (.bool true) (w1 := w25) (by rfl) (by simp only [Act.put, List.setIfInBounds_toArray, List.set_cons_zero, List.set_cons_succ]; rfl) ?_
    refine stepV (i := 45) (N := some 113) #[true, true, true, true, true, true, true, true, true, true, true, true, true, true, true, true, true, true, true, true, true, true, true, true, true, true, true, true, true, true, true, true, true, true, true, true, true, true, true, true, true, true, true, true, true, true, false, false, false, false, false, false] rfl (by kernel_rfl) (by decide) rfl (by rfl) (.bool true) (w1 := w25) (by rfl) (by simp only [Act.put, List.setIfInBounds_toArray, List.set_cons_zero, List.set_cons_succ]; rfl) ?_
    refine stepV (i := 46) (N := some 114) #[true, true, true, true, true, true, true, true, true, true, true, true, true, true, true, true, true, true, true, true, true, true, true, true, true, true, true, true, true, true, true, true, true, true, true, true, true, true, true, true, true, true, true, true, true, true, true, false, false, false, false, false] rfl (by kernel_rfl) (by decide) rfl (by rfl) (.bool true) (w1 := w25) (by rfl) (by simp only [Act.put, List.setIfInBounds_toArray, List.set_cons_zero, List.set_cons_succ]; rfl) ?_
    refine stepV (i := 47) (N := some 115) #[true, true, true, true, true, true, true, true, true, true, true, true, true, true, true, true, true, true, true, true, true, true, true, true, true, true, true, true, true, true, true, true, true, true, true, true, true, true, true, true, true, true, true, true, true, true, true, true, false, false, false, false] rfl (by kernel_rfl) (by decide) rfl (by rfl) (.pointer (some ⟨w13.heap.size + 2, 0, none⟩)) (w1 := w25) (by rfl) (by simp only [Act.put, List.setIfInBounds_toArray, List.set_cons_zero, List.set_cons_succ]; rfl) ?_
    refine stepC (i := 48) (N := some 116) #[true, true, true, true, true, true, true, true, true, true, true, true, true, true, true, true, true, true, true, true, true, true, true, true, true, true, true, true, true, true, true, true, true, true, true, true, true, true, true, true, true, true, true, true, true, true, true, true, true, false, false, false] rfl (by kernel_rfl) (by decide) rfl (by rfl) 17 #[.pointer (some ⟨w13.heap.size + 2, 0, none⟩)] (exec_call Try.func17 (by kernel_rfl) rfl _ rfl (by (try simp only [List.map_toArray, List.map_cons, List.map_nil]); first | done | rfl)) ?_
    refine Calls.mono (show Calls Try.prog 17 #[.pointer (some ⟨w13.heap.size + 2, 0, none⟩)] w25 (fun e w' => e = .returned (.int .i64 1) ∧ w' = w25) from len_calls _ _ _ _ _ _ _ HT25.out) ?_
    rintro e w26 ⟨rfl, rfl⟩
    refine ⟨_, rfl, ?_⟩
    simp only [Act.put, List.setIfInBounds_toArray, List.set_cons_zero, List.set_cons_succ]
    refine stepV (i := 49) (N := some 117) #[true, true, true, true, true, true, true, true, true, true, true, true, true, true, true, true, true, true, true, true, true, true, true, true, true, true, true, true, true, true, true, true, true, true, true, true, true, true, true, true, true, true, true, true, true, true, true, true, true, true, false, false] rfl (by kernel_rfl) (by decide) rfl (by rfl) (.bool true) (w1 := w26) (by rfl) (by simp only [Act.put, List.setIfInBounds_toArray, List.set_cons_zero, List.set_cons_succ]; rfl) ?_
    refine stepV (i := 50) (N := some 118) #[true, true, true, true, true, true, true, true, true, true, true, true, true, true, true, true, true, true, true, true, true, true, true, true, true, true, true, true, true, true, true, true, true, true, true, true, true, true, true, true, true, true, true, true, true, true, true, true, true, true, true, false] rfl (by kernel_rfl) (by decide) rfl (by rfl) (.bool true) (w1 := w26) (by rfl) (by simp only [Act.put, List.setIfInBounds_toArray, List.set_cons_zero, List.set_cons_succ]; rfl) ?_
    refine stepV (i := 51) (N := some 0) #[true, true, true, true, true, true, true, true, true, true, true, true, true, true, true, true, true, true, true, true, true, true, true, true, true, true, true, true, true, true, true, true, true, true, true, true, true, true, true, true, true, true, true, true, true, true, true, true, true, true, true, true] rfl (by kernel_rfl) (by decide) rfl (by rfl) (.bool true) (w1 := w26) (by rfl) (by simp only [Act.put, List.setIfInBounds_toArray, List.set_cons_zero, List.set_cons_succ]; rfl) ?_
    refine done_ (by kernel_rfl) ?_
    go_wp2_with fail
    go_ret
    exact ⟨rfl, HX25.out⟩
  · refine (number_calls 1 _).mono ?_
    rintro e w24 ⟨rfl, hx⟩
    refine ⟨_, rfl, ?_⟩
    simp only [Act.put, List.setIfInBounds_toArray, List.set_cons_zero, List.set_cons_succ]
    have HX24 := Aside0.mk (HX.out.drew.trans hx (fun _ h => h.elim))
    have HO24 := Aside0.mk (hx.blk (blk_drew HO.out) (fun h => h))
    have HT24 := Aside0.mk (HT.out.ex0 (((Ex.refl _ _).drew).trans hx (fun _ h => h.elim)))
    clear hx
    have qc0 := (blk_cell HO24.out 0).trans rfl
    have qc1 := (blk_cell HO24.out 1).trans rfl
    have qc2 := (blk_cell HO24.out 2).trans rfl
    have qc3 := (blk_cell HO24.out 3).trans rfl
    have qc4 := (blk_cell HO24.out 4).trans rfl
    have ql := lt_of_blk HO24.out
    refine stepV (i := 31) (N := some 99) #[true, true, true, true, true, true, true, true, true, true, true, true, true, true, true, true, true, true, true, true, true, true, true, true, true, true, true, true, true, true, true, true, true, false, false, false, false, false, false, false, false, false, false, false, false, false, false, false, false, false, false, false] rfl (by kernel_rfl) (by decide) rfl (by rfl) (.agg #[.int .u8 (num 1).f0, .int .i64 (num 1).f1, .string (num 1).f2, .slice rB (num 1).f3.length rcb, .int .i64 (num 1).f4]) (w1 := w24) (by go_simp) (by simp only [Act.put, List.setIfInBounds_toArray, List.set_cons_zero, List.set_cons_succ]; rfl) ?_
    refine stepC (i := 33) (N := some 101) #[true, true, true, true, true, true, true, true, true, true, true, true, true, true, true, true, true, true, true, true, true, true, true, true, true, true, true, true, true, true, true, true, true, true, false, false, false, false, false, false, false, false, false, false, false, false, false, false, false, false, false, false] rfl (by kernel_rfl) (by decide) rfl (by rfl) 26 #[.agg #[.int .u8 (num 1).f0, .int .i64 (num 1).f1, .string (num 1).f2, .slice rB (num 1).f3.length rcb, .int .i64 (num 1).f4], .agg #[.int .u8 1, .int .i64 1, .string ⟨#[]⟩, .slice none 0 0, .int .i64 0]] (exec_call Try.func26 (by kernel_rfl) rfl _ rfl (by (try simp only [List.map_toArray, List.map_cons, List.map_nil]); first | done | rfl)) ?_
    refine (posternref04_Same.calls 3 1 1 ⟨#[]⟩ rB rcb [] 0 1 1 ⟨#[]⟩ none 0 [] 0 true _ ⟨rfl, by decide, fun h => absurd h (by decide)⟩ (Nat.zero_le _) (Kd.C_nil _ _) (Nat.le_refl _) (by first | rfl | decide | (simp [posternref04_Same.f, posternref04_Same.j0, posternref04_Same.l0]; done))).mono ?_
    rintro e w25 ⟨rfl, hb⟩
    refine ⟨_, rfl, ?_⟩
    simp only [Act.put, List.setIfInBounds_toArray, List.set_cons_zero, List.set_cons_succ]
    have HX25 := Aside0.mk (HX24.out.then_below hb)
    have HT25 := Aside0.mk (HT24.out.ex0 (Ex.of_below hb))
    clear hb
    refine stepV (i := 34) (N := some 102) #[true, true, true, true, true, true, true, true, true, true, true, true, true, true, true, true, true, true, true, true, true, true, true, true, true, true, true, true, true, true, true, true, true, true, true, false, false, false, false, false, false, false, false, false, false, false, false, false, false, false, false, false] rfl (by kernel_rfl) (by decide) rfl (by rfl) (.bool true) (w1 := w25) (by rfl) (by simp only [Act.put, List.setIfInBounds_toArray, List.set_cons_zero, List.set_cons_succ]; rfl) ?_
    refine stepV (i := 35) (N := some 103) #[true, true, true, true, true, true, true, true, true, true, true, true, true, true, true, true, true, true, true, true, true, true, true, true, true, true, true, true, true, true, true, true, true, true, true, true, false, false, false, false, false, false, false, false, false, false, false, false, false, false, false, false] rfl (by kernel_rfl) (by decide) rfl (by rfl) (.bool true) (w1 := w25) (by rfl) (by simp only [Act.put, List.setIfInBounds_toArray, List.set_cons_zero, List.set_cons_succ]; rfl) ?_
    refine stepV (i := 36) (N := some 104) #[true, true, true, true, true, true, true, true, true, true, true, true, true, true, true, true, true, true, true, true, true, true, true, true, true, true, true, true, true, true, true, true, true, true, true, true, true, false, false, false, false, false, false, false, false, false, false, false, false, false, false, false] rfl (by kernel_rfl) (by decide) rfl (by rfl) (.bool true) (w1 := w25) (by rfl) (by simp only [Act.put, List.setIfInBounds_toArray, List.set_cons_zero, List.set_cons_succ]; rfl) ?_
    refine stepV (i := 37) (N := some 105) #[true, true, true, true, true, true, true, true, true, true, true, true, true, true, true, true, true, true, true, true, true, true, true, true, true, true, true, true, true, true, true, true, true, true, true, true, true, true, false, false, false, false, false, false, false, false, false, false, false, false, false, false] rfl (by kernel_rfl) (by decide) rfl (by rfl) (.bool true) (w1 := w25) (by rfl) (by simp only [Act.put, List.setIfInBounds_toArray, List.set_cons_zero, List.set_cons_succ]; rfl) ?_
    refine stepV (i := 38) (N := some 106) #[true, true, true, true, true, true, true, true, true, true, true, true, true, true, true, true, true, true, true, true, true, true, true, true, true, true, true, true, true, true, true, true, true, true, true, true, true, true, true, false, false, false, false, false, false, false, false, false, false, false, false, false] rfl (by kernel_rfl) (by decide) rfl (by rfl) (.bool true) (w1 := w25) (by rfl) (by simp only [Act.put, List.setIfInBounds_toArray, List.set_cons_zero, List.set_cons_succ]; rfl) ?_
    refine stepV (i := 39) (N := some 107) #[true, true, true, true, true, true, true, true, true, true, true, true, true, true, true, true, true, true, true, true, true, true, true, true, true, true, true, true, true, true, true, true, true, true, true, true, true, true, true, true, false, false, false, false, false, false, false, false, false, false, false, false] rfl (by kernel_rfl) (by decide) rfl (by rfl) (.int .i64 0) (w1 := w25) (by rfl) (by simp only [Act.put, List.setIfInBounds_toArray, List.set_cons_zero, List.set_cons_succ]; rfl) ?_
    refine stepV (i := 40) (N := some 108) #[true, true, true, true, true, true, true, true, true, true, true, true, true, true, true, true, true, true, true, true, true, true, true, true, true, true, true, true, true, true, true, true, true, true, true, true, true, true, true, true, true, false, false, false, false, false, false, false, false, false, false, false] rfl (by kernel_rfl) (by decide) rfl (by rfl) (.bool true) (w1 := w25) (by rfl) (by simp only [Act.put, List.setIfInBounds_toArray, List.set_cons_zero, List.set_cons_succ]; rfl) ?_
    refine stepV (i := 41) (N := some 109) #[true, true, true, true, true, true, true, true, true, true, true, true, true, true, true, true, true, true, true, true, true, true, true, true, true, true, true, true, true, true, true, true, true, true, true, true, true, true, true, true, true, true, false, false, false, false, false, false, false, false, false, false] rfl (by kernel_rfl) (by decide) rfl (by rfl) (.bool true) (w1 := w25) (by rfl) (by simp only [Act.put, List.setIfInBounds_toArray, List.set_cons_zero, List.set_cons_succ]; rfl) ?_
    refine stepV (i := 42) (N := some 110) #[true, true, true, true, true, true, true, true, true, true, true, true, true, true, true, true, true, true, true, true, true, true, true, true, true, true, true, true, true, true, true, true, true, true, true, true, true, true, true, true, true, true, true, false, false, false, false, false, false, false, false, false] rfl (by kernel_rfl) (by decide) rfl (by rfl) (.bool true) (w1 := w25) (by rfl) (by simp only [Act.put, List.setIfInBounds_toArray, List.set_cons_zero, List.set_cons_succ]; rfl) ?_
    refine stepV (i := 43) (N := some 111) #[true, true, true, true, true, true, true, true, true, true, true, true, true, true, true, true, true, true, true, true, true, true, true, true, true, true, true, true, true, true, true, true, true, true, true, true, true, true, true, true, true, true, true, true, false, false, false, false, false, false, false, false] rfl (by kernel_rfl) (by decide) rfl (by rfl) (.int .i64 40) (w1 := w25) (by rfl) (by simp only [Act.put, List.setIfInBounds_toArray, List.set_cons_zero, List.set_cons_succ]; rfl) ?_
    refine stepV (i := 44) (N := some 112) #[true, true, true, true, true, true, true, true, true, true, true, true, true, true, true, true, true, true, true, true, true, true, true, true, true, true, true, true, true, true, true, true, true, true, true, true, true, true, true, true, true, true, true, true, true, false, false, false, false, false, false, false] rfl (by kernel_rfl) (by decide) rfl (by rfl) (.bool true) (w1 := w25) (by rfl) (by simp only [Act.put, List.setIfInBounds_toArray, List.set_cons_zero, List.set_cons_succ]; rfl) ?_
    refine stepV (i := 45) (N := some 113) #[true, true, true, true, true, true, true, true, true, true, true, true, true, true, true, true, true, true, true, true, true, true, true, true, true, true, true, true, true, true, true, true, true, true, true, true, true, true, true, true, true, true, true, true, true, true, false, false, false, false, false, false] rfl (by kernel_rfl) (by decide) rfl (by rfl) (.bool true) (w1 := w25) (by rfl) (by simp only [Act.put, List.setIfInBounds_toArray, List.set_cons_zero, List.set_cons_succ]; rfl) ?_
    refine stepV (i := 46) (N := some 114) #[true, true, true, true, true, true, true, true, true, true, true, true, true, true, true, true, true, true, true, true, true, true, true, true, true, true, true, true, true, true, true, true, true, true, true, true, true, true, true, true, true, true, true, true, true, true, true, false, false, false, false, false] rfl (by kernel_rfl) (by decide) rfl (by rfl) (.bool true) (w1 := w25) (by rfl) (by simp only [Act.put, List.setIfInBounds_toArray, List.set_cons_zero, List.set_cons_succ]; rfl) ?_
    refine stepV (i := 47) (N := some 115) #[true, true, true, true, true, true, true, true, true, true, true, true, true, true, true, true, true, true, true, true, true, true, true, true, true, true, true, true, true, true, true, true, true, true, true, true, true, true, true, true, true, true, true, true, true, true, true, true, false, false, false, false] rfl (by kernel_rfl) (by decide) rfl (by rfl) (.pointer (some ⟨w13.heap.size + 2, 0, none⟩)) (w1 := w25) (by rfl) (by simp only [Act.put, List.setIfInBounds_toArray, List.set_cons_zero, List.set_cons_succ]; rfl) ?_
    refine stepC (i := 48) (N := some 116) #[true, true, true, true, true, true, true, true, true, true, true, true, true, true, true, true, true, true, true, true, true, true, true, true, true, true, true, true, true, true, true, true, true, true, true, true, true, true, true, true, true, true, true, true, true, true, true, true, true, false, false, false] rfl (by kernel_rfl) (by decide) rfl (by rfl) 17 #[.pointer (some ⟨w13.heap.size + 2, 0, none⟩)] (exec_call Try.func17 (by kernel_rfl) rfl _ rfl (by (try simp only [List.map_toArray, List.map_cons, List.map_nil]); first | done | rfl)) ?_
    refine Calls.mono (show Calls Try.prog 17 #[.pointer (some ⟨w13.heap.size + 2, 0, none⟩)] w25 (fun e w' => e = .returned (.int .i64 1) ∧ w' = w25) from len_calls _ _ _ _ _ _ _ HT25.out) ?_
    rintro e w26 ⟨rfl, rfl⟩
    refine ⟨_, rfl, ?_⟩
    simp only [Act.put, List.setIfInBounds_toArray, List.set_cons_zero, List.set_cons_succ]
    refine stepV (i := 49) (N := some 117) #[true, true, true, true, true, true, true, true, true, true, true, true, true, true, true, true, true, true, true, true, true, true, true, true, true, true, true, true, true, true, true, true, true, true, true, true, true, true, true, true, true, true, true, true, true, true, true, true, true, true, false, false] rfl (by kernel_rfl) (by decide) rfl (by rfl) (.bool true) (w1 := w26) (by rfl) (by simp only [Act.put, List.setIfInBounds_toArray, List.set_cons_zero, List.set_cons_succ]; rfl) ?_
    refine stepV (i := 50) (N := some 118) #[true, true, true, true, true, true, true, true, true, true, true, true, true, true, true, true, true, true, true, true, true, true, true, true, true, true, true, true, true, true, true, true, true, true, true, true, true, true, true, true, true, true, true, true, true, true, true, true, true, true, true, false] rfl (by kernel_rfl) (by decide) rfl (by rfl) (.bool true) (w1 := w26) (by rfl) (by simp only [Act.put, List.setIfInBounds_toArray, List.set_cons_zero, List.set_cons_succ]; rfl) ?_
    refine stepV (i := 51) (N := some 0) #[true, true, true, true, true, true, true, true, true, true, true, true, true, true, true, true, true, true, true, true, true, true, true, true, true, true, true, true, true, true, true, true, true, true, true, true, true, true, true, true, true, true, true, true, true, true, true, true, true, true, true, true] rfl (by kernel_rfl) (by decide) rfl (by rfl) (.bool true) (w1 := w26) (by rfl) (by simp only [Act.put, List.setIfInBounds_toArray, List.set_cons_zero, List.set_cons_succ]; rfl) ?_
    refine done_ (by kernel_rfl) ?_
    go_wp2_with fail
    go_ret
    exact ⟨rfl, HX25.out⟩

end Go.Proofs.Ythkemcekcfccpaa.PBrandCompares

namespace Go.Proofs.Ythkemcekcfccpaa.PBrandCompares
open Go.RowKit Go.Proofs.YthkemcekcfccpaaW.PrintWords Go.Proofs.YthkemcekcfccpaaW.PrintLast Go.Proofs.YthkemcekcfccpaaW.PrintMore
open Go.Proofs.Ythkemcekcfccpaa.GBrandCompares
set_option linter.unusedVariables false
set_option linter.unusedSimpArgs false

theorem mark_ex (x : S27) : ∃ m, MarkOf x m := by
  induction x using S27.ind with
  | h x ih =>
    by_cases h1 : x.f0 = 1
    · exact ⟨.number x.f1, h1, rfl⟩
    by_cases h2 : x.f0 = 2
    · exact ⟨.text x.f2, h2, rfl⟩
    by_cases h4 : x.f0 = 4
    · exact ⟨.refer x.f4, h4, rfl⟩
    by_cases h3 : x.f0 = 3
    · by_cases hl : x.f3.length = 2
      · obtain ⟨y, z, hyz⟩ : ∃ y z, x.f3 = [y, z] := by
          match h : x.f3, hl with
          | [y, z], _ => exact ⟨y, z, rfl⟩
        obtain ⟨a, ha⟩ := ih y (by rw [hyz]; simp)
        obtain ⟨b, hb⟩ := ih z (by rw [hyz]; simp)
        exact ⟨.pair a b, h3, y, z, hyz, ha, hb⟩
      · exact ⟨.row undef, h3, hl⟩
    · exact ⟨.nothing, h1, h2, h4, h3⟩
noncomputable def markV (x : S27) : Mk := (mark_ex x).choose
theorem markV_of (x : S27) : MarkOf x (markV x) := (mark_ex x).choose_spec

theorem ev_one {α : Type} {g : Nat → Option α} {a b : α} (h : Ev g a) (k : Ev g b) : a = b := by
  obtain ⟨K, h⟩ := h
  obtain ⟨K', k⟩ := k
  have h1 := h (max K K') (by omega)
  have h2 := k (max K K') (by omega)
  rw [h1] at h2
  exact Option.some.inj h2

theorem may_fields {x : S27} (h : mayV x = true) : Fields x := ((may_iff x).1 h).2.2
theorem may_wf {x : S27} (h : mayV x = true) : Wf x := wf_may ((may_iff x).1 h).2.2 ((may_iff x).1 h).1

noncomputable def cmpV (x y : S27) : Nat := if mayV x = true ∧ mayV y = true then (markV x).cmp (markV y) else 0
def errV (x y : S27) : Int := if mayV x = true ∧ mayV y = true then 0 else 2
theorem cmpV_eq {x y : S27} (hm : mayV x = true) (hn : mayV y = true) (m m2 : Mk) (h : MarkOf x m) (h2 : MarkOf y m2) : m.cmp m2 = cmpV x y := by
  rw [cmpV, if_pos ⟨hm, hn⟩]
  have := ev_one (compare_ev m x y m2 h h2 (may_fields hm) (may_fields hn) (may_wf hm) (may_wf hn)) (compare_ev _ x y _ (markV_of x) (markV_of y) (may_fields hm) (may_fields hn) (may_wf hm) (may_wf hn))
  omega
theorem cmpV_ev {x y : S27} (hm : mayV x = true) (hn : mayV y = true) : Ev (compareE x y) (cmpV x y : Int) := by
  rw [cmpV, if_pos ⟨hm, hn⟩]
  exact compare_ev _ x y _ (markV_of x) (markV_of y) (may_fields hm) (may_fields hn) (may_wf hm) (may_wf hn)

/-- Compare -/
theorem compare_calls (x y : S27) (A B : Option Addr) (c d : Nat) (w : World) (ok : Nat → Prop) (hF : Kd.F k27 w ok A x.f3.length x.f3) (hG : Kd.F k27 w ok B y.f3.length y.f3) :
    Calls Try.prog 9 #[.agg #[.int .u8 x.f0, .int .i64 x.f1, .string x.f2, .slice A x.f3.length c, .int .i64 x.f4], .agg #[.int .u8 y.f0, .int .i64 y.f1, .string y.f2, .slice B y.f3.length d, .int .i64 y.f4]] w fun e w' => e = .returned (.tuple #[.int .u8 (cmpV x y), .int .i64 (errV x y)]) ∧ Ex (fun _ => False) w w' := by
  cases hm : mayV x with
  | false =>
    have e1 : (cmpV x y : Int) = 0 := by rw [cmpV, if_neg (by rw [hm]; simp)]; rfl
    have e2 : errV x y = 2 := by rw [errV, if_neg (by rw [hm]; simp)]
    rw [e1, e2]
    cases hn : mayV y with
    | false => exact compare_no1 x y A B c d w ok hF hG hm hn
    | true => exact compare_no2 x y A B c d w ok hF hG hm hn
  | true =>
    cases hn : mayV y with
    | false =>
      have e1 : (cmpV x y : Int) = 0 := by rw [cmpV, if_neg (by rw [hn]; simp)]; rfl
      have e2 : errV x y = 2 := by rw [errV, if_neg (by rw [hn]; simp)]
      rw [e1, e2]
      exact compare_no3 x y A B c d w ok hF hG hm hn
    | true =>
      have e2 : errV x y = 0 := by rw [errV, if_pos ⟨hm, hn⟩]
      rw [e2]
      have hle : cmpV x y ≤ 2 := by rw [cmpV, if_pos ⟨hm, hn⟩]; exact cmp_lt _ _
      rcases (show cmpV x y = 0 ∨ cmpV x y = 1 ∨ cmpV x y = 2 by omega) with h | h | h
      · rw [h]; exact compare_unlike x y A B c d w ok hF hG hm hn (fun m m2 h1 h2 => (cmpV_eq hm hn m m2 h1 h2).trans h)
      · rw [h]; exact compare_same x y A B c d w ok hF hG hm hn (fun m m2 h1 h2 => (cmpV_eq hm hn m m2 h1 h2).trans h)
      · rw [h]; exact compare_panic x y A B c d w ok hF hG hm hn (fun m m2 h1 h2 => (cmpV_eq hm hn m m2 h1 h2).trans h)

/-- May of the reference, Compare, Keys of the reference -/
theorem refmay_calls (x : S27) (A : Option Addr) (c : Nat) (w : World) (hc : x.f3.length ≤ c) (hC : Kd.C k27 w A x.f3.length x.f3) (hw : Wf x) :
    Calls Try.prog 10 #[.agg #[.int .u8 x.f0, .int .i64 x.f1, .string x.f2, .slice A x.f3.length c, .int .i64 x.f4]] w fun e w' => e = .returned (.bool (mayV x)) ∧ Below w.heap.size w w' := by
  obtain ⟨k, h⟩ := (refmay_ev x hw).rounds
  exact posternref04_May.calls k x.f0 x.f1 x.f2 A c x.f3 x.f4 _ w hC hc h
theorem refcompare_calls (x y : S27) (A B : Option Addr) (c d : Nat) (w : World) (hc : x.f3.length ≤ c) (hC : Kd.C k27 w A x.f3.length x.f3) (hd : y.f3.length ≤ d) (hD : Kd.C k27 w B y.f3.length y.f3) (hm : mayV x = true) (hn : mayV y = true) :
    Calls Try.prog 11 #[.agg #[.int .u8 x.f0, .int .i64 x.f1, .string x.f2, .slice A x.f3.length c, .int .i64 x.f4], .agg #[.int .u8 y.f0, .int .i64 y.f1, .string y.f2, .slice B y.f3.length d, .int .i64 y.f4]] w fun e w' => e = .returned (.int .i64 (cmpV x y)) ∧ Below w.heap.size w w' := by
  obtain ⟨k, h⟩ := (cmpV_ev hm hn).rounds
  exact posternref04_Compare.calls k x.f0 x.f1 x.f2 A c x.f3 x.f4 y.f0 y.f1 y.f2 B d y.f3 y.f4 _ w hC hc hD hd h
theorem refkeys_calls (x : S27) (A : Option Addr) (c : Nat) (w : World) (hc : x.f3.length ≤ c) (hC : Kd.C k27 w A x.f3.length x.f3) (hm : mayV x = true) :
    Calls Try.prog 13 #[.agg #[.int .u8 x.f0, .int .i64 x.f1, .string x.f2, .slice A x.f3.length c, .int .i64 x.f4]] w fun e w' => e = .returned (.bool (markV x).keys) ∧ Below w.heap.size w w' := by
  obtain ⟨k, h⟩ := (keys_ev (markV x) x (markV_of x) (may_fields hm) (may_wf hm)).rounds
  exact posternref04_Keys.calls k x.f0 x.f1 x.f2 A c x.f3 x.f4 _ w hC hc h

set_option maxHeartbeats 400000 in
theorem keys_no (x : S27) (A : Option Addr) (c : Nat) (w : World) (ok : Nat → Prop) (hF : Kd.F k27 w ok A x.f3.length x.f3) (hm : mayV x = false) :
    Calls Try.prog 12 #[.agg #[.int .u8 x.f0, .int .i64 x.f1, .string x.f2, .slice A x.f3.length c, .int .i64 x.f4]] w fun e w' => e = .returned (.tuple #[.bool false, .int .i64 2]) ∧ Ex (fun _ => False) w w' := by
  have HF := Aside0.mk hF
  have HM := Aside0.mk hm
  clear hF hm
  go_enter Try.func12, Try.ntmps12
  go_wp2_with fail
  refine (of_no x A c _ ok (Kd.F_alloc HF.out _) HM.out).mono ?_
  rintro e w1 ⟨rfl, hx1⟩
  have HX1 := Aside0.mk (((Ex.refl (fun _ => False) w).alloc _).trans hx1 (fun _ h => h.elim))
  clear hx1
  go_wp2
  go_ret2
  exact ⟨rfl, HX1.out⟩

set_option maxHeartbeats 400000 in
theorem keys_yes (x : S27) (A : Option Addr) (c : Nat) (w : World) (ok : Nat → Prop) (hF : Kd.F k27 w ok A x.f3.length x.f3) (hm : mayV x = true) :
    Calls Try.prog 12 #[.agg #[.int .u8 x.f0, .int .i64 x.f1, .string x.f2, .slice A x.f3.length c, .int .i64 x.f4]] w fun e w' => e = .returned (.tuple #[.bool (markV x).keys, .int .i64 0]) ∧ Ex (fun _ => False) w w' := by
  have HF := Aside0.mk hF
  have HM := Aside0.mk hm
  clear hF hm
  go_enter Try.func12, Try.ntmps12
  go_wp2_with fail
  refine (of_yes x A c _ ok (Kd.F_alloc HF.out _) HM.out).mono ?_
  rintro e w1 ⟨m, h1, h2, rfl, hx1⟩
  have HX1 := Aside0.mk (((Ex.refl (fun _ => False) w).alloc _).trans hx1 (fun _ h => h.elim))
  have HK := Aside0.mk (mark_one m x _ h1 (markV_of x)).1
  obtain ⟨t1, u1, hu1⟩ := m.val_iface
  have HC := Aside0.mk (key_calls m h2)
  rw [hu1]
  rw [hu1] at HC
  clear hx1 h1 h2 hu1
  go_wp2_with fail
  refine (HC.out _).mono ?_
  rintro e w2 ⟨rfl, hx2⟩
  have HX2 := Aside0.mk (HX1.out.trans hx2 (fun _ h => h.elim))
  clear hx2
  have hk := HK.out
  rw [hk]
  clear hk
  go_wp2
  go_ret2
  exact ⟨rfl, HX2.out⟩

end Go.Proofs.Ythkemcekcfccpaa.PBrandCompares
