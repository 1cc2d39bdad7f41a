/-
  A region that draws its order, by what each operation yields: the operations ahead of the m-th in any order (each told once), the others behind them in a row.
-/
import Derived.Test.YthkemcekcfccpaaBrandComparesR3M3
import Derived.OrdersHeld
import Derived.Deep.RegionHeld3
namespace Go.Proofs.Ythkemcekcfccpaa.GBrandCompares
open Go.RowKit
set_option linter.unusedVariables false
set_option linter.unusedSimpArgs false

section
variable {P : Program} {ops : Array Oper} {Q : Exit → Act → World → Prop}

def dstOf (ops : Array Oper) (i : Nat) : Option Tmp := (ops[i]?).bind (·.dst)

/-- the shape that the law asks: ahead of m each waits for smaller numbers alone; from m on each waits for all smaller ones; what is ahead writes slots of its own, that are there -/
def waits (o : Oper) (j : Nat) : Bool := o.after.any (fun e => Region.binds .any e && e.on == j)
def shapeB (ops : Array Oper) (m size : Nat) (lag : List Nat) : Bool :=
  decide (m ≤ ops.size) &&
  (List.range ops.size).all (fun i => match ops[i]? with
    | some o => o.after.all (fun e => !Region.binds .any e || decide (e.on < i)) && (if i < m then (match o.dst with | some d => decide (d < size) | none => true)
      else (List.range i).all (fun j => lag.contains j || waits o j))
    | none => true) &&
  (List.range m).all (fun i => (List.range i).all (fun j => match dstOf ops i, dstOf ops j with | some d, some e => d != e | _, _ => true)) &&
  Region.noSelect ops && lag.all (fun i => decide (i < m) && (List.range ops.size).all (fun j => i == j || match ops[i]?, ops[j]? with | some oi, some oj => waits oi j || waits oj i || oi.apart ops oj | _, _ => true))

structure Shape (ops : Array Oper) (m size : Nat) (lag : List Nat) : Prop where
  le : m ≤ ops.size
  front : ∀ i o, ops[i]? = some o → ∀ e ∈ o.after, Region.binds .any e = true → e.on < i
  bound : ∀ i d, i < m → dstOf ops i = some d → d < size
  tail : ∀ i o, m ≤ i → ops[i]? = some o → ∀ j, j < i → j ∈ lag ∨ ∃ e ∈ o.after, Region.binds .any e = true ∧ e.on = j
  apart : ∀ i j d, i < m → j < m → i ≠ j → dstOf ops i = some d → dstOf ops j ≠ some d
  nosel : Region.noSelect ops = true
  lagm : ∀ i, i ∈ lag → i < m
  lagf : ∀ i, i ∈ lag → ∀ oi, ops[i]? = some oi → ∀ j oj, ops[j]? = some oj → j ≠ i → waits oi j = true ∨ waits oj i = true ∨ oi.apart ops oj = true

theorem waits_spec {o : Oper} {j : Nat} (h : waits o j = true) : ∃ e ∈ o.after, Region.binds .any e = true ∧ e.on = j := by
  obtain ⟨e, he, h4⟩ := Array.any_eq_true'.1 h
  simp only [Bool.and_eq_true, beq_iff_eq] at h4
  exact ⟨e, he, h4.1, h4.2⟩

theorem shape_of {m size : Nat} {lag : List Nat} (h : shapeB ops m size lag = true) : Shape ops m size lag := by
  simp only [shapeB, Bool.and_eq_true, decide_eq_true_eq, List.all_eq_true, List.mem_range] at h
  obtain ⟨⟨⟨⟨h1, h2⟩, h3⟩, h4⟩, h5⟩ := h
  refine ⟨h1, ?_, ?_, ?_, ?_, h4, fun i hi => (h5 i hi).1, ?_⟩
  · intro i o ho e he hb
    have hlt : i < ops.size := (Array.getElem?_eq_some_iff.1 ho).1
    have := h2 i hlt
    rw [ho] at this
    simp only [Bool.and_eq_true, Array.all_eq_true_iff_forall_mem] at this
    have := this.1 e he
    simpa [hb] using this
  · intro i d hi hd
    have hlt : i < ops.size := by omega
    have := h2 i hlt
    rw [dstOf] at hd
    rw [Array.getElem?_eq_getElem hlt] at this hd
    simp only [hi, if_true, Bool.and_eq_true] at this
    have h4 := this.2
    simp only [Option.bind_some] at hd
    rw [hd] at h4
    simpa using h4
  · intro i o hi ho j hj
    have hlt : i < ops.size := (Array.getElem?_eq_some_iff.1 ho).1
    have := h2 i hlt
    rw [ho] at this
    simp only [if_neg (show ¬ i < m by omega), Bool.and_eq_true, List.all_eq_true, List.mem_range] at this
    have h6 := this.2 j hj
    simp only [Bool.or_eq_true, List.contains_iff_mem] at h6
    rcases h6 with h6 | h6
    · exact .inl h6
    · exact .inr (waits_spec h6)
  · have key : ∀ i j d, i < m → j < i → dstOf ops i = some d → dstOf ops j ≠ some d := by
      intro i j d hi hj hd he
      have := h3 i hi j hj
      rw [hd, he] at this
      simp at this
    intro i j d hi hj hne hd he
    rcases Nat.lt_or_gt_of_ne hne with h | h
    · exact key j i d hj h he hd
    · exact key i j d hi h hd he
  · intro i hi oi hoi j oj hoj hne
    have hlt : j < ops.size := (Array.getElem?_eq_some_iff.1 hoj).1
    have h6 := (h5 i hi).2 j hlt
    rw [hoi, hoj] at h6
    simp only [Bool.or_eq_true, beq_iff_eq] at h6
    rcases h6 with h6 | (h6 | h6) | h6
    · exact absurd h6.symm hne
    · exact .inl h6
    · exact .inr (.inl h6)
    · exact .inr (.inr h6)

/-- what is known when some operations have come up -/
structure Come (ops : Array Oper) (base : Array Value) (ds : List Deferred) (m : Nat) (spec : Nat → Value → World → Prop) (W : World) (l : Array Bool) (a : Act) (w : World) : Prop where
  defers : a.defers = ds
  size : a.tmps.size = base.size
  grown : Ex (fun _ => False) W w
  val : ∀ i, i < m → l.getD i false = true → ∃ x, spec i x w ∧ ∀ d, dstOf ops i = some d → a.tmps.getD d undef = x
  old : ∀ t, (∀ i, i < m → l.getD i false = true → dstOf ops i ≠ some t) → a.tmps.getD t undef = base.getD t undef

/-- one operation: what it does, whatever has come up beside what it waits for. 'ρ': the operands' values -/
def StepOk (P : Program) (ops : Array Oper) (base : Array Value) (m : Nat) (spec : Nat → Value → World → Prop) (W : World) (i : Nat) : Prop :=
  ∀ (o : Oper), ops[i]? = some o → ∀ (ρ : Operand → Value) (yl : Nat → Option Bool) (w : World), Ex (fun _ => False) W w →
    (∀ v, ρ (.const v) = v) → (∀ f, ρ (.func f) = .func (.func f) #[] #[]) → (∀ g, ρ (.global g) = .pointer (some ⟨g, 0, none⟩)) →
    (∀ j, o.after.any (fun e => Region.binds .any e && e.on == j) = true → ∃ x, spec j x w ∧ (∀ d, dstOf ops j = some d → ρ (.tmp d) = x) ∧ ((dstOf ops j).isSome = true → yl j = match x with | .bool b => some b | _ => none)) →
    (∀ t, (List.range m).all (fun i => dstOf ops i != some t) = true → ρ (.tmp t) = base.getD t undef) →
    if Region.wanted o yl = true then
      (∃ x w', (execOp ρ o).run P w = .ok (.value x) w' ∧ Ex (fun _ => False) w w' ∧ spec i x w') ∨
      (∃ f args, (execOp ρ o).run P w = .ok (.enter f args) w ∧ Calls P f args w fun e w' => ∃ x, e = .returned x ∧ Ex (fun _ => False) w w' ∧ spec i x w')
    else spec i undef w

/-- .. and one that reads no memory: it yields whatever the world -/
def PureOk (P : Program) (ops : Array Oper) (base : Array Value) (m : Nat) (spec : Nat → Value → World → Prop) (W : World) (i : Nat) : Prop :=
  ∀ (o : Oper), ops[i]? = some o → ∀ (ρ : Operand → Value) (yl : Nat → Option Bool) (w : World), Ex (fun _ => False) W w →
    (∀ v, ρ (.const v) = v) → (∀ f, ρ (.func f) = .func (.func f) #[] #[]) → (∀ g, ρ (.global g) = .pointer (some ⟨g, 0, none⟩)) →
    (∀ j, o.after.any (fun e => Region.binds .any e && e.on == j) = true → ∃ x, spec j x w ∧ (∀ d, dstOf ops j = some d → ρ (.tmp d) = x) ∧ ((dstOf ops j).isSome = true → yl j = match x with | .bool b => some b | _ => none)) →
    (∀ t, (List.range m).all (fun i => dstOf ops i != some t) = true → ρ (.tmp t) = base.getD t undef) →
    ∃ x, ((Region.wanted o yl = true ∧ ∀ w', (execOp ρ o).run P w' = .ok (.value x) w') ∨ (Region.wanted o yl = false ∧ x = undef)) ∧ spec i x w

theorem getD_put {a : Act} {d t : Tmp} {x : Value} (h : d < a.tmps.size) : (a.put (some d) x).tmps.getD t undef = if t = d then x else a.tmps.getD t undef := by
  simp only [Act.put, Array.getD_eq_getD_getElem?, Array.getElem?_setIfInBounds]
  by_cases e : d = t
  · subst e; simp [h]
  · rw [if_neg e, if_neg (Ne.symm e)]

theorem Come.step {lag : List Nat} {base : Array Value} {ds : List Deferred} {m : Nat} {spec : Nat → Value → World → Prop} {W : World} {l : Array Bool} {a : Act} {w w' : World} {i : Nat} {x : Value}
    (sh : Shape ops m base.size lag) (hst : ∀ i x w w', spec i x w → Ex (fun _ => False) w w' → spec i x w') (h : Come ops base ds m spec W l a w) (hi : i < m) (hl : i < l.size) (hun : l.getD i true = false)
    (hx : Ex (fun _ => False) w w') (hs : spec i x w') : Come ops base ds m spec W (l.setIfInBounds i true) (a.put (dstOf ops i) x) w' := by
  have hset : ∀ j, (l.setIfInBounds i true).getD j false = if j = i then true else l.getD j false := by
    intro j
    simp only [Array.getD_eq_getD_getElem?, Array.getElem?_setIfInBounds]
    by_cases e : i = j
    · subst e; simp [hl]
    · rw [if_neg e, if_neg (Ne.symm e)]
  refine ⟨?_, ?_, h.grown.trans hx (fun _ h => h.elim), ?_, ?_⟩
  · cases dstOf ops i <;> exact h.defers
  · cases dstOf ops i with
    | none => exact h.size
    | some d => simp [Act.put, h.size]
  · intro j hj hjl
    rw [hset] at hjl
    by_cases e : j = i
    · subst e
      refine ⟨x, hs, fun d hd => ?_⟩
      rw [hd, getD_put (by rw [h.size]; exact sh.bound j d hj hd), if_pos rfl]
    · rw [if_neg e] at hjl
      obtain ⟨y, hy, hyd⟩ := h.val j hj hjl
      refine ⟨y, hst _ _ _ _ hy hx, fun d hd => ?_⟩
      cases hdi : dstOf ops i with
      | none => exact hyd d hd
      | some d' =>
        rw [getD_put (by rw [h.size]; exact sh.bound i d' hi hdi), if_neg ?_]
        · exact hyd d hd
        · intro e2
          subst e2
          exact sh.apart j i d hj hi e hd hdi
  · intro t ht
    have h1 : dstOf ops i ≠ some t := ht i hi (by rw [hset, if_pos rfl])
    have h2 := h.old t (fun j hj hjl => ht j hj (by rw [hset]; split <;> simp [hjl]))
    cases hdi : dstOf ops i with
    | none => exact h2
    | some d' =>
      rw [getD_put (by rw [h.size]; exact sh.bound i d' hi hdi), if_neg ?_]
      · exact h2
      · intro e; subst e; exact h1 hdi

/-- the row of operations from k on, all ahead having come up -/
theorem any_tail {lag : List Nat} {m size : Nat} (sh : Shape ops m size lag) : ∀ (r k : Nat) (l : Array Bool) (a : Act) (w : World), k + r = ops.size → m ≤ k → l.size = ops.size → (∀ j, j < k → l.getD j false = true) → (∀ j, k ≤ j → j < ops.size → l.getD j true = false) →
    wpList P ops Q (ops.toList.drop k) a w → wpAny P .any ops Q r l a w := by
  intro r
  induction r with
  | zero =>
    intro k l a w hk hm hl h1 h2 h
    refine ⟨?_, ?_⟩
    · by_cases hne : Region.ready .any ops l = []
      · exact hne
      · obtain ⟨j, hj⟩ := List.exists_mem_of_ne_nil _ hne
        obtain ⟨h3, o, ho, _⟩ := mem_ready.1 hj
        have hlt : j < ops.size := (Array.getElem?_eq_some_iff.1 ho).1
        have h4 := h1 j (by omega)
        simp [hl, hlt] at h3 h4
        rw [h3] at h4; simp at h4
    · rw [List.drop_eq_nil_of_le (by simp; omega)] at h
      exact h
  | succ r ih =>
    intro k l a w hk hm hl h1 h2 h
    have hlt : k < ops.size := by omega
    have hok : ops[k]? = some ops[k] := Array.getElem?_eq_getElem hlt
    have hready : ∀ i, i ∈ Region.ready .any ops l ↔ i = k := by
      intro i
      rw [mem_ready]
      constructor
      · rintro ⟨h3, o, ho, h4⟩
        have hil : i < ops.size := (Array.getElem?_eq_some_iff.1 ho).1
        by_cases hik : i < k
        · have h5 := h1 i hik
          simp [hl, hil] at h3 h5
          rw [h3] at h5; simp at h5
        · by_cases hne : i = k
          · exact hne
          · obtain ⟨e, he, hb, heq⟩ := (sh.tail i o (by omega) ho k (by omega)).resolve_left (fun hm' => by have := sh.lagm k hm'; omega)
            have h5 := h4 e he hb
            rw [heq] at h5
            have h6 := h2 k (Nat.le_refl _) hlt
            simp [hl, hlt] at h5 h6
            rw [h6] at h5; simp at h5
      · rintro rfl
        refine ⟨h2 _ (Nat.le_refl _) hlt, _, hok, fun e he hb => ?_⟩
        exact h1 _ (sh.front i _ hok e he hb)
    have hset : ∀ j, (l.setIfInBounds k true).getD j false = if j = k then true else l.getD j false := by
      intro j
      simp only [Array.getD_eq_getD_getElem?, Array.getElem?_setIfInBounds]
      by_cases e : k = j
      · subst e; simp [hl, hlt]
      · rw [if_neg e, if_neg (Ne.symm e)]
    have hset2 : ∀ j, j ≠ k → (l.setIfInBounds k true).getD j true = l.getD j true := by
      intro j e
      simp only [Array.getD_eq_getD_getElem?, Array.getElem?_setIfInBounds]
      rw [if_neg (Ne.symm e)]
    refine ⟨fun hn => ?_, fun i hi => ?_⟩
    · have := (hready k).2 rfl
      rw [hn] at this; simp at this
    · have hik := (hready i).1 hi
      subst hik
      have h' : wpOp P ops Q i (wpList P ops Q (ops.toList.drop (i + 1))) a w := by
        rw [List.drop_eq_getElem_cons (by simpa using hlt)] at h
        unfold wpOp
        rw [hok]
        simpa [wpList] using h
      refine wpOp_mono (fun a' w' hK => ?_) h'
      refine ih (i + 1) _ a' w' (by omega) (by omega) (by simp [hl]) (fun j hj => ?_) (fun j hj hjn => ?_) hK
      · rw [hset]; split
        · rfl
        · exact h1 j (by omega)
      · rw [hset2 j (by omega)]
        exact h2 j (by omega) hjn

/-- how many have not come up -/
def left (l : Array Bool) : Nat := l.toList.count false
theorem left_set {l : Array Bool} {i : Nat} (hi : i < l.size) (hun : l.getD i true = false) : left (l.setIfInBounds i true) + 1 = left l := by
  unfold left
  have hg : l.toList[i]'(by simpa using hi) = false := by simpa [hi] using hun
  have hpos : 0 < l.toList.count false := List.count_pos_iff.2 (hg ▸ List.getElem_mem _)
  have hc := List.count_set (l := l.toList) (a := true) (b := false) (by simpa using hi)
  rw [hg] at hc
  rw [Array.toList_setIfInBounds, hc]
  simp only [beq_self_eq_true, if_true]
  rw [if_neg (by decide)]
  omega
theorem left_none {l : Array Bool} (h : left l = 0) {j : Nat} (hj : j < l.size) : l.getD j true = true := by
  unfold left at h
  rw [List.count_eq_zero] at h
  cases hg : l.getD j true with
  | true => rfl
  | false =>
    exfalso
    apply h
    have : l.toList[j]'(by simpa using hj) = false := by simpa [hj] using hg
    exact this ▸ List.getElem_mem _
theorem left_some {l : Array Bool} {j : Nat} (hj : j < l.size) (h : l.getD j true = false) : 0 < left l := by
  unfold left
  exact List.count_pos_iff.2 (by
    have : l.toList[j]'(by simpa using hj) = false := by simpa [hj] using h
    exact this ▸ List.getElem_mem _)

theorem any_front {lag : List Nat} {base : Array Value} {ds : List Deferred} {m : Nat} {spec : Nat → Value → World → Prop} {W : World} (sh : Shape ops m base.size lag)
    (hst : ∀ i x w w', spec i x w → Ex (fun _ => False) w w' → spec i x w') (hstep : ∀ i, i < m → i ∉ lag → StepOk P ops base m spec W i) (hpure : ∀ i, i ∈ lag → PureOk P ops base m spec W i) (hQ : ∀ c a d v w, Q (.panic c) (Act.put a d v) w → Q (.panic c) a w)
    (hlast : ∀ (a : Act) (w : World), a.defers = ds → a.tmps.size = base.size → Ex (fun _ => False) W w → (∀ i, i < m → ∃ x, spec i x w ∧ ∀ d, dstOf ops i = some d → a.tmps.getD d undef = x) → (∀ t, (∀ i, i < m → dstOf ops i ≠ some t) → a.tmps.getD t undef = base.getD t undef) → wpList P ops Q (ops.toList.drop m) a w) :
    ∀ (r : Nat) (l : Array Bool) (a : Act) (w : World), left l = r → l.size = ops.size → (∀ j, m ≤ j → j < ops.size → l.getD j true = false) → Come ops base ds m spec W l a w → wpAny P .any ops Q r l a w := by
  intro r
  induction r with
  | zero =>
    intro l a w hr hl htail hcome
    have hall : ∀ j, j < ops.size → l.getD j false = true := fun j hj => by
      have := left_none hr (j := j) (by omega)
      simp [hl, hj] at this ⊢
      exact this
    have hmn : ops.size ≤ m := by
      rcases Nat.lt_or_ge m ops.size with h | h
      · have h1 := htail m (Nat.le_refl _) h
        have h2 := left_none hr (j := m) (by omega)
        rw [h1] at h2; simp at h2
      · exact h
    refine any_tail sh 0 ops.size l a w (by omega) sh.le hl hall (fun j hj hjn => by omega) ?_
    have := hlast a w hcome.defers hcome.size hcome.grown (fun i hi => hcome.val i hi (hall i (by have := sh.le; omega))) (fun t ht => hcome.old t (fun i hi _ => ht i hi))
    rwa [show m = ops.size by have := sh.le; omega] at this
  | succ r ih =>
    intro l a w hr hl htail hcome
    by_cases hlag : ∃ i, i ∈ lag ∧ i ∈ Region.ready .any ops l
    · obtain ⟨i, hil, hi⟩ := hlag
      obtain ⟨hun, o, ho, hpre⟩ := mem_ready.1 hi
      have hlt : i < ops.size := (Array.getElem?_eq_some_iff.1 ho).1
      have him := sh.lagm i hil
      have hd : dstOf ops i = o.dst := by rw [dstOf, ho]; rfl
      have h := hpure i hil o ho a.eval (yielded ops a.tmps) w hcome.grown (fun _ => rfl) (fun _ => rfl) (fun _ => rfl) ?_ ?_
      · obtain ⟨x, hy, hs⟩ := h
        refine wpAny_first ho (Region.noSelect_spec sh.nosel) (fun c a w => hQ c a _ _ w) r l a w ?_ hi hy ?_
        · intro j oj hoj hne hjun hno
          rcases sh.lagf i hil o ho j oj hoj hne with h | h | h
          · obtain ⟨e, he, hb, rfl⟩ := waits_spec h
            have h1 := hpre e he hb
            have hjlt : e.on < ops.size := (Array.getElem?_eq_some_iff.1 hoj).1
            simp [hl, hjlt] at h1 hjun
            rw [h1] at hjun; simp at hjun
          · obtain ⟨e, he, hb, heq⟩ := waits_spec h
            exact absurd heq (hno e he hb)
          · exact h
        · refine ih _ _ _ ?_ (by simp [hl]) ?_ ?_
          · have := left_set (l := l) (i := i) (by omega) hun
            omega
          · intro j hj hjn
            simp only [Array.getD_eq_getD_getElem?, Array.getElem?_setIfInBounds]
            rw [if_neg (by omega)]
            have := htail j hj hjn
            simpa only [Array.getD_eq_getD_getElem?] using this
          · rw [← hd]
            exact hcome.step sh hst him (by omega) hun (Ex.refl _ _) hs
      · intro j hje
        obtain ⟨e, he, hje⟩ := Array.any_eq_true'.1 hje
        simp only [Bool.and_eq_true, beq_iff_eq] at hje
        obtain ⟨hb, rfl⟩ := hje
        have hj := sh.front i o ho e he hb
        obtain ⟨x, hx, hxd⟩ := hcome.val e.on (by omega) (hpre e he hb)
        refine ⟨x, hx, fun d hd => hxd d hd, fun hs => ?_⟩
        obtain ⟨d, hd⟩ := Option.isSome_iff_exists.1 hs
        have h1 := hxd d hd
        have hdlt : d < a.tmps.size := by rw [hcome.size]; exact sh.bound e.on d (by omega) hd
        unfold yielded
        rw [show (ops[e.on]?.bind fun x => x.dst) = some d from hd]
        simp only [Option.bind_some]
        rw [Array.getElem?_eq_getElem hdlt]
        have h2 : a.tmps[d] = x := by simpa [hdlt] using h1
        rw [h2]
        cases x <;> rfl
      · intro t ht
        simp only [List.all_eq_true, List.mem_range, bne_iff_ne] at ht
        exact hcome.old t (fun i hi _ => ht i hi)
    by_cases hall : ∀ j, j < m → l.getD j false = true
    · have hr' : m + (r + 1) = ops.size := by
        have hle := sh.le
        have hlist : l.toList = List.replicate m true ++ List.replicate (ops.size - m) false := by
          apply List.ext_getElem
          · simp [hl]; omega
          · intro j h1 h2
            have hj : j < ops.size := by simpa [hl] using h1
            rw [List.getElem_append]
            split
            · rename_i h
              have := hall j (by simpa using h)
              simpa [hl, hj] using this
            · rename_i h
              have := htail j (by simpa using h) hj
              simpa [hl, hj] using this
        unfold left at hr
        rw [hlist] at hr
        simp [List.count_replicate] at hr
        omega
      refine any_tail sh (r + 1) m l a w hr' (Nat.le_refl _) hl hall htail ?_
      exact hlast a w hcome.defers hcome.size hcome.grown (fun i hi => hcome.val i hi (hall i hi)) (fun t ht => hcome.old t (fun i hi _ => ht i hi))
    · have hex : ∃ i, i < m ∧ l.getD i false = false ∧ ∀ j, j < i → l.getD j false = true := by
        have : ∃ i, i < m ∧ l.getD i false = false := by
          by_cases h : ∃ i, i < m ∧ l.getD i false = false
          · exact h
          · exfalso
            apply hall
            intro j hj
            cases hg : l.getD j false with
            | true => rfl
            | false => exact absurd ⟨j, hj, hg⟩ h
        obtain ⟨i, hi, hg⟩ := this
        induction i using Nat.strongRecOn with
        | _ i ih2 =>
          by_cases h : ∃ j, j < i ∧ l.getD j false = false
          · obtain ⟨j, hj, hg2⟩ := h
            exact ih2 j hj (by omega) hg2
          · refine ⟨i, hi, hg, fun j hj => ?_⟩
            cases hg2 : l.getD j false with
            | true => rfl
            | false => exact absurd ⟨j, hj, hg2⟩ h
      obtain ⟨i0, hi0, hg0, hlow⟩ := hex
      have hle := sh.le
      have hlt0 : i0 < ops.size := by omega
      have hun0 : l.getD i0 true = false := by simp [hl, hlt0] at hg0 ⊢; exact hg0
      refine ⟨fun hn => ?_, fun i hi => ?_⟩
      · have : i0 ∈ Region.ready .any ops l := mem_ready.2 ⟨hun0, _, Array.getElem?_eq_getElem hlt0, fun e he hb => hlow _ (sh.front i0 _ (Array.getElem?_eq_getElem hlt0) e he hb)⟩
        rw [hn] at this; simp at this
      · obtain ⟨hun, o, ho, hpre⟩ := mem_ready.1 hi
        have hlt : i < ops.size := (Array.getElem?_eq_some_iff.1 ho).1
        have him : i < m := by
          rcases Nat.lt_or_ge i m with h | h
          · exact h
          · rcases sh.tail i o h ho i0 (by omega) with hlg | ⟨e, he, hb, heq⟩
            · exact absurd ⟨i0, hlg, mem_ready.2 ⟨hun0, _, Array.getElem?_eq_getElem hlt0, fun e he hb => hlow _ (sh.front i0 _ (Array.getElem?_eq_getElem hlt0) e he hb)⟩⟩ hlag
            · have := hpre e he hb
              rw [heq, hg0] at this; simp at this
        have hil : i ∉ lag := fun h => hlag ⟨i, h, hi⟩
        have hd : dstOf ops i = o.dst := by rw [dstOf, ho]; rfl
        refine wpOp_step ho (fun K hK => ?_)
        have hnext : ∀ x w', Ex (fun _ => False) w w' → spec i x w' → K (a.put o.dst x) w' := by
          intro x w' hx hs
          refine hK _ _ (ih _ _ _ ?_ (by simp [hl]) ?_ ?_)
          · have := left_set (l := l) (i := i) (by omega) hun
            omega
          · intro j hj hjn
            simp only [Array.getD_eq_getD_getElem?, Array.getElem?_setIfInBounds]
            rw [if_neg (by omega)]
            have := htail j hj hjn
            simpa only [Array.getD_eq_getD_getElem?] using this
          · rw [← hd]
            exact hcome.step sh hst him (by omega) hun hx hs
        have h := hstep i him hil o ho a.eval (yielded ops a.tmps) w hcome.grown (fun _ => rfl) (fun _ => rfl) (fun _ => rfl) ?_ ?_
        · split at h
          · rename_i hw
            rw [if_pos hw]
            rcases h with ⟨x, w', hrun, hx, hs⟩ | ⟨f, args, hrun, hcall⟩
            · unfold Oper.wp
              rw [hrun]
              exact hnext x w' hx hs
            · unfold Oper.wp
              rw [hrun]
              refine hcall.mono ?_
              rintro e w' ⟨x, rfl, hx, hs⟩
              exact hnext x w' hx hs
          · rename_i hw
            rw [if_neg hw]
            exact hnext undef w (Ex.refl _ _) h
        · intro j hje
          obtain ⟨e, he, hje⟩ := Array.any_eq_true'.1 hje
          simp only [Bool.and_eq_true, beq_iff_eq] at hje
          obtain ⟨hb, rfl⟩ := hje
          have hj := sh.front i o ho e he hb
          obtain ⟨x, hx, hxd⟩ := hcome.val e.on (by omega) (hpre e he hb)
          refine ⟨x, hx, fun d hd => hxd d hd, fun hs => ?_⟩
          obtain ⟨d, hd⟩ := Option.isSome_iff_exists.1 hs
          have h1 := hxd d hd
          have hdlt : d < a.tmps.size := by rw [hcome.size]; exact sh.bound e.on d (by omega) hd
          unfold yielded
          rw [show (ops[e.on]?.bind fun x => x.dst) = some d from hd]
          simp only [Option.bind_some]
          rw [Array.getElem?_eq_getElem hdlt]
          have h2 : a.tmps[d] = x := by simpa [hdlt] using h1
          rw [h2]
          cases x <;> rfl
        · intro t ht
          simp only [List.all_eq_true, List.mem_range, bne_iff_ne] at ht
          exact hcome.old t (fun i hi _ => ht i hi)

/-- A REGION THAT DRAWS ITS ORDER, by what each of its operations yields. -/
theorem region_specs {id : Nat} {base : Array Value} {ds : List Deferred} {w : World} (m : Nat) (lag : List Nat) (spec : Nat → Value → World → Prop) (hm : P.follows .mixedOrders = true) (sh : shapeB ops m base.size lag = true)
    (hst : ∀ i x w w', spec i x w → Ex (fun _ => False) w w' → spec i x w') (hstep : ∀ i, i < m → i ∉ lag → StepOk P ops base m spec w.drew i) (hpure : ∀ i, i ∈ lag → PureOk P ops base m spec w.drew i)
    (hlast : ∀ (a : Act) (w' : World), a.defers = ds → a.tmps.size = base.size → Ex (fun _ => False) w.drew w' → (∀ i, i < m → ∃ x, spec i x w' ∧ ∀ d, dstOf ops i = some d → a.tmps.getD d undef = x) → (∀ t, (∀ i, i < m → dstOf ops i ≠ some t) → a.tmps.getD t undef = base.getD t undef) → ∀ K : Exit → Act → World → Prop, (∀ a w, Q .normal a w → K .normal a w) → wpList P ops K (ops.toList.drop m) a w') :
    (Code.region id ops true).wp P Q { tmps := base, defers := ds } w := by
  refine wp_region_noPanic (wp_region_any hm ?_)
  have hz : ∀ j (b : Bool), (Array.replicate ops.size false).getD j b = if j < ops.size then false else b := by
    intro j b
    simp only [Array.getD_eq_getD_getElem?, Array.getElem?_replicate]
    split <;> rfl
  refine any_front (Q := NoPanic Q) (W := w.drew) (shape_of sh) hst hstep hpure (fun _ _ _ _ _ h => h) (fun a w' h1 h2 h3 h4 h5 => hlast a w' h1 h2 h3 h4 h5 _ (fun _ _ h => h)) ops.size _ _ _ ?_ (by simp) (fun j _ hj => by rw [hz, if_pos hj]) ⟨rfl, rfl, Ex.refl _ _, fun i hi hl => ?_, fun _ _ => rfl⟩
  · simp [left, List.count_replicate]
  · rw [hz] at hl
    split at hl <;> simp at hl

/-- the slots as the operations leave them -/
def putSlots (ops : Array Oper) (base : Array Value) (xs : Nat → Value) : Nat → Array Value
  | 0 => base
  | i + 1 => match dstOf ops i with
    | some d => (putSlots ops base xs i).setIfInBounds d (xs i)
    | none => putSlots ops base xs i
theorem putSlots_size (ops : Array Oper) (base : Array Value) (xs : Nat → Value) : ∀ i, (putSlots ops base xs i).size = base.size
  | 0 => rfl
  | i + 1 => by
    simp only [putSlots]
    cases dstOf ops i with
    | none => exact putSlots_size ops base xs i
    | some d => simp [putSlots_size ops base xs i]
theorem putSlots_old {base : Array Value} {xs : Nat → Value} {t : Tmp} : ∀ i, (∀ j, j < i → dstOf ops j ≠ some t) → (putSlots ops base xs i).getD t undef = base.getD t undef
  | 0, _ => rfl
  | i + 1, h => by
    have ih := putSlots_old (base := base) (xs := xs) i (fun j hj => h j (by omega))
    simp only [putSlots]
    cases hd : dstOf ops i with
    | none => exact ih
    | some d =>
      have hne : d ≠ t := fun e => h i (by omega) (e ▸ hd)
      simp only [Array.getD_eq_getD_getElem?, Array.getElem?_setIfInBounds] at ih ⊢
      rw [if_neg hne]; exact ih
theorem putSlots_val {lag : List Nat} {m size : Nat} (sh : Shape ops m size lag) {base : Array Value} (hs : base.size = size) {xs : Nat → Value} : ∀ k, k ≤ m → ∀ i d, i < k → dstOf ops i = some d → (putSlots ops base xs k).getD d undef = xs i
  | 0, _, i, d, hi, _ => by omega
  | k + 1, hk, i, d, hi, hd => by
    simp only [putSlots]
    by_cases e : i = k
    · subst e
      rw [hd]
      have := sh.bound i d (by omega) hd
      simp [Array.getElem?_setIfInBounds, putSlots_size, hs, this]
    · have ih := putSlots_val sh hs (xs := xs) k (by omega) i d (by omega) hd
      cases hdk : dstOf ops k with
      | none => exact ih
      | some d' =>
        have hne : d' ≠ d := fun e2 => sh.apart i k d (by omega) (by omega) e hd (e2 ▸ hdk)
        simp only [Array.getD_eq_getD_getElem?, Array.getElem?_setIfInBounds] at ih ⊢
        rw [if_neg hne]; exact ih

/-- .. with the slots written out -/
theorem region_by {id : Nat} {base : Array Value} {ds : List Deferred} {w : World} (m : Nat) (lag : List Nat) (spec : Nat → Value → World → Prop) (hm : P.follows .mixedOrders = true) (sh : shapeB ops m base.size lag = true)
    (hst : ∀ i x w w', spec i x w → Ex (fun _ => False) w w' → spec i x w') (hstep : ∀ i, i < m → i ∉ lag → StepOk P ops base m spec w.drew i) (hpure : ∀ i, i ∈ lag → PureOk P ops base m spec w.drew i)
    (hlast : ∀ (xs : Nat → Value) (w' : World), Ex (fun _ => False) w w' → (∀ i, i < m → spec i (xs i) w') → ∀ K : Exit → Act → World → Prop, (∀ a w, Q .normal a w → K .normal a w) → wpList P ops K (ops.toList.drop m) { tmps := putSlots ops base xs m, defers := ds } w') :
    (Code.region id ops true).wp P Q { tmps := base, defers := ds } w := by
  have sh' := shape_of sh
  refine region_specs m lag spec hm sh hst hstep hpure (fun a w' hd hs hx hv ho K hK => ?_)
  have hxs : ∃ xs : Nat → Value, ∀ i, i < m → spec i (xs i) w' ∧ ∀ d, dstOf ops i = some d → a.tmps.getD d undef = xs i := by
    refine ⟨fun i => if h : i < m then (hv i h).choose else undef, fun i hi => ?_⟩
    simp only [dif_pos hi]
    exact (hv i hi).choose_spec
  obtain ⟨xs, hxs⟩ := hxs
  have ha : a = { tmps := putSlots ops base xs m, defers := ds } := by
    obtain ⟨tm, df⟩ := a
    simp only at hd hs
    subst hd
    congr 1
    apply Array.ext
    · rw [hs, putSlots_size]
    · intro t h1 h2
      have key : tm.getD t undef = (putSlots ops base xs m).getD t undef := by
        by_cases h : ∃ i, i < m ∧ dstOf ops i = some t
        · obtain ⟨i, hi, hdi⟩ := h
          rw [putSlots_val sh' rfl m (Nat.le_refl _) i t hi hdi]
          exact (hxs i hi).2 t hdi
        · rw [putSlots_old m (fun j hj e => h ⟨j, hj, e⟩)]
          exact ho t (fun i hi e => h ⟨i, hi, e⟩)
      simpa [h1, h2] using key
  rw [ha]
  exact hlast xs w' (((Ex.refl _ _).drew).trans hx (fun _ h => h.elim)) (fun i hi => (hxs i hi).1) K hK

/-- what is told of an operation's value, from a list -/
def specL (L : List (Value → World → Prop)) (i : Nat) (x : Value) (w : World) : Prop := (L.getD i (fun _ _ => True)) x w
def Stab (p : Value → World → Prop) : Prop := ∀ x w w', p x w → Ex (fun _ => False) w w' → p x w'
theorem stab_all {L : List (Value → World → Prop)} (h : ∀ p ∈ L, Stab p) : ∀ i x w w', specL L i x w → Ex (fun _ => False) w w' → specL L i x w' := by
  intro i x w w' hs hx
  unfold specL at hs ⊢
  rw [List.getD_eq_getElem?_getD] at hs ⊢
  by_cases hi : i < L.length
  · rw [List.getElem?_eq_getElem hi] at hs ⊢
    exact h _ (List.getElem_mem hi) _ _ _ hs hx
  · rw [List.getElem?_eq_none (by omega)]; trivial
theorem stab_nil : ∀ p ∈ ([] : List (Value → World → Prop)), Stab p := by simp
theorem stab_cons {p : Value → World → Prop} {L : List (Value → World → Prop)} (h : Stab p) (k : ∀ q ∈ L, Stab q) : ∀ q ∈ p :: L, Stab q := by
  intro q hq
  rcases List.mem_cons.1 hq with rfl | hq
  · exact h
  · exact k q hq
/-- it is just this -/
def Is (v : Value) : Value → World → Prop := fun x _ => x = v
theorem stab_is (v : Value) : Stab (Is v) := fun _ _ _ h _ => h
/-- a new block that holds o -/
def At (lo : Nat) (o : Obj) : Value → World → Prop := fun x w => ∃ g, x = .pointer (some ⟨g, 0, none⟩) ∧ lo ≤ g ∧ w.heap[g]? = some o
theorem stab_at (lo : Nat) (o : Obj) : Stab (At lo o) := fun _ _ _ ⟨g, h1, h2, h3⟩ hx => ⟨g, h1, h2, hx.blk h3 (fun h => h)⟩

theorem wantL {c : Bool} {A B C : Prop} (h : c = true) (a : A) : if c = true then A ∨ B else C := by rw [if_pos h]; exact .inl a
theorem wantR {c : Bool} {A B C : Prop} (h : c = true) (a : B) : if c = true then A ∨ B else C := by rw [if_pos h]; exact .inr a
theorem unwant {c : Bool} {A B C : Prop} (h : c = false) (a : C) : if c = true then A ∨ B else C := by rw [h, if_neg (by decide)]; exact a
end
end Go.Proofs.Ythkemcekcfccpaa.GBrandCompares
