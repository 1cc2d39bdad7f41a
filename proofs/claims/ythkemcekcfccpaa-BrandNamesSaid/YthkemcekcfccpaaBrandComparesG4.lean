/- A region that draws its order, walked by hand, one operation at a time, each by its run. -/
import Derived.Test.YthkemcekcfccpaaBrandComparesG2
import Derived.Test.YthkemcekcfccpaaWLast
namespace Go.Proofs.Ythkemcekcfccpaa.GBrandCompares
open Go.RowKit Go.Proofs.YthkemcekcfccpaaW.PrintLast
set_option linter.unusedVariables false

section
variable {P : Program} {ops : Array Oper} {Q : Exit → Act → World → Prop} {md : Region.Mode} {S : World → Prop}
/-- what is shown of the worlds between: nothing -/
def Any : World → Prop := fun _ => True
/-- the operation that alone may come up now yields a value -/
theorem stepV {ds : List Nat} {i : Nat} {N : Option Tmp} {oi : Oper} {fuel : Nat} {l : Array Bool} {a : Act} {w w1 : World} (l' : Array Bool) (hi : ops[i]? = some oi) (hc : readyB md ops l l' i = true) (hd : i ∈ ds) (hN : oi.dst = N)
    (hw : Region.wanted oi (yielded ops a.tmps) = true) (v : Value) (hrun : (execOp a.eval oi).run P w = .ok (.value v) w1) {a' : Act} (ha : a.put N v = a') (h : wpAnyLast P md ops Q S ds fuel l' a' w1) : wpAnyLast P md ops Q S ds (fuel + 1) l a w := by
  refine last_ l' hi hN hc hd fun K hK => ?_
  refine value_ hw hN hrun ?_
  subst ha
  exact hK _ _ h
/-- .. a store -/
theorem stepS {ds : List Nat} {i : Nat} {oi : Oper} {fuel : Nat} {l : Array Bool} {a : Act} {w w1 : World} (l' : Array Bool) (hi : ops[i]? = some oi) (hc : readyB md ops l l' i = true) (hd : i ∈ ds) (hN : oi.dst = none)
    (hw : Region.wanted oi (yielded ops a.tmps) = true) (hrun : (execOp a.eval oi).run P w = .ok .skip w1) (h : wpAnyLast P md ops Q S ds fuel l' a w1) : wpAnyLast P md ops Q S ds (fuel + 1) l a w := by
  refine last_ l' hi hN hc hd fun K hK => ?_
  exact skip_ hw hN hrun (hK _ _ h)
/-- .. a panic -/
theorem stepP {ds : List Nat} {i : Nat} {oi : Oper} {fuel : Nat} {l : Array Bool} {a : Act} {w w1 : World} (l' : Array Bool) (hi : ops[i]? = some oi) (hc : readyB md ops l l' i = true) (hd : i ∈ ds)
    (hw : Region.wanted oi (yielded ops a.tmps) = true) (v : Value) (hrun : (execOp a.eval oi).run P w = .halt (.panic v) w1) (h : Q (.panic [{ v := v, recovered := false }]) a w1) : wpAnyLast P md ops Q S ds (fuel + 1) l a w := by
  refine last_ (N := oi.dst) l' hi rfl hc hd fun K hK => ?_
  rw [if_pos hw]
  exact wp_panic v hrun h
/-- two may come up now, and each panics -/
theorem stepPP {ds : List Nat} {i j : Nat} {oi oj : Oper} {fuel : Nat} {l : Array Bool} {a : Act} {w w1 w2 : World} (hi : ops[i]? = some oi) (hj : ops[j]? = some oj) (hc : (Region.ready md ops l == [i, j]) = true) (hdi : i ∈ ds) (hdj : j ∈ ds)
    (hwi : Region.wanted oi (yielded ops a.tmps) = true) (hwj : Region.wanted oj (yielded ops a.tmps) = true) (u v : Value) (hri : (execOp a.eval oi).run P w = .halt (.panic u) w1) (hrj : (execOp a.eval oj).run P w = .halt (.panic v) w2)
    (hu : Q (.panic [{ v := u, recovered := false }]) a w1) (hv : Q (.panic [{ v := v, recovered := false }]) a w2) : wpAnyLast P md ops Q S ds (fuel + 1) l a w := by
  simp only [beq_iff_eq] at hc
  refine wpAnyLast_ready hc (by simp) (AllReadyL.cons_last hi hdi (fun K hK => ?_) (AllReadyL.cons_last hj hdj (fun K hK => ?_) AllReadyL.nil))
  · rw [if_pos hwi]
    exact wp_panic u hri hu
  · rw [if_pos hwj]
    exact wp_panic v hrj hv
/-- .. a call -/
theorem stepC {ds : List Nat} {i : Nat} {N : Option Tmp} {oi : Oper} {fuel : Nat} {l : Array Bool} {a : Act} {w : World} (l' : Array Bool) (hi : ops[i]? = some oi) (hc : readyB md ops l l' i = true) (hd : i ∈ ds) (hN : oi.dst = N)
    (hw : Region.wanted oi (yielded ops a.tmps) = true) (f : FuncId) (args : Array Value) (hrun : (execOp a.eval oi).run P w = .ok (.enter f args) w)
    (h : Calls P f args w fun e w' => ∃ v, e = .returned v ∧ wpAnyLast P md ops Q S ds fuel l' (a.put N v) w') : wpAnyLast P md ops Q S ds (fuel + 1) l a w := by
  refine last_ l' hi hN hc hd fun K hK => ?_
  refine call_ f args hw hN hrun (h.mono ?_)
  rintro e w' ⟨v, rfl, hv⟩
  exact ⟨v, rfl, hK _ _ hv⟩
/-- two may come up now: one yields a value, the other is a call -/
theorem branchVC {ds : List Nat} {i j : Nat} {Ni Nj : Option Tmp} {oi oj : Oper} {fuel : Nat} {l : Array Bool} {a : Act} {w w1 : World} (li lj : Array Bool) (hi : ops[i]? = some oi) (hj : ops[j]? = some oj)
    (hc : (Region.ready md ops l == [i, j] && l.setIfInBounds i true == li && l.setIfInBounds j true == lj) = true) (hdi : i ∈ ds) (hdj : j ∈ ds) (hNi : oi.dst = Ni) (hNj : oj.dst = Nj)
    (hwi : Region.wanted oi (yielded ops a.tmps) = true) (v : Value) (hri : (execOp a.eval oi).run P w = .ok (.value v) w1) (hwj : Region.wanted oj (yielded ops a.tmps) = true) (f : FuncId) (args : Array Value) (hrj : (execOp a.eval oj).run P w = .ok (.enter f args) w)
    {a' : Act} (ha : a.put Ni v = a') (h1 : wpAnyLast P md ops Q S ds fuel li a' w1) (h2 : Calls P f args w fun e w' => ∃ u, e = .returned u ∧ wpAnyLast P md ops Q S ds fuel lj (a.put Nj u) w') : wpAnyLast P md ops Q S ds (fuel + 1) l a w := by
  subst hNi
  subst hNj
  subst ha
  simp only [Bool.and_eq_true, beq_iff_eq] at hc
  obtain ⟨⟨h3, h4⟩, h5⟩ := hc
  subst h4
  subst h5
  refine wpAnyLast_ready h3 (by simp) (AllReadyL.cons_last hi hdi (fun K hK => ?_) (AllReadyL.cons_last hj hdj (fun K hK => ?_) AllReadyL.nil))
  · exact value_ hwi rfl hri (hK _ _ h1)
  · refine call_ f args hwj rfl hrj (h2.mono ?_)
    rintro e w' ⟨u, rfl, hu⟩
    exact ⟨u, rfl, hK _ _ hu⟩
theorem exec_call {a : Act} {o : Oper} {f : FuncId} {fn : Func} {as : Array Operand} {ts : Array TypeId} {w : World} (hf : P.funcs[f]? = some fn) (hname : (fn.name == "runtime.NumGoroutine") = false) (hb : fn.body.isSome = true) (args : Array Value)
    (hop : o.op = .call { callee := .value (.func f), args := as, argTypes := ts }) (hargs : as.map a.eval = args) : (execOp a.eval o).run P w = .ok (.enter f args) w := by
  have he := enters_ hf hname hb args w
  unfold execOp
  simp [hop, resolve, Deferred.ofValue, invoke, Act.eval, hargs, he]
end

theorem exec_value {P : Program} {ev : Operand → Value} {o : Oper} {s : Sem Value} {w w1 : World} {v : Value} (ho : execOp ev o = (do let x ← s; pure (.value x))) (h : s.run P w = .ok v w1) : (execOp ev o).run P w = .ok (.value v) w1 := by
  rw [ho, Sem.run_bind, h]
  rfl
theorem exec_skip {P : Program} {ev : Operand → Value} {o : Oper} {s : Sem Unit} {w w1 : World} (ho : execOp ev o = (do s; pure .skip)) (h : s.run P w = .ok () w1) : (execOp ev o).run P w = .ok .skip w1 := by
  rw [ho, Sem.run_bind, h]
  rfl
theorem exec_halt {P : Program} {ev : Operand → Value} {o : Oper} {s : Sem Value} {w w1 : World} {h : Halt} (ho : execOp ev o = (do let x ← s; pure (.value x))) (hr : s.run P w = .halt h w1) : (execOp ev o).run P w = .halt h w1 := by
  rw [ho, Sem.run_bind, hr]
  rfl

end Go.Proofs.Ythkemcekcfccpaa.GBrandCompares
