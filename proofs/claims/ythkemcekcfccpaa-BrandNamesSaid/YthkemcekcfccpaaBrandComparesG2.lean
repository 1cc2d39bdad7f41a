/- Laws for single operations, to be tried first by a walk: one whose run is known to yield a value, one that panics, one that yields nothing. The run of == at two interface values, of a map's lookup, entry and store. -/
import Derived.Test.YthkemcekcfccpaaBrandComparesE1
import Derived.Laws.Rows
import Derived.Laws.ResultCell
namespace Go.Proofs.Ythkemcekcfccpaa.GBrandCompares
open Go.RowKit
set_option linter.unusedVariables false

section
variable {P : Program} {Q : Exit → Act → World → Prop}
theorem wp_value {o : Oper} {a : Act} {w w' : World} {K : Act → World → Prop} (v : Value) (hrun : (execOp a.eval o).run P w = .ok (.value v) w') (h : K (a.put o.dst v) w') : Oper.wp P o a w K Q := by
  unfold Oper.wp
  rw [hrun]
  exact h
theorem wp_panic {o : Oper} {a : Act} {w w' : World} {K : Act → World → Prop} (v : Value) (hrun : (execOp a.eval o).run P w = .halt (.panic v) w') (h : Q (.panic [{ v := v, recovered := false }]) a w') : Oper.wp P o a w K Q := by
  unfold Oper.wp
  rw [hrun]
  exact h
theorem valueL {ops : Array Oper} {rest : List Oper} {o : Oper} {a : Act} {w w' : World} (N : Option Tmp) (hd : o.dst = N) (hg : o.guard = none) (v : Value) (hrun : (execOp a.eval o).run P w = .ok (.value v) w') (h : wpList P ops Q rest (a.put N v) w') : wpList P ops Q (o :: rest) a w := by
  refine wpList_plain hg fun K hK => ?_
  subst hd
  exact wp_value v hrun (hK _ _ h)
theorem panicL {ops : Array Oper} {rest : List Oper} {o : Oper} {a : Act} {w w' : World} (N : Option Tmp) (hd : o.dst = N) (hg : o.guard = none) (v : Value) (hrun : (execOp a.eval o).run P w = .halt (.panic v) w') (h : Q (.panic [{ v := v, recovered := false }]) a w') : wpList P ops Q (o :: rest) a w := by
  refine wpList_plain hg fun K hK => ?_
  exact wp_panic v hrun h
theorem valueS {ops : Array Oper} {E : Prop} {o : Oper} {a : Act} {w w' : World} {K : Act → World → Prop} (hg : o.guard = none) (v : Value) (hrun : (execOp a.eval o).run P w = .ok (.value v) w') (h : K (a.put o.dst v) w') : if Region.wanted o (yielded ops a.tmps) = true then Oper.wp P o a w K Q else E := by
  have hw : Region.wanted o (yielded ops a.tmps) = true := by simp [Region.wanted, hg]
  rw [if_pos hw]
  exact wp_value v hrun h
theorem panicS {ops : Array Oper} {E : Prop} {o : Oper} {a : Act} {w w' : World} {K : Act → World → Prop} (hg : o.guard = none) (v : Value) (hrun : (execOp a.eval o).run P w = .halt (.panic v) w') (h : Q (.panic [{ v := v, recovered := false }]) a w') : if Region.wanted o (yielded ops a.tmps) = true then Oper.wp P o a w K Q else E := by
  have hw : Region.wanted o (yielded ops a.tmps) = true := by simp [Region.wanted, hg]
  rw [if_pos hw]
  exact wp_panic v hrun h

theorem run_eql {ev : Operand → Value} {o : Oper} {t t' : TypeId} {x y : Operand} (ho : o.op = .binOp .eql t x y t') {t1 t2 : TypeId} {u1 u2 : Value} (hx : ev x = .iface t1 u1) (hy : ev y = .iface t2 u2) (w : World) :
    (execOp ev o).run P w = ((Op.equalIn Op.maxDepth t (.iface t1 u1) (.iface t2 u2)).run P w).andThen fun b w => .ok (.value (.bool b)) w := by
  unfold execOp
  simp only [ho, hx, hy, eqGuard, binOp, Op.equal]
  simp


theorem results_row_tmp {fn : Func} {p u : Tmp} {ty : TypeId} (h : fn.results = #[.cell p ty, .tmp u]) (tmps : Array Value) (w : World) (g : Nat) (t : TypeId) (cs : Array Value) (fr : Nat × Nat) (d : TypeDesc)
    (hp : tmps.getD p undef = .pointer (some ⟨g, 0, none⟩)) (hg : w.heap[g]? = some (.cells cs t fr))
    (hu : P.underlying ty = some d) (hd : (match d with | .struct _ | .array _ _ => true | _ => false) = true) (hi : (P.info? ty).map (·.size) = some cs.size) :
    (results fn tmps).run P w = .ok (.tuple #[.agg cs, tmps.getD u undef]) w := by
  have hp' : tmps[p]?.getD undef = .pointer (some ⟨g, 0, none⟩) := by simpa using hp
  simp [results, h, hp', asAddr, run_loadVar_row w g t ty cs fr d hg hu hd hi]
theorem results_row_tmp2 {fn : Func} {p u v : Tmp} {ty : TypeId} (h : fn.results = #[.cell p ty, .tmp u, .tmp v]) (tmps : Array Value) (w : World) (g : Nat) (t : TypeId) (cs : Array Value) (fr : Nat × Nat) (d : TypeDesc)
    (hp : tmps.getD p undef = .pointer (some ⟨g, 0, none⟩)) (hg : w.heap[g]? = some (.cells cs t fr))
    (hu : P.underlying ty = some d) (hd : (match d with | .struct _ | .array _ _ => true | _ => false) = true) (hi : (P.info? ty).map (·.size) = some cs.size) :
    (results fn tmps).run P w = .ok (.tuple #[.agg cs, tmps.getD u undef, tmps.getD v undef]) w := by
  have hp' : tmps[p]?.getD undef = .pointer (some ⟨g, 0, none⟩) := by simpa using hp
  simp [results, h, hp', asAddr, run_loadVar_row w g t ty cs fr d hg hu hd hi]
end

end Go.Proofs.Ythkemcekcfccpaa.GBrandCompares
