/- A row of the call's own (ownsRow) over calls (Ex), and one element more behind it, as a step of a region that draws, and as one of a plain region. -/
import Derived.Test.YthkemcekcfccpaaBrandComparesE1
import Derived.Test.YthkemcekcfccpaaPBrandComparesx0
import Derived.RangeFuncBox
namespace Go.Proofs.Ythkemcekcfccpaa.GBrandCompares
open Go.RowKit Go.Proofs.YthkemcekcfccpaaW.PrintWords
set_option linter.unusedVariables false

theorem mine_ex {S : Nat → Prop} {w w1 : World} {base size n : Nat} {e : TypeId} {v : Value} {xs : List Value} (h : w.ownsRow base e size v n xs) (hx : Ex S w w1) (hs : ∀ b, S b → some b ≠ v.ownBlock) : w1.ownsRow base e size v n xs := by
  refine ⟨h.1, ?_⟩
  rcases h.2 with hn | ⟨g, cap, cur, rfl, hb, hg, rest⟩
  · exact .inl hn
  · exact .inr ⟨g, cap, cur, rfl, hb, hx.blk hg (fun h1 => hs g h1 rfl), rest⟩
theorem mine_ex0 {w w1 : World} {base size n : Nat} {e : TypeId} {v : Value} {xs : List Value} (h : w.ownsRow base e size v n xs) (hx : Ex (fun _ => False) w w1) : w1.ownsRow base e size v n xs :=
  mine_ex h hx (fun _ h => h.elim)
theorem mine_ne {w : World} {base size n b : Nat} {e T : TypeId} {v : Value} {xs : List Value} {cs : Array Value} {fz : Nat × Nat} (h : w.ownsRow base e size v n xs) (hb : w.heap[b]? = some (.cells cs T fz)) (hT : T ≠ e) : some b ≠ v.ownBlock := by
  intro e1
  rcases h.2 with ⟨rfl, _⟩ | ⟨g, cap, cur, rfl, _, hg, _⟩
  · simp [Value.ownBlock] at e1
  · simp only [Value.ownBlock, Option.some.injEq] at e1
    subst e1
    rw [hg] at hb
    simp at hb
    exact hT hb.2.1.symm
theorem mine_ne' {w : World} {base size n b : Nat} {e : TypeId} {v : Value} {xs : List Value} {o : Obj} (h : w.ownsRow base e size v n xs) (hb : w.heap[b]? = some o) (ho : o.isCells = false) : some b ≠ v.ownBlock := by
  intro e1
  rcases h.2 with ⟨rfl, _⟩ | ⟨g, cap, cur, rfl, _, hg, _⟩
  · simp [Value.ownBlock] at e1
  · simp only [Value.ownBlock, Option.some.injEq] at e1
    subst e1
    rw [hg] at hb
    cases hb
    simp [Obj.isCells] at ho
theorem mine_base {w : World} {base size n b : Nat} {e : TypeId} {v : Value} {xs : List Value} (h : w.ownsRow base e size v n xs) (hb : some b = v.ownBlock) : base ≤ b := by
  rcases h.2 with ⟨rfl, _⟩ | ⟨g, cap, cur, rfl, hg, _⟩
  · simp [Value.ownBlock] at hb
  · simp only [Value.ownBlock, Option.some.injEq] at hb
    omega
theorem mine_form {w : World} {base size n : Nat} {e : TypeId} {v : Value} {xs : List Value} (h : w.ownsRow base e size v (n + 1) xs) : ∃ g cap, v = .slice (some ⟨g, 0, none⟩) (n + 1) cap ∧ base ≤ g ∧ g < w.heap.size ∧ n + 1 ≤ cap := by
  rcases h.2 with ⟨_, h0⟩ | ⟨g, cap, cur, rfl, hb, hg, hn, _⟩
  · omega
  · exact ⟨g, cap, rfl, hb, lt_of_blk hg, hn⟩

section
variable {P : Program} {w : World} {Q : Exit → Act → World → Prop} {a : Act} {o : Oper}
theorem wp_push {K : Act → World → Prop} (s x : Operand) (t : TypeId) (ho : o.op = .call { callee := .builtin .append, args := #[s, x], argTypes := #[t, t] })
    (base : Nat) (e : TypeId) (i : TypeInfo) (z : Value) (bytes : Nat) (ht : P.underlying t = some (.slice e)) (hi : P.info? e = some i) (hz : i.zero = some z) (hsize : i.size = 1) (hby : i.bytes = bytes) (hzs : z.cells.size = 1)
    (v u : Value) (T : TypeId) (n : Nat) (xs : List Value) (hs : a.eval s = v) (hx : a.eval x = .slice (some ⟨w.heap.size, 0, none⟩) 1 1) (hown : w.ownsRow base e 1 v n xs) (hu : u.oneCell' = true)
    (h63 : n + 1 ≤ maxLen) (hbytes : (n + 1) * bytes ≤ 140737488355328) (hbase : base ≤ w.heap.size)
    (h : ∀ v' w', w'.ownsRow base e 1 v' (n + 1) (xs ++ [u]) → Ex (fun b => some b = v.ownBlock) (w.alloc (.cells #[u] T)) w' → K (a.put o.dst v') w') : o.wp P a (w.alloc (.cells #[u] T)) K Q := by
  refine wp_append_own (w.alloc (.cells #[u] T)) s x t ho base e i z 1 bytes ht hi hz hsize hby hzs (by omega) v n xs hs (mine_ex0 hown ((Ex.refl _ _).alloc _)) ⟨w.heap.size, 0, none⟩ 1 1 [u] hx rfl ?_ ?_ h63 hbytes (Nat.le_trans hbase (by simp)) ?_
  · intro j y hj
    cases j with
    | zero =>
      simp at hj
      subst hj
      rw [Addr.add, if_pos rfl]
      exact (blk_cell (blk_new1 w _) 0).trans rfl
    | succ j => simp at hj
  · simpa using hu
  · intro v' w' h1 h2 _
    exact h v' w' h1 ⟨h2.os, h2.tape, h2.output, h2.size, fun b hb hn => h2.block b hb hn⟩
/-- as a step of a region that draws -/
theorem step_push {ops : Array Oper} {E : Prop} {K : Act → World → Prop} (hg : o.guard = none) (s x : Operand) (t : TypeId) (ho : o.op = .call { callee := .builtin .append, args := #[s, x], argTypes := #[t, t] })
    (base : Nat) (e : TypeId) (i : TypeInfo) (z : Value) (bytes : Nat) (ht : P.underlying t = some (.slice e)) (hi : P.info? e = some i) (hz : i.zero = some z) (hsize : i.size = 1) (hby : i.bytes = bytes) (hzs : z.cells.size = 1)
    (v u : Value) (T : TypeId) (n : Nat) (xs : List Value) (hs : a.eval s = v) (hx : a.eval x = .slice (some ⟨w.heap.size, 0, none⟩) 1 1) (hown : w.ownsRow base e 1 v n xs) (hu : u.oneCell' = true)
    (h63 : n + 1 ≤ maxLen) (hbytes : (n + 1) * bytes ≤ 140737488355328) (hbase : base ≤ w.heap.size)
    (h : ∀ v' w', w'.ownsRow base e 1 v' (n + 1) (xs ++ [u]) → Ex (fun b => some b = v.ownBlock) (w.alloc (.cells #[u] T)) w' → K (a.put o.dst v') w') :
    if Region.wanted o (yielded ops a.tmps) = true then Oper.wp P o a (w.alloc (.cells #[u] T)) K Q else E := by
  have hw : Region.wanted o (yielded ops a.tmps) = true := by simp [Region.wanted, hg]
  rw [if_pos hw]
  exact wp_push s x t ho base e i z bytes ht hi hz hsize hby hzs v u T n xs hs hx hown hu h63 hbytes hbase h
end

end Go.Proofs.Ythkemcekcfccpaa.GBrandCompares
