/- 'met' of package brand: a call that may meet the machine's own panic (met$1 deferred, recover). -/
import Derived.Test.YthkemcekcfccpaaBrandComparesH7
import Derived.Defers
import Derived.Recover
import Derived.Test.YthkemcekcfccpaaBrandComparesG2
namespace Go.Proofs.Ythkemcekcfccpaa.PBrandCompares
open Go.RowKit Go.Proofs.YthkemcekcfccpaaW.PrintWords Go.Proofs.YthkemcekcfccpaaW.PrintLast Go.Proofs.YthkemcekcfccpaaW.PrintMore
open Go.Proofs.Ythkemcekcfccpaa.GBrandCompares
set_option linter.unusedVariables false
set_option linter.unusedSimpArgs false

theorem catch_idle (p : Addr) (w : World) :
    CallsD Try.prog 49 #[.pointer (some p)] .returning w fun e u' w' => e = .returned (.tuple #[]) ∧ u' = .returning ∧ w' = w := by
  refine callsD_of_wpS Try.func49 rfl fun c₀ cs hu => ?_
  apply wpS_seq
  apply wpS_region
  simp [wpOpsS, go_sem, recoverD, hu, Try.ntmps49, Exit.thenS]
  refine wpS_of_wp ?_
  rw [show #[Value.pointer (some p)] ++ ((Array.replicate 14 undef).setIfInBounds 3 Value.nilIface).setIfInBounds 0 Value.nilIface = #[Value.pointer (some p), .nilIface, undef, undef, .nilIface, undef, undef, undef, undef, undef, undef, undef, undef, undef, undef] from rfl]
  go_wp2
  cases c₀
  simp_all [bodyPostS, results, Try.results49]

theorem assert10 (v : Value) (w : World) : (Instr.typeAssert (.iface 10 v) 20 91 true).run Try.prog w = .ok (.tuple #[.iface 10 v, .bool true]) w := by kernel_rfl
theorem assert19 (v : Value) (w : World) : (Instr.typeAssert (.iface 19 v) 20 91 true).run Try.prog w = .ok (.tuple #[.iface 19 v, .bool true]) w := by kernel_rfl

theorem catch_panicking (p : Addr) (u : TypeId) (hu : u = 10 ∨ u = 19) (pv : Value) (older : List PanicEntry) (w : World) (hc : w.cell? p = some (.bool false)) (hz : w.frozen? p = false) :
    CallsD Try.prog 49 #[.pointer (some p)] (.panicking ({ v := .iface u pv, recovered := false } :: older)) w fun e u' w' =>
      e = .returned (.tuple #[]) ∧ u' = .panicking ({ v := .iface u pv, recovered := true } :: older) ∧ w' = w.setCell p (.bool true) := by
  have ha : (Instr.typeAssert (.iface u pv) 20 91 true).run Try.prog w = .ok (.tuple #[.iface u pv, .bool true]) w := by
    rcases hu with rfl | rfl
    · exact assert10 pv w
    · exact assert19 pv w
  clear hu
  refine callsD_of_wpS Try.func49 rfl fun c₀ cs hm => ?_
  apply wpS_seq
  apply wpS_region
  simp [wpOpsS, go_sem, recoverD, hm, Try.ntmps49, Exit.thenS]
  refine wpS_of_wp ?_
  rw [show #[Value.pointer (some p)] ++ ((Array.replicate 14 undef).setIfInBounds 3 (Value.iface u pv)).setIfInBounds 0 (Value.iface u pv) = #[Value.pointer (some p), .iface u pv, undef, undef, .iface u pv, undef, undef, undef, undef, undef, undef, undef, undef, undef, undef] from rfl]
  go_wp2
  cases c₀
  simp_all [bodyPostS, results, Try.results49]

theorem met_ok (g : FuncId) (caps : Array Value) (S : Nat → Prop) (R : World → Prop) (w : World) (hS : ∀ b, S b → b < w.heap.size) (hen : ∀ w, (callFunc g caps).run Try.prog w = .ok (.enter g caps) w)
    (h : Calls Try.prog g caps (w.alloc (.cells #[.bool false] 4)) fun e w' => e = .returned (.tuple #[]) ∧ Ex S (w.alloc (.cells #[.bool false] 4)) w' ∧ R w') :
    Calls Try.prog 30 #[.func (.func g) #[] caps] w fun e w' => e = .returned (.bool false) ∧ ∃ w1, R w1 ∧ Ex S (w.alloc (.cells #[.bool false] 4)) w1 ∧ w' = w1.setCell ⟨w.heap.size, 0, none⟩ (.bool false) := by
  have hmf : ∀ (fn : Fn) (first cap : Array Value) (w : World), (Instr.makeFunc fn first cap).run Try.prog w = .ok (.func fn first cap) w := fun _ _ _ _ => rfl
  have H := Aside0.mk h
  have HS := Aside0.mk hS
  clear h hS
  go_enter_defers Try.func30, Try.ntmps30
  go_wp2_with fail
  refine H.out.mono ?_
  rintro e w1 ⟨rfl, hx, hr⟩
  have HX := Aside0.mk hx
  have HR := Aside0.mk hr
  have HB := Aside0.mk (hx.blk (blk_new1 w _) (fun h => absurd (HS.out _ h) (Nat.lt_irrefl _)))
  clear hx hr
  have hc := (blk_cell HB.out 0).trans rfl
  have hf := blk_frozen HB.out 0
  have hl := lt_of_blk HB.out
  go_wp2
  refine leaves_cons (f := 49) (args := #[.pointer (some ⟨w.heap.size, 0, none⟩)]) (by simp) (by simp [go_sem]) ?_
  refine (catch_idle ⟨w.heap.size, 0, none⟩ _).mono ?_
  rintro e u' w'' ⟨rfl, rfl, rfl⟩
  simp [Leaves, settle, results, Try.results30, go_sem]
  rw [(blk_cell (blk_put HB.out 0 (.bool false) rfl) 0).trans rfl]
  exact ⟨_, rfl, rfl, w1, HR.out, HX.out, rfl⟩

theorem met_panic (g : FuncId) (caps : Array Value) (S : Nat → Prop) (R : World → Prop) (w : World) (hS : ∀ b, S b → b < w.heap.size) (hen : ∀ w, (callFunc g caps).run Try.prog w = .ok (.enter g caps) w)
    (h : Calls Try.prog g caps (w.alloc (.cells #[.bool false] 4)) fun e w' => (∃ u pv, (u = 10 ∨ u = 19) ∧ e = .panicked [{ v := .iface u pv, recovered := false }]) ∧ Ex S (w.alloc (.cells #[.bool false] 4)) w' ∧ R w') :
    Calls Try.prog 30 #[.func (.func g) #[] caps] w fun e w' => e = .returned (.bool true) ∧ ∃ w1, R w1 ∧ Ex S (w.alloc (.cells #[.bool false] 4)) w1 ∧ w' = w1.setCell ⟨w.heap.size, 0, none⟩ (.bool true) := by
  have hmf : ∀ (fn : Fn) (first cap : Array Value) (w : World), (Instr.makeFunc fn first cap).run Try.prog w = .ok (.func fn first cap) w := fun _ _ _ _ => rfl
  have H := Aside0.mk h
  have HS := Aside0.mk hS
  clear h hS
  go_enter_defers Try.func30, Try.ntmps30
  go_wp2_with fail
  refine H.out.mono ?_
  rintro e w1 ⟨⟨u, pv, hu, rfl⟩, hx, hr⟩
  have HU := Aside0.mk hu
  clear hu
  have HX := Aside0.mk hx
  have HR := Aside0.mk hr
  have HB := Aside0.mk (hx.blk (blk_new1 w _) (fun h => absurd (HS.out _ h) (Nat.lt_irrefl _)))
  clear hx hr
  have hc := (blk_cell HB.out 0).trans rfl
  have hf := blk_frozen HB.out 0
  have hl := lt_of_blk HB.out
  go_wp2
  refine leaves_cons (f := 49) (args := #[.pointer (some ⟨w.heap.size, 0, none⟩)]) (by simp) (by simp [go_sem]) ?_
  refine (catch_panicking ⟨w.heap.size, 0, none⟩ u HU.out pv [] _ hc hf).mono ?_
  rintro e u' w'' ⟨rfl, rfl, rfl⟩
  simp [Leaves, settle, results, Try.results30, go_sem]
  rw [(blk_cell (blk_put HB.out 0 (.bool true) rfl) 0).trans rfl]
  exact ⟨_, rfl, rfl, w1, HR.out, HX.out, rfl⟩

/-- how deep the model's == goes down is enough -/
theorem deep_enough {n : Nat} (h : n ≤ 16) : 2 * n + 2 ≤ Op.maxDepth := by
  show _ ≤ 10000
  omega

theorem eq_of {a b : Mk} {t1 t2 : TypeId} {u1 u2 : Value} {ev : Operand → Value} {o : Oper} {x y : Operand} (ha : a.deep ≤ 16) (h1 : a.val = .iface t1 u1) (h2 : b.val = .iface t2 u2) (ho : o.op = .binOp .eql 45 x y 45) (hx : ev x = .iface t1 u1) (hy : ev y = .iface t2 u2) (w : World) :
    (execOp ev o).run Try.prog w = (eqRes (a.cmp b) w).andThen fun b w => .ok (.value (.bool b)) w := by
  rw [run_eql ho hx hy, ← h1, ← h2, eq_marks a b _ _ (deep_enough ha)]

/-- Compare$1: the two marks' equality: 'true' -/
theorem same_marks (a b : Mk) (ha : a.deep ≤ 16) (ga gb gc : Nat) (w : World) (h1 : w.heap[ga]? = some (.cells #[a.val] 45 (0, 0))) (h2 : w.heap[gb]? = some (.cells #[b.val] 45 (0, 0))) (h3 : w.heap[gc]? = some (.cells #[.int .u8 0] 30 (0, 0))) (hc : a.cmp b = 1) :
    Calls Try.prog 31 #[.pointer (some ⟨ga, 0, none⟩), .pointer (some ⟨gb, 0, none⟩), .pointer (some ⟨gc, 0, none⟩)] w fun e w' => e = .returned (.tuple #[]) ∧ w' = w.setCell ⟨gc, 0, none⟩ (.int .u8 1) := by
  have hl1 := lt_of_blk h1
  have hl2 := lt_of_blk h2
  have hl3 := lt_of_blk h3
  have c1 := (blk_cell h1 0).trans rfl
  have c2 := (blk_cell h2 0).trans rfl
  have c3 := (blk_cell h3 0).trans rfl
  have f3 := blk_frozen h3 0
  clear h1 h2 h3
  obtain ⟨t1, u1, hu1⟩ := a.val_iface
  obtain ⟨t2, u2, hu2⟩ := b.val_iface
  rw [hu1] at c1
  rw [hu2] at c2
  have HU := Aside0.mk (And.intro hu1 hu2)
  have HC := Aside0.mk hc
  have HA := Aside0.mk ha
  clear hc ha hu1 hu2
  go_enter Try.func31, Try.ntmps31
  go_wp2_with (refine valueL (some 5) rfl rfl (.bool true) ((eq_of HA.out HU.out.1 HU.out.2 rfl rfl rfl _).trans (by rw [HC.out]; rfl)) ?_)
  first | refine bodyPost_ret (results_none rfl _ _ _) rfl ?_ | refine bodyPost_end (results_none rfl _ _ _) rfl ?_
  exact ⟨rfl, rfl⟩

/-- .. 'false' -/
theorem unlike_marks (a b : Mk) (ha : a.deep ≤ 16) (ga gb gc : Nat) (w : World) (h1 : w.heap[ga]? = some (.cells #[a.val] 45 (0, 0))) (h2 : w.heap[gb]? = some (.cells #[b.val] 45 (0, 0))) (hc : a.cmp b = 0) :
    Calls Try.prog 31 #[.pointer (some ⟨ga, 0, none⟩), .pointer (some ⟨gb, 0, none⟩), .pointer (some ⟨gc, 0, none⟩)] w fun e w' => e = .returned (.tuple #[]) ∧ w' = w := by
  have hl1 := lt_of_blk h1
  have hl2 := lt_of_blk h2
  have c1 := (blk_cell h1 0).trans rfl
  have c2 := (blk_cell h2 0).trans rfl
  clear h1 h2
  obtain ⟨t1, u1, hu1⟩ := a.val_iface
  obtain ⟨t2, u2, hu2⟩ := b.val_iface
  rw [hu1] at c1
  rw [hu2] at c2
  have HU := Aside0.mk (And.intro hu1 hu2)
  have HC := Aside0.mk hc
  have HA := Aside0.mk ha
  clear hc ha hu1 hu2
  go_enter Try.func31, Try.ntmps31
  go_wp2_with (refine valueL (some 5) rfl rfl (.bool false) ((eq_of HA.out HU.out.1 HU.out.2 rfl rfl rfl _).trans (by rw [HC.out]; rfl)) ?_)
  first | refine bodyPost_ret (results_none rfl _ _ _) rfl ?_ | refine bodyPost_end (results_none rfl _ _ _) rfl ?_
  exact ⟨rfl, rfl⟩

/-- .. the panic -/
theorem panic_marks (a b : Mk) (ha : a.deep ≤ 16) (ga gb gc : Nat) (w : World) (h1 : w.heap[ga]? = some (.cells #[a.val] 45 (0, 0))) (h2 : w.heap[gb]? = some (.cells #[b.val] 45 (0, 0))) (hc : a.cmp b = 2) :
    Calls Try.prog 31 #[.pointer (some ⟨ga, 0, none⟩), .pointer (some ⟨gb, 0, none⟩), .pointer (some ⟨gc, 0, none⟩)] w fun e w' => e = .panicked [{ v := .iface 10 (strVal "comparing uncomparable type brand.row"), recovered := false }] ∧ w' = w := by
  have hl1 := lt_of_blk h1
  have hl2 := lt_of_blk h2
  have c1 := (blk_cell h1 0).trans rfl
  have c2 := (blk_cell h2 0).trans rfl
  clear h1 h2
  obtain ⟨t1, u1, hu1⟩ := a.val_iface
  obtain ⟨t2, u2, hu2⟩ := b.val_iface
  rw [hu1] at c1
  rw [hu2] at c2
  have HU := Aside0.mk (And.intro hu1 hu2)
  have HC := Aside0.mk hc
  have HA := Aside0.mk ha
  clear hc ha hu1 hu2
  go_enter Try.func31, Try.ntmps31
  go_wp2_with (refine panicL (some 5) rfl rfl (.iface 10 (strVal "comparing uncomparable type brand.row")) ((eq_of HA.out HU.out.1 HU.out.2 rfl rfl rfl _).trans (by rw [HC.out]; rfl)) ?_)
  exact ⟨rfl, rfl, rfl⟩

end Go.Proofs.Ythkemcekcfccpaa.PBrandCompares
